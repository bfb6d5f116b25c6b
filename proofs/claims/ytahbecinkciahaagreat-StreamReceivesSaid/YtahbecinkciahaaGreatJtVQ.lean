/- Layer 30: validQueue. -/
import Derived.Test.YtahbecinkciahaaGreatSs9Q
import Derived.Test.YtahbecinkciahaaGreatJtSmallQ
set_option linter.unusedVariables false
set_option linter.unusedSimpArgs false
set_option maxRecDepth 100000
set_option maxHeartbeats 12800000
namespace Go.Proofs.YtahbecinkciahaaGreat
attribute [local go_sem ↓] zae zaf
attribute [local go_sem] zad zag
open Go.RowKit
theorem zdr {H:Type} {P:Program} {k:TypeId} {R:Value→Option (DataW H×List MemPlace)} {w w':World} {b n:Nat} {D:DataW H} (h:w.ownsMap P k R b n D) (hb:Below w.heap.size w w'):w'.ownsMap P k R b n D:=by
 have hlt:=h.lt
 obtain ⟨es,clock,h1,r⟩:=h
 exact ⟨es,clock,(hb.block b hlt).trans h1,r⟩
theorem zwq {z:Int} (h:I64 z):(Lit.int .i64 z).wf=true:=by
 obtain ⟨h1,h2⟩:=h
 have e1:IntKind.i64.min = -9223372036854775808:=by decide
 have e2:IntKind.i64.max=9223372036854775807:=by decide
 simp [Lit.wf,e1,e2,h1,h2]
theorem zix (w:World):(zeroValue 4).run Tryz.prog w = .ok (.bool false) w:=by kernel_rfl
theorem zki:Maps.Keyed Tryz.prog 2:=Maps.int_keyed Tryz.underlying2
theorem ziy {H:Type} {P:Program} {w:World} {k e t:TypeId} {b n:Nat} {D:DataW H} (h:w.ownsMap P k (plainElem P e) b n D) (K:Maps.Keyed P k) (ht:P.underlying t=some (.map k e)) (he:P.underlying e=some .bool) (hz:(zeroValue e).run P w = .ok (.bool false) w)
 {key:Value} {kl:Lit} (hkey:keyOf P k key=some kl) (c:Bool) (hc:D.atKey kl (.lit (.bool false)) = .lit (.bool c)):(Instr.lookup t (.map (some b)) key false).run P w = .ok (.bool c) w:=by
 obtain ⟨v,ps,hrun,hv⟩:=h.lookup K ht hz (plainElem_bool he false) hkey
 obtain ⟨c',rfl,hc'⟩:=zdu he hv
 injection hc' with hc' _
 rw [hc] at hc'
 injection hc' with hc'
 injection hc' with hc'
 rw [hrun,hc']
def QTest (nw hi:Int) (a:Jb.Wt):Prop:=a.m.ok∧nw<a.at_∧a.at_≤562949953421312∧a.m.sq≤hi
theorem zqd (nw hi:Int) (q:List Jb.Wt) (k:Nat) (a:Jb.Wt) (h:q[k]? = some a):Jb.okAt nw hi q k↔(a.m.ok∧nw<a.at_∧a.at_≤562949953421312∧a.m.sq≤hi)∧(((q.take k).map fun x=>x.m.sq).any fun x=>x==a.m.sq)=false∧(0<k→Jb.bef (q.getD (k-1) Jb.Wt.zero) a):=by
 have hk:k<q.length:=(List.getElem?_eq_some_iff.1 h).1
 have e:q.getD k Jb.Wt.zero=a:=by simp [List.getD_eq_getElem?_getD,h]
 unfold Jb.okAt
 rw [e]
 constructor
 · rintro ⟨h1,h2,h3,h4,h5,h6⟩
   refine ⟨⟨h1,h2,h3,h4⟩,?_,h5⟩
   rw [List.any_eq_false]
   intro x hx
   obtain ⟨y,hy,rfl⟩:=List.mem_map.1 hx
   obtain ⟨i,hi',rfl⟩:=List.getElem_of_mem hy
   have hik:i<k:=by simp at hi';omega
   have:=h6 i hik
   rw [Jb.getD_eq (by omega)] at this
   rw [List.getElem_take]
   simpa using this
 · rintro ⟨⟨h1,h2,h3,h4⟩,h5,h6⟩
   refine ⟨h1,h2,h3,h4,h6,fun i hik => ?_⟩
   rw [List.any_eq_false] at h5
   have:=h5 (q.getD i Jb.Wt.zero).m.sq (List.mem_map.2 ⟨q.getD i Jb.Wt.zero,?_,rfl⟩)
   · simpa using this
   · rw [Jb.getD_eq (by omega)]
     exact List.mem_take_iff_getElem.2 ⟨i,by omega,rfl⟩
theorem zde (le mo nw:Int) (on:Bool) (ze fi hi dn sp tr:Int) (A:Option Addr) (l:List TW) (n qc:Nat) (la tw pd:Int) (w:World) (hn:l.length=n) (hl:n≤100000) (hA:Wts w w.heap.size A l) (hK:∀ a∈l,I64 a.w.m.sq) (v:Bool) (hv:v=decide (Jb.okQ nw hi (l.map TW.w))):Calls Tryz.prog 125 #[.agg #[.int .i64 le, .int .i64 mo, .int .i64 nw, .bool on, .int .i64 ze, .int .i64 fi, .int .i64 hi, .int .i64 dn, .int .i64 sp, .int .i64 tr, .slice A n qc, .int .i64 la, .int .i64 tw, .int .i64 pd]] w fun e w'=>e = .returned (.bool v)∧Below w.heap.size w w':=by
 subst hn
 have HA:=H9 hA
 have HK:=H9 hK
 have HV:=H9 hv
 have hmm:=@run_makeMap Tryz.prog
 clear hA hK hv
 by_cases h200:l.length≤200
 rotate_left
 · have hv:v=false:=by rw [HV.out,decide_eq_false_iff_not];intro h;exact h200 (by simpa using h.1)
   subst hv
   have h201:(200:Int)<(l.length:Int):=by omega
   go_enter Tryz.func125,Tryz.ntmps125
   go_wp2_with fail
   go_ret
   exact ⟨rfl,(Below.refl _ _).alloc (Nat.le_refl _) _⟩
 have h201:(l.length:Int)≤(200:Int):=by omega
 go_enter Tryz.func125,Tryz.ntmps125
 go_wp2_with fail
 go_loopg [14] l.length (fun gk i wr => ∃ k:Nat,gk+k=l.length∧i = .int .i64 k∧Hid (∀ j,j<k→Jb.okAt nw hi (l.map TW.w) j)∧Hid (wr.ownsMap Tryz.prog 2 (plainElem (H:=Unit) Tryz.prog 4) (w.heap.size+1) k (sqMap Unit (((l.map TW.w).take k).map fun x=>x.m.sq)))∧Hid (Blk wr w.heap.size 40 #[.int .i64 le, .int .i64 mo, .int .i64 nw, .bool on, .int .i64 ze, .int .i64 fi, .int .i64 hi, .int .i64 dn, .int .i64 sp, .int .i64 tr, .slice A l.length qc, .int .i64 la, .int .i64 tw, .int .i64 pd])∧Hid (Bel w wr))
 case atStart =>
  refine ⟨0,rfl,rfl,H9 (fun j h=>absurd h (by omega)),H9 ?_,H9 (Blk.push (Blk.new w _ _) _),H9 (((Bel.refl w).push _).push _)⟩
  have:=World.ownsMap_made (w.alloc (.cells #[.int .i64 le, .int .i64 mo, .int .i64 nw, .bool on, .int .i64 ze, .int .i64 fi, .int .i64 hi, .int .i64 dn, .int .i64 sp, .int .i64 tr, .slice A l.length qc, .int .i64 la, .int .i64 tw, .int .i64 pd] 40)) Tryz.prog 2 (plainElem (H:=Unit) Tryz.prog 4)
  rw [zbc] at this
  exact this
 case round =>
  obtain ⟨k,hgk,rfl,HT,HM,BS,U⟩:=hrel
  have hi0:(0:Int)≤(k:Int):=by omega
  by_cases hk:k<l.length
  rotate_left
  · obtain rfl:k=l.length:=by omega
    have hi1:(l.length:Int)≤(l.length:Int):=Int.le_refl _
    have hv:v=true:=by rw [HV.out,decide_eq_true_iff];exact ⟨by simpa using h200,fun j hj=>HT.out j (by simpa using hj)⟩
    subst hv
    go_wp2_with fail
    go_ret
    exact ⟨rfl,U.out⟩
  have hi1:(k:Int)<(l.length:Int):=by omega
  obtain ⟨a,ha⟩:∃ a,l[k]? = some a:=⟨_,List.getElem?_eq_getElem hk⟩
  obtain ⟨b,off,rfl,hbB,e0,e1,e2,e3,e4,e5⟩:=zbs (HA.out.1.keep (fun p hp=>U.out.cell hp)) ha
  have hka:=HK.out a (List.mem_of_getElem? ha)
  have hm:(l.map TW.w)[k]? = some a.w:=by rw [List.getElem?_map,ha];rfl
  have HN:Hid (¬Jb.okAt nw hi (l.map TW.w) k→v=false):=H9 (fun hnot=>by rw [HV.out,decide_eq_false_iff_not];intro h;exact hnot (h.2 k (by simpa using hk)))
  have HO:=H9 (zqd nw hi (l.map TW.w) k a.w hm)
  have HMM:=H9 hm
  obtain ⟨⟨at0,⟨sq0,ti0,mk0,ty0,pl0⟩⟩,B0,c0⟩:=a
  simp only at e0 e1 e2 e3 e4 e5 hka HO HMM
  have hkey:=Maps.keyOf_int_mk (P:=Tryz.prog) Tryz.underlying2 (zwq hka)
  have p2:=BS.out.at 2 _ rfl
  have p6:=BS.out.at 6 _ rfl
  have p10:=BS.out.at 10 _ rfl
  have hlt:=BS.out.lt
  clear ha hm hka
  obtain ⟨fv,hfv⟩:∃ fv,fv=decide ((0≤sq0∧sq0≤281474976710656)∧(-281474976710656≤ti0∧ti0≤281474976710656)∧pl0.length≤1500):=⟨_,rfl⟩
  have k1:=H9 fun W=>zgw sq0 ti0 mk0 ty0 B0 pl0.length c0 W fv hfv
  have HF:Hid (fv=decide (Jb.Md.ok ⟨sq0,ti0,mk0,ty0,pl0⟩)):=H9 hfv
  clear hfv
  cases fv
  · have hv:v=false:=HN.out (fun h=>by have:=(HO.out.1 h).1.1;have hf:=HF.out;rw [eq_comm,decide_eq_false_iff_not] at hf;exact hf this)
    subst hv
    go_wp2_with fail
    refine (k1.out _).mono ?_
    rintro e w1 ⟨rfl,hb1⟩
    have U1:=H9 ((U.out.push (.cells #[.int .i64 at0, .int .i64 sq0, .int .i64 ti0, .bool mk0, .int .u8 ty0, .slice B0 pl0.length c0] 105)).later hb1)
    clear hb1
    go_wp2_with fail
    go_ret
    exact ⟨rfl,U1.out⟩
  have hW:Blk (wr.alloc (.cells #[.int .i64 at0, .int .i64 sq0, .int .i64 ti0, .bool mk0, .int .u8 ty0, .slice B0 pl0.length c0] 105)) wr.heap.size 105 #[.int .i64 at0, .int .i64 sq0, .int .i64 ti0, .bool mk0, .int .u8 ty0, .slice B0 pl0.length c0]:=Blk.new wr _ _
  have BX:=H9 hW
  have hok:Jb.Md.ok ⟨sq0,ti0,mk0,ty0,pl0⟩:=by have hf:=HF.out;rw [eq_comm,decide_eq_true_iff] at hf;exact hf
  have HOK:=H9 hok
  clear hW hok HF
  by_cases c1:at0≤nw
  · have hv:v=false:=HN.out (fun h=>by have h9:nw<at0:=(HO.out.1 h).1.2.1;omega)
    subst hv
    go_wp2_with fail
    refine (k1.out _).mono ?_
    rintro e w1 ⟨rfl,hb1⟩
    have U1:=H9 ((U.out.push (.cells #[.int .i64 at0, .int .i64 sq0, .int .i64 ti0, .bool mk0, .int .u8 ty0, .slice B0 pl0.length c0] 105)).later hb1)
    have f0:=(BX.out.later hb1).at 0 _ rfl
    have g2:=((BS.out.push _).later hb1).at 2 _ rfl
    clear hb1
    go_wp2_with fail
    go_ret
    exact ⟨rfl,U1.out⟩
  have c1':nw<at0:=by omega
  by_cases c2:562949953421312<at0
  · have hv:v=false:=HN.out (fun h=>by have h9:at0≤562949953421312:=(HO.out.1 h).1.2.2.1;omega)
    subst hv
    go_wp2_with fail
    refine (k1.out _).mono ?_
    rintro e w1 ⟨rfl,hb1⟩
    have U1:=H9 ((U.out.push (.cells #[.int .i64 at0, .int .i64 sq0, .int .i64 ti0, .bool mk0, .int .u8 ty0, .slice B0 pl0.length c0] 105)).later hb1)
    have f0:=(BX.out.later hb1).at 0 _ rfl
    have g2:=((BS.out.push _).later hb1).at 2 _ rfl
    clear hb1
    go_wp2_with fail
    go_ret
    exact ⟨rfl,U1.out⟩
  have c2':at0≤562949953421312:=by omega
  by_cases c3:hi<sq0
  · have hv:v=false:=HN.out (fun h=>by have h9:sq0≤hi:=(HO.out.1 h).1.2.2.2;omega)
    subst hv
    go_wp2_with fail
    refine (k1.out _).mono ?_
    rintro e w1 ⟨rfl,hb1⟩
    have U1:=H9 ((U.out.push (.cells #[.int .i64 at0, .int .i64 sq0, .int .i64 ti0, .bool mk0, .int .u8 ty0, .slice B0 pl0.length c0] 105)).later hb1)
    have f0:=(BX.out.later hb1).at 0 _ rfl
    have f1:=(BX.out.later hb1).at 1 _ rfl
    have g2:=((BS.out.push _).later hb1).at 2 _ rfl
    have g6:=((BS.out.push _).later hb1).at 6 _ rfl
    clear hb1
    go_wp2_with fail
    go_ret
    exact ⟨rfl,U1.out⟩
  have c3':sq0≤hi:=by omega
  go_wp2_with fail
  refine (k1.out _).mono ?_
  rintro e w1 ⟨rfl,hb1⟩
  have U1:=H9 ((U.out.push (.cells #[.int .i64 at0, .int .i64 sq0, .int .i64 ti0, .bool mk0, .int .u8 ty0, .slice B0 pl0.length c0] 105)).later hb1)
  have f0:=(BX.out.later hb1).at 0 _ rfl
  have f1:=(BX.out.later hb1).at 1 _ rfl
  have g2:=((BS.out.push _).later hb1).at 2 _ rfl
  have g6:=((BS.out.push _).later hb1).at 6 _ rfl
  have HM1:=H9 (zdr (HM.out.alloc (.cells #[.int .i64 at0, .int .i64 sq0, .int .i64 ti0, .bool mk0, .int .u8 ty0, .slice B0 pl0.length c0] 105)) hb1)
  have BX1:=H9 (BX.out.later hb1)
  have BS1:=H9 ((BS.out.push (.cells #[.int .i64 at0, .int .i64 sq0, .int .i64 ti0, .bool mk0, .int .u8 ty0, .slice B0 pl0.length c0] 105)).later hb1)
  have hat:(sqMap Unit (((l.map TW.w).take k).map fun x=>x.m.sq)).atKey (.int .i64 sq0) (.lit (.bool false)) = .lit (.bool ((((l.map TW.w).take k).map fun x=>x.m.sq).any fun x=>x==sq0)):=zmj Unit sq0 _ _ rfl
  have HAT:=H9 hat
  clear hat
  have hgw:wr.heap.size<w1.heap.size:=BX1.out.lt
  clear hb1 e0 e1 e2 e3 e4 e5 p2 p6
  cases hseen:((((l.map TW.w).take k).map fun x=>x.m.sq).any fun x=>x==sq0)
  rotate_left
  · have hv:v=false:=HN.out (fun h=>by have:=(HO.out.1 h).2.1;rw [hseen] at this;cases this)
    subst hv
    have HS:=H9 hseen
    clear hseen
    have hrun:=ziy HM1.out zki Tryz.underlying214 Tryz.underlying4 (zix _) hkey true (by rw [HAT.out,HS.out])
    go_wp2_with fail
    go_ret
    exact ⟨rfl,U1.out⟩
  have HS:=H9 hseen
  clear hseen
  have hrun:=ziy HM1.out zki Tryz.underlying214 Tryz.underlying4 (zix _) hkey false (by rw [HAT.out,HS.out])
  go_wp2_with (at_mapUpdate;refine wpList_mapUpdate_own _ rfl _ _ _ 214 rfl 2 4 zki Tryz.underlying214 (plainElem (H:=Unit) Tryz.prog 4) (w.heap.size+1) k _ rfl HM1.out (by unfold maxLen;omega) _ _ _ rfl rfl hkey _ [] (plainElem_bool Tryz.underlying4 true) ?_;intro w2 hown2 hgrow2)
  simp only [Act.put]
  have hs2:=hgrow2.size
  have hmb:=HM.out.lt
  have hwl:=BS.out.lt
  have BX2:=H9 (BX1.out.grown hgrow2 (by intro e;injection e with e;omega))
  have BS2:=H9 (BS1.out.grown hgrow2 (by intro e;injection e with e;omega))
  have U2:Hid (Bel w w2):=H9 (U1.out.grown hgrow2 U1.out.size (fun g e=>by injection e with e;omega))
  have HOWN2:Hid (w2.ownsMap Tryz.prog 2 (plainElem (H:=Unit) Tryz.prog 4) (w.heap.size+1) (k+1) (sqMap Unit (((l.map TW.w).take (k+1)).map fun x=>x.m.sq))):=H9 (by
   rw [List.take_add_one,HMM.out]
   simp only [Option.toList_some,List.map_append,List.map_cons,List.map_nil]
   rw [zef]
   exact hown2)
  have hgb:w.heap.size<w2.heap.size:=BS2.out.lt
  have hgc:wr.heap.size<w2.heap.size:=BX2.out.lt
  clear hown2 hgrow2 hrun HM1 BS1 BX1 f0 f1 g2 g6
  have f0:=BX2.out.at 0 _ rfl
  have f1:=BX2.out.at 1 _ rfl
  have f2:=BX2.out.at 2 _ rfl
  have f3:=BX2.out.at 3 _ rfl
  have f4:=BX2.out.at 4 _ rfl
  have f5:=BX2.out.at 5 _ rfl
  have g10:=BS2.out.at 10 _ rfl
  by_cases hk0:k=0
  · have hd1:decide (0<k)=false:=by rw [decide_eq_false_iff_not];omega
    have hd2:decide ((0:Int)<(k:Int))=false:=by rw [decide_eq_false_iff_not];omega
    have hd3:(k:Int)≤0:=by omega
    have HK0:=H9 hk0
    clear hk0
    go_quiet (fail)
    go_wp2_with fail
    go_roundg (gk-1)
    case measure=>omega
    case rel =>
     have hk0:=HK0.out
     subst hk0
     refine ⟨1,by omega,by go_num,H9 (fun j hj => ?_),HOWN2,H9 (BS2.out.drewN _),H9 (U2.out.drewN _)⟩
     obtain rfl:j=0:=by omega
     exact HO.out.2 ⟨⟨HOK.out,c1',c2',c3'⟩,HS.out,fun h=>absurd h (by omega)⟩
  obtain ⟨m,rfl⟩:∃ m,k=m+1:=⟨k-1,by omega⟩
  clear hk0
  obtain ⟨a9,ha9⟩:∃ a,l[m]? = some a:=⟨_,List.getElem?_eq_getElem (by omega)⟩
  obtain ⟨b9,off9,he9,hbB9,q0,q1,q2,q3,q4,q5⟩:=zbs (HA.out.1.keep (fun p hp=>U2.out.cell hp)) ha9
  injection he9 with he9
  injection he9 with he9a he9b
  subst he9a he9b
  have hm9:(l.map TW.w)[m]? = some a9.w:=by rw [List.getElem?_map,ha9];rfl
  have HM9:=H9 hm9
  obtain ⟨⟨at9,⟨sq9,ti9,mk9,ty9,pl9⟩⟩,B9,c9⟩:=a9
  simp only at q0 q1 q2 q3 q4 q5 HM9
  clear ha9 hm9
  obtain ⟨R,hR⟩:∃ R:Int,R=if at9<at0 then -1 else if at0<at9 then 1 else if sq9<sq0 then -1 else if sq0<sq9 then 1 else 0:=⟨_,rfl⟩
  have k2:=H9 fun W=>zfm at9 sq9 ti9 ty9 at0 sq0 ti0 ty0 mk9 mk0 B9 B0 pl9.length c9 pl0.length c0 W
  rw [← hR] at k2
  have HR:=H9 hR
  clear hR
  have hw1:IntKind.i64.wrap ((m:Int)+1-1)=(m:Int):=by rw [zat _ (by omega) (by omega)];omega
  have hm1:(m:Int)<(l.length:Int):=by omega
  have hm0:(0:Int)≤(m:Int):=by omega
  have hw2:IntKind.i64.wrap (((m+1:Nat):Int)-1)=(m:Int):=by rw [zat _ (by omega) (by omega)];omega
  have hw3:((m+1:Nat):Int)-1=(m:Int):=by omega
  have hw4:IntKind.i64.wrap (m:Int)=(m:Int):=zat _ (by omega) (by omega)
  have hm2:m<l.length:=by omega
  have hU:Below w2.heap.size w2 w2:=Below.refl _ _
  go_region_held3 (fun w'=>Below w2.heap.size w2 w'∧w'.cell? ⟨wr.heap.size,0,none⟩=some (.int .i64 at0)∧w'.cell? ⟨wr.heap.size,1,none⟩=some (.int .i64 sq0)∧w'.cell? ⟨wr.heap.size,2,none⟩=some (.int .i64 ti0)∧w'.cell? ⟨wr.heap.size,3,none⟩=some (.bool mk0)∧w'.cell? ⟨wr.heap.size,4,none⟩=some (.int .u8 ty0)∧w'.cell? ⟨wr.heap.size,5,none⟩=some (.slice B0 pl0.length c0)∧w'.cell? ⟨w.heap.size,10,none⟩=some (.slice (some ⟨b,off,none⟩) l.length qc)∧w'.cell? ⟨b,off+m*6,none⟩=some (.int .i64 at9)∧w'.cell? ⟨b,off+m*6+1,none⟩=some (.int .i64 sq9)∧w'.cell? ⟨b,off+m*6+2,none⟩=some (.int .i64 ti9)∧w'.cell? ⟨b,off+m*6+3,none⟩=some (.bool mk9)∧w'.cell? ⟨b,off+m*6+4,none⟩=some (.int .u8 ty9)∧w'.cell? ⟨b,off+m*6+5,none⟩=some (.slice B9 pl9.length c9))
   (first|assumption|((try go_split_ands);refine zav ?_ (fun hbX=>⟨zaa hbX f0,zaa hbX f1,zaa hbX f2,zaa hbX f3,zaa hbX f4,zaa hbX f5,zaa hbX g10,zaa hbX q0,zaa hbX q1,zaa hbX q2,zaa hbX q3,zaa hbX q4,zaa hbX q5⟩);(with_reducible repeat first|assumption|exact zai (by assumption) (by assumption)|refine Below.drew ?_|refine zaj ?_ _)))
   (first|(go_at_call 109;refine (k2.out _).mono ?_;rintro e w' ⟨rfl,qb⟩;have hbw:Below w2.heap.size w2 w':=zai qb (by (try go_split_ands);assumption);obtain ⟨hcc,hff⟩:=zdc qb))
  all_goals
   have UZ:=H9 (U2.out.later hbw)
   have HZ:=H9 (zdr HOWN2.out hbw)
   have BSZ:=H9 (BS2.out.later hbw)
   have hgd:(l.map TW.w).getD (m+1-1) Jb.Wt.zero=⟨at9,⟨sq9,ti9,mk9,ty9,pl9⟩⟩:=by rw [Nat.add_sub_cancel];simp [List.getD_eq_getElem?_getD,HM9.out]
   have HGD:=H9 hgd
   clear hgd hcc hff hbw qb q0 q1 q2 q3 q4 q5 f0 f1 f2 f3 f4 f5 g10
   by_cases hR0:0<R
   · have hv:v=false:=HN.out (fun h=>by
      have h9:=(HO.out.1 h).2.2 (by omega)
      rw [HGD.out] at h9
      unfold Jb.bef at h9
      simp only at h9
      have h8:=HR.out
      repeat (first|(split at h8)|omega))
     subst hv
     go_wp2_with fail
     go_ret
     exact ⟨rfl,UZ.out⟩
   · have hR1:R≤0:=by omega
     go_wp2_with fail
     go_roundg (gk-1)
     case measure=>omega
     case rel =>
      refine ⟨m+1+1,by omega,by go_num,H9 (fun j hj => ?_),HZ,BSZ,UZ⟩
      by_cases hj2:j<m+1
      · exact HT.out j hj2
      · obtain rfl:j=m+1:=by omega
        refine HO.out.2 ⟨⟨HOK.out,c1',c2',c3'⟩,HS.out,fun _ => ?_⟩
        rw [HGD.out]
        unfold Jb.bef
        simp only
        have hne:sq9≠sq0:=by
         have h7:=HS.out
         rw [List.any_eq_false] at h7
         have:=h7 sq9 (List.mem_map.2 ⟨⟨at9,⟨sq9,ti9,mk9,ty9,pl9⟩⟩,List.mem_of_getElem? (i:=m) (by rw [List.getElem?_take,if_pos (by omega)];exact HM9.out),rfl⟩)
         simpa using this
        have h8:=HR.out
        repeat (first|(split at h8)|omega)
end Go.Proofs.YtahbecinkciahaaGreat
