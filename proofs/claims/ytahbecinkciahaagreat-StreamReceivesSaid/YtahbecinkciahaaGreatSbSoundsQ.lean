/- Layer 32: sounds. -/
import Derived.Test.YtahbecinkciahaaGreatSs9Q
import Derived.Test.YtahbecinkciahaaGreatJtPnQ
import Derived.Test.YtahbecinkciahaaGreatSbDecsQ
import Derived.Test.YtahbecinkciahaaGreatJtSmallQ
import Derived.RegionTactic
import Derived.Deep.RegionHeld3
import Derived.Test.YtahbecinkciahaaGreatJtValidQ
import Derived.ChangeAlike
import Derived.Laws.BitsAllLaws
set_option linter.unusedVariables false
set_option linter.unusedSimpArgs false
set_option maxRecDepth 100000
set_option maxHeartbeats 12800000
namespace Go.Proofs.YtahbecinkciahaaGreat
attribute [local go_sem ↓] zae zaf
attribute [local go_sem] zad zag
open Go.RowKit
theorem SOwn.drew {w:World} {base n c:Nat} {A:Option Addr} {l:List TS} (h:SOwn w base A n c l):SOwn w.drew base A n c l:=⟨h.len,h.own,h.pay,h.far,h.new⟩
theorem PB.set {W:World} {g:Nat} {p:Sb.Pt} {A:Option Addr} {n c:Nat} (h:PB W g p A n c) (i:Nat) (v:Value) (p':Sb.Pt) (hp:(PL p A n c).set i v=PL p' A n c):PB (W.setCell ⟨g,i,none⟩ v) g p' A n c:=by
 have:=Blk.set_ h i v
 unfold PB PA
 rw [← hp]
 unfold PA at this
 simpa using this
structure OkP (a:TW):Prop where
 t0:0≤a.w.m.ty
 t1:a.w.m.ty≤255
 z:Within 0 255 a.w.m.pl
 len:a.w.m.pl.length≤8000
 cap:a.w.m.ty=96→a.w.m.pl.length≤a.c
theorem zey (k:Int) (pl:List Int) (s:Int) (h0:0≤s) (h1:s≤4294967295):0≤(Sb.dec k pl s).2∧(Sb.dec k pl s).2≤4294967295:=by
 unfold Sb.dec
 split
 · split
   · have e:(Ev.noise (pl.getD 0 0) s 160).2.1=Ev.seed s 160:=by unfold Ev.noise;rw [if_neg (by decide)];rfl
     show 0≤(Ev.noise (pl.getD 0 0) s 160).2.1∧(Ev.noise (pl.getD 0 0) s 160).2.1≤4294967295
     rw [e]
     exact Sb.noise_seed 0 s h0 h1 160
   · exact ⟨h0,h1⟩
 · exact ⟨h0,h1⟩
theorem zbo:∀ (l:List Jb.Wt) (s:Int),0≤s→s≤4294967295→0≤(Sb.sounds s l).1∧(Sb.sounds s l).1≤4294967295
 | [],s,h0,h1=>⟨h0,h1⟩
 | a :: l, s, h0, h1 => by
   have h:=zey a.m.ty a.m.pl s h0 h1
   exact zbo l _ h.1 h.2
def SoundsR (p:Sb.Pt) (A:Option Addr) (n c:Nat) (l:List TW) (w:World) (e:Ending) (w':World):Prop :=
 ∃ (A':Option Addr) (c':Nat) (ls:List TS),e = .returned (.tuple #[.agg (PA { p with seed:=(Sb.sounds p.seed (l.map TW.w)).1 } A n c), .slice A' l.length c'])∧ls.map TS.s=(Sb.sounds p.seed (l.map TW.w)).2∧SOwn w' (w.heap.size+3) A' l.length c' ls∧Below w.heap.size w w'
theorem zhd (p:Sb.Pt) (s0:0≤p.seed) (s1:p.seed≤4294967295) (A:Option Addr) (n c:Nat) (X:Array Value) (hX:X=PA p A n c) (PA1:Option Addr) (l:List TW) (m pc:Nat) (w:World) (hm:l.length=m) (hml:m≤100000) (hA:Wts w w.heap.size PA1 l) (hok:∀ a∈l,OkP a):Calls Tryz.prog 47 #[.agg X, .slice PA1 m pc] w (SoundsR p A n c l w):=by
 subst hm
 have HA:=H9 hA
 have HP:=H9 hok
 clear hA hok
 have B0:=H9 (((PB.new w X hX).push (.cells (PA Sb.Pt.zero none 0 0) 48)).push (.cells #[.slice none 0 0] 54))
 have B1:=H9 ((Blk.new1 w (.cells X 48) 48 (PA Sb.Pt.zero none 0 0)).push (.cells #[.slice none 0 0] 54))
 have B2:=H9 (Blk.new2 w (.cells X 48) (.cells (PA Sb.Pt.zero none 0 0) 48) 54 #[.slice none 0 0])
 have U0:=H9 ((((Bel.refl w).push (.cells X 48)).push (.cells (PA Sb.Pt.zero none 0 0) 48)).push (.cells #[.slice none 0 0] 54))
 have hmf:∀ (fn:Fn) (first cap:Array Value) (w:World),(Instr.makeFunc fn first cap).run Tryz.prog w = .ok (.func fn first cap) w:=fun _ _ _ _=>rfl
 have HS0:=H9 (show (0:Int)≤p.seed∧p.seed≤4294967295 from ⟨s0,s1⟩)
 clear hX s0 s1
 go_enter Tryz.func47,Tryz.ntmps47
 go_upto_region 2 with fail
 obtain ⟨W0,hW0⟩:∃ W,W=((w.alloc (Obj.cells X 48)).alloc (Obj.cells (PA Sb.Pt.zero none 0 0) 48)).alloc (Obj.cells #[.slice none 0 0] 54):=⟨_,rfl⟩
 change Code.wp _ _ _ _ (((w.alloc (Obj.cells X 48)).alloc (Obj.cells (PA Sb.Pt.zero none 0 0) 48)).alloc (Obj.cells #[.slice none 0 0] 54))
 rw [← hW0] at B0 B1 B2 U0 ⊢
 clear hW0
 go_upto_region 3 with fail
 go_wp2_with fail
 go_loopg [15] l.length (fun gk i wr => ∃ (k:Nat) (A':Option Addr) (c':Nat) (ls:List TS),gk+k=l.length∧i = .int .i64 k∧Hid (ls.map TS.s=(Sb.sounds p.seed ((l.map TW.w).take k)).2)∧Hid (SOwn wr (w.heap.size+3) A' k c' ls)∧Hid (PB wr w.heap.size { p with seed:=(Sb.sounds p.seed ((l.map TW.w).take k)).1 } A n c)∧Hid (Blk wr (w.heap.size+1) 48 (PA Sb.Pt.zero none 0 0))∧Hid (Blk wr (w.heap.size+1+1) 54 #[.slice A' k c'])∧Hid (Bel w wr))
 case atStart=>exact ⟨0,none,0,[],rfl,rfl,H9 rfl,H9 SOwn.nil,B0,B1,B2,U0⟩
 case round =>
  obtain ⟨k,A',c',ls,hgk,rfl,HL,HO,B0,B1,B2,U⟩:=hrel
  have hi0:(0:Int)≤(k:Int):=by omega
  have hbs:=B2.out.lt
  by_cases hk:k<l.length
  rotate_left
  · obtain rfl:k=l.length:=by omega
    have hi1:(l.length:Int)≤(l.length:Int):=Int.le_refl _
    rw [List.take_of_length_le (by simp)] at HL B0
    go_upto_region 10 with fail
    obtain ⟨q,hq⟩:∃ q:Sb.Pt,q = { p with seed:=(Sb.sounds p.seed (l.map TW.w)).1 } := ⟨_,rfl⟩
    rw [← hq] at B0
    have HQ:=H9 hq
    have V1:Blk wr.drew (w.heap.size+1) 48 (PL Sb.Pt.zero none 0 0).toArray:=Blk.dr B1.out
    have VO:SOwn wr.drew (w.heap.size+3) A' l.length c' ls:=HO.out.drew
    have VU:Bel w wr.drew:=Bel.drew U.out
    clear hq
    refine wp_region_held_drew (S:=fun w'=>Blk w' w.heap.size 48 (PL q A n c).toArray∧Blk w' (w.heap.size+1+1) 54 #[.slice A' l.length c']) (by kernel_rfl) ⟨Blk.dr B0.out,Blk.dr B2.out⟩ (fun qH => ?_)
    refine tk1 (i:=0) (v := .agg (PA q A n c)) rfl (zap rfl 48 (.tmp 2) rfl w.heap.size 0 rfl 48 (PL q A n c) (fun w h=>h.1) 48 _ Tryz.underlying48 zah (Nat.le_refl 48) _ rfl rfl) qH ?_
    try simp only [ss9]
    refine tk1 (i:=1) (v := .slice A' l.length c') rfl (Or.inl ⟨by rfl,fun w h=>by have c2:=h.2.at 0 _ rfl;clear h;go_simp;try with_reducible rfl⟩) qH ?_
    try simp only [ss9]
    refine wpAnyH_ready (rs:=[2]) (by kernel_rfl) (by simp) ?_
    refine AllReadyH.cons (o:=_) rfl (fun K hK => ?_) AllReadyH.nil
    refine zan rfl 48 (.tmp 4) (.tmp 39) rfl (w.heap.size+1) 0 rfl 48 _ V1 (PL q A n c) rfl zah (Nat.le_refl 48) rfl (PL q A n c) rfl ?_
    intro WF BF OF
    refine hK.out _ _ ⟨OF.blk qH.1 (by omega),OF.blk qH.2 (by omega)⟩ (fun hHeld2 => ?_)
    clear hK K
    try simp only [ss9]
    refine tk1 (i:=3) (v := .slice A' l.length c') rfl (Or.inl ⟨by rfl,fun w _=>by go_simp;try with_reducible rfl⟩) hHeld2 ?_
    try simp only [ss9]
    refine wpAnyH_done (by kernel_rfl) ?_ _
    go_wp2_with fail
    refine bodyPost_ret (v := .tuple #[.agg (PA q A n c), .slice A' l.length c']) (zdn Tryz.results47 rfl (PB.load BF) rfl) rfl ⟨A',c',ls,by rw [HQ.out],HL.out,VO.only OF (by omega),OF.bel VU (by omega)⟩
  have hi1:(k:Int)<(l.length:Int):=by omega
  obtain ⟨a,ha⟩:∃ a,l[k]? = some a:=⟨_,List.getElem?_eq_getElem hk⟩
  obtain ⟨b,off,rfl,hbB,e0,e1,e2,e3,e4,e5⟩:=zbs (HA.out.1.keep (fun p hp=>U.out.cell hp)) ha
  have hpa:=HP.out a (List.mem_of_getElem? ha)
  have hia:=(HA.out.2 a (List.mem_of_getElem? ha)).keep (w':=wr) (fun p hp=>U.out.cell hp)
  have hm:(l.map TW.w)[k]? = some a.w:=by rw [List.getElem?_map,ha];rfl
  have HM:=H9 hm
  have hsd:=zbo ((l.map TW.w).take k) p.seed HS0.out.1 HS0.out.2
  obtain ⟨⟨at0,⟨sq0,ti0,mk0,ty0,pl0⟩⟩,S0,c0⟩:=a
  obtain ⟨t0,t1,tz,tl,tc⟩:=hpa
  simp only at e0 e1 e2 e3 e4 e5 t0 t1 tz tl tc hia HM
  have hsn:Hid (Sb.sounds p.seed ((l.map TW.w).take (k+1))=((Sb.dec ty0 pl0 (Sb.sounds p.seed ((l.map TW.w).take k)).1).2,(Sb.sounds p.seed ((l.map TW.w).take k)).2 ++ [⟨at0,(Sb.dec ty0 pl0 (Sb.sounds p.seed ((l.map TW.w).take k)).1).1,[]⟩])):=H9 (by rw [Sb.take_snoc HM.out,Sb.sounds_snoc])
  generalize Sb.sounds p.seed ((l.map TW.w).take k)=R at *
  obtain ⟨R1,R2⟩:=R
  simp only at hsd hsn HL B0
  obtain ⟨d0,d1⟩:=hsd
  have k1:=H9 fun (W:World) hW=>zku ty0 S0 pl0 c0 R1 W hW tz tl t0 t1 d0 d1 tc
  have hds:=H9 (zey ty0 pl0 R1 d0 d1)
  generalize Sb.dec ty0 pl0 R1=D at *
  obtain ⟨D1,D2⟩:=D
  have IA:=H9 (hia.more (Nat.le_trans (Nat.le_refl _) U.out.size))
  clear ha hm hia tz tl tc t0 t1
  have BX:=H9 (Blk.new wr 105 #[.int .i64 at0, .int .i64 sq0, .int .i64 ti0, .bool mk0, .int .u8 ty0, .slice S0 pl0.length c0])
  obtain ⟨W1,hW1⟩:∃ W,W=wr.alloc (.cells #[.int .i64 at0, .int .i64 sq0, .int .i64 ti0, .bool mk0, .int .u8 ty0, .slice S0 pl0.length c0] 105):=⟨_,rfl⟩
  have BB:=H9 (show Below wr.heap.size wr W1 by rw [hW1];exact (Below.refl _ _).alloc (Nat.le_refl _) _)
  rw [← hW1] at BX
  go_upto_region 6 with fail
  rw [← hW1]
  clear hW1 e0 e1 e2 e3 e4 e5
  replace B0:=H9 (B0.out.later BB.out)
  replace B1:=H9 (B1.out.later BB.out)
  replace B2:=H9 (B2.out.later BB.out)
  replace HO:=H9 (HO.out.below BB.out)
  replace IA:=H9 (IA.out.later BB.out)
  replace U:=H9 (U.out.later BB.out)
  obtain ⟨gx,hgx⟩:∃ g,g=wr.heap.size:=⟨_,rfl⟩
  rw [← hgx] at BX ⊢
  have hg3:w.heap.size+3≤gx:=by omega
  clear BB hgx
  have x4:=BX.out.at 4 _ rfl
  have x5:=BX.out.at 5 _ rfl
  have sd:=B0.out.cell 45 _ rfl
  go_wp2_with fail
  refine (k1.out _ IA.out).mono ?_
  rintro e w2 ⟨A1,c1,rfl,hI,hb2⟩
  clear x4 x5 sd
  have hfar:Hid (0<D1.length→∀ b off,A1=some ⟨b,off,none⟩→some b≠ownB A'∧w.heap.size+3≤b):=H9 fun h0 b off e=>by
   have h1:=hI.2 h0 b off e
   have h2:=BX.out.lt
   refine ⟨fun he => ?_,by omega⟩
   have h3:=(HO.out.own.block b he.symm).2
   omega
  have HI:=H9 hI.1
  replace B0:=H9 (B0.out.later hb2)
  replace B1:=H9 (B1.out.later hb2)
  replace B2:=H9 (B2.out.later hb2)
  replace BX:=H9 (BX.out.later hb2)
  replace HO:=H9 (HO.out.below hb2)
  replace U:=H9 (U.out.later hb2)
  clear hb2 hI IA
  have sd:=B0.out.cell 45 _ rfl
  have sz:=Blk.frozen B0.out 45
  go_upto_region 8 with fail
  obtain ⟨W3,hW3⟩:∃ W,W=w2.setCell ⟨w.heap.size,45,none⟩ (.int .u32 D2):=⟨_,rfl⟩
  rw [← hW3]
  have OV:OnlyB w.heap.size w2 W3:=by rw [hW3];exact OnlyB.setCell _ _ _ _
  replace B0:=H9 (show PB W3 w.heap.size { p with seed:=D2 } A n c by rw [hW3];exact B0.out.set 45 _ _ rfl)
  replace B1:=H9 (OV.blk B1.out (by omega))
  replace B2:=H9 (OV.blk B2.out (by omega))
  replace BX:=H9 (OV.blk BX.out (by omega))
  replace HO:=H9 (HO.out.only OV (by omega))
  replace U:=H9 (OV.bel U.out (Nat.le_refl _))
  have HI2:Hid (IntsAt W3 W3.heap.size .i16 A1 D1):=H9 fun h0=>by
   obtain ⟨b,off,e,hlt,hc⟩:=HI.out h0
   have:=(hfar.out h0 b off e).2
   exact ⟨b,off,e,by rw [OV.2];exact hlt,fun i hi=>(OV.cell (show b≠w.heap.size by omega)).trans (hc i hi)⟩
  clear hW3 OV sd sz HI
  have x0:=BX.out.at 0 _ rfl
  have hbx:=BX.out.lt
  go_wp2_with fail
  refine (zup (w.heap.size+3) (w.heap.size+1+1) A' k c' ls at0 A1 D1 c1 _ B2.out HO.out (by omega) (by omega) (by omega) HI2.out hfar.out).mono ?_
  rintro e w4 ⟨rfl,A4,c4,B4,O4,K4⟩
  have hB2:=H9 B4
  have hHO:=H9 O4
  replace B0:=H9 (K4.blk B0.out (by omega) (by omega))
  replace B1:=H9 (K4.blk B1.out (by omega) (by omega))
  replace U:=H9 (K4.bel U.out (by omega) (by omega))
  clear B4 O4 K4 x0 hbx B2 HO BX
  go_wp2_with fail
  go_roundg (gk-1)
  case measure=>omega
  case rel =>
   refine ⟨k+1,A4,c4,ls ++ [⟨⟨at0,D1,[]⟩,A1,c1⟩],by omega,by go_num,H9 ?_,hHO,?_,B1,hB2,U⟩
   · rw [hsn.out,List.map_append,HL.out];rfl
   · rw [hsn.out];exact B0
theorem WtsIn.only {W W':World} {lo hi g:Nat} {A:Option Addr} {l:List TW} (h:WtsIn W lo hi A l) (ho:OnlyB g W W') (hg:g<lo):WtsIn W' lo hi A l:=h.keep fun p hp _=>ho.cell (by omega)
theorem WtsIn.step {W W':World} {lo g:Nat} {A:Option Addr} {l:List TW} (h:WtsIn W lo W.heap.size A l) (ho:OnlyB g W W') (hg:g<lo):WtsIn W' lo W'.heap.size A l:=by rw [ho.2];exact h.only ho hg
theorem WtsIn.later {W W':World} {lo:Nat} {A:Option Addr} {l:List TW} (h:WtsIn W lo W.heap.size A l) (hb:Below W.heap.size W W'):WtsIn W' lo W'.heap.size A l:=(h.below hb (Nat.le_refl _)).more hb.size
structure OkW (a:Jb.Wt):Prop where
 t0:0≤a.m.ty
 t1:a.m.ty≤255
 z:Within 0 255 a.m.pl
 len:a.m.pl.length≤8000
theorem OkW.okP {a:TW} (h:OkW a.w) (hc:a.w.m.pl.length≤a.c):OkP a:=⟨h.t0,h.t1,h.z,h.len,fun _=>hc⟩
theorem zrf {l:List TW} {q:List Jb.Wt} (hl:l.map TW.w=q) (h:∀ a∈q,OkW a) (hc:∀ a∈l,a.w.m.pl.length≤a.c):∀ a∈l,OkP a:=fun a ha=>(h a.w (by rw [← hl];exact List.mem_map_of_mem ha)).okP (hc a ha)
def PlayR (p:Sb.Pt) (now v:Int) (w:World) (e:Ending) (w':World):Prop :=
 ∃ (A':Option Addr) (n' c':Nat) (l':List TW) (SA:Option Addr) (sc m:Nat) (ls:List TS) (base mid:Nat),e = .returned (.tuple #[.agg (PA (Sb.run p now).1 A' n' c'), .int .u8 v, .slice SA m sc, .int .u8 0])∧l'.map TW.w=(Sb.run p now).1.jt.q∧l'.length=n'∧n'≤c'∧c'≤maxLen∧WtsIn w' w.heap.size mid A' l'∧mid≤base∧mid≤w'.heap.size∧ls.map TS.s=(Sb.run p now).2∧w.heap.size≤base∧SOwn w' base SA m sc ls∧Below w.heap.size w w'
theorem zcn (p:Sb.Pt) (hw:p.wf) (A:Option Addr) (l:List TW) (n c:Nat) (X:Array Value) (hX:X=PA p A n c) (w:World) (hq:l.map TW.w=p.jt.q) (hn:l.length=n) (hl:n≤100000) (hcap:n≤c) (hcm:c≤maxLen) (hA:Wts w w.heap.size A l) (hK:∀ a∈l,I64 a.w.m.sq) (now v:Int) (he:(Jb.run p.jt now).2.2=0) (hO:∀ a∈(Jb.run p.jt now).2.1,OkW a) (hm:(Jb.run p.jt now).2.1.length≤100000):Calls Tryz.prog 41 #[.agg X, .int .i64 now, .int .u8 v] w (PlayR p now v w):=by
 have B0:=H9 ((PB.new w X hX).push (.cells (PA Sb.Pt.zero none 0 0) 48))
 have B1:=H9 (Blk.new1 w (.cells X 48) 48 (PA Sb.Pt.zero none 0 0))
 have U0:=H9 (((Bel.refl w).push (.cells X 48)).push (.cells (PA Sb.Pt.zero none 0 0) 48))
 have HA:=H9 ((hA.push (.cells X 48)).push (.cells (PA Sb.Pt.zero none 0 0) 48))
 have k1:=H9 fun (W:World) hW=>zru p.jt A l n c now W hq hn hl hcap hcm hW hK
 have HP:Hid (PlayR p now v w=fun e w' => ∃ (A':Option Addr) (n' c':Nat) (l':List TW) (SA:Option Addr) (sc m:Nat) (ls:List TS) (base mid:Nat),e = .returned (.tuple #[.agg (PA { p with jt:=(Jb.run p.jt now).1,seed:=(Sb.sounds p.seed (Jb.run p.jt now).2.1).1 } A' n' c'), .int .u8 v, .slice SA m sc, .int .u8 0])∧l'.map TW.w=(Jb.run p.jt now).1.q∧l'.length=n'∧n'≤c'∧c'≤maxLen∧WtsIn w' w.heap.size mid A' l'∧mid≤base∧mid≤w'.heap.size∧ls.map TS.s=(Sb.sounds p.seed (Jb.run p.jt now).2.1).2∧w.heap.size≤base∧SOwn w' base SA m sc ls∧Below w.heap.size w w'):=H9 rfl
 rw [HP.out]
 clear HP
 unfold JRunW at k1
 unfold JV at k1
 have HO:=H9 hO
 obtain ⟨R,hR⟩:∃ R,R=Jb.run p.jt now:=⟨_,rfl⟩
 rw [← hR] at k1 HO he hm ⊢
 clear hR
 obtain ⟨R1,R2,R3⟩:=R
 obtain rfl:R3=0:=he
 have hs0:=hw.seed.1
 have hs1:=hw.seed.2
 clear hX hA hK hq hO
 go_enter Tryz.func41,Tryz.ntmps41
 go_upto_region 1 with fail
 change Code.wp _ _ _ _ ((w.alloc (Obj.cells X 48)).alloc (Obj.cells (PA Sb.Pt.zero none 0 0) 48))
 obtain ⟨W,hW⟩:∃ W,W=(w.alloc (Obj.cells X 48)).alloc (Obj.cells (PA Sb.Pt.zero none 0 0) 48):=⟨_,rfl⟩
 rw [← hW] at B0 B1 U0 HA ⊢
 clear hW
 obtain ⟨x14,x15,x16,x17,x18,x19,x20,x21,x22,x23,x24,x25,x26,x27⟩:=B0.out.jt
 have hL:=B1.out.lt
 go_wp2_with fail
 refine (k1.out _ HA.out).mono ?_
 rintro e w1 ⟨A1,c1,l1,A2,c2,l2,rfl,hl1,hl2,hW1,hW2,hc2,hm2,hb1,hc1,hm1⟩
 clear x14 x15 x16 x17 x18 x19 x20 x21 x22 x23 x24 x25 x26 x27
 replace U0:=H9 (U0.out.later hb1)
 replace B0:=H9 (B0.out.later hb1)
 replace B1:=H9 (B1.out.later hb1)
 have HL1:=H9 hl1
 have HL2:=H9 hl2
 have HOK:=H9 (zrf hl1 HO.out hW1.cap)
 have hlen1:l1.length≤100000:=by have:=congrArg List.length hl1;simp at this hm;omega
 have BJ:=H9 (Blk.new w1 40 (JW R1 A2 l2.length c2).toArray)
 obtain ⟨g1,hg1⟩:∃ g,g=w1.heap.size:=⟨_,rfl⟩
 have hs1':=U0.out.size
 have hb1lt:=B1.out.lt
 obtain ⟨W1,hWW⟩:∃ W,W=w1.alloc (.cells (JW R1 A2 l2.length c2).toArray 40):=⟨_,rfl⟩
 have BB:=H9 (show Below w1.heap.size w1 W1 by rw [hWW];exact (Below.refl _ _).alloc (Nat.le_refl _) _)
 have hg1':Hid (g1=w1.heap.size):=H9 hg1
 rw [← hg1,← hWW] at BJ
 go_upto_region 4 with fail
 rw [← hg1]
 change Code.wp _ _ _ _ (w1.alloc (Obj.cells (JW R1 A2 l2.length c2).toArray 40))
 rw [← hWW]
 replace U0:=H9 (U0.out.later BB.out)
 replace B0:=H9 (B0.out.later BB.out)
 replace B1:=H9 (B1.out.later BB.out)
 have HW1:=H9 (hW1.later BB.out)
 have HW2:=H9 (hW2.later BB.out)
 clear hb1 hl1 hl2 hWW hg1 hW1 hW2 BB HA
 have hgl:=Blk.lt B0.out
 go_upto_region 5 with (first|(refine zab rfl 40 (.tmp 10) rfl (g1) 0 rfl 40 (JW R1 A2 l2.length c2) BJ.out 14 _ Tryz.underlying40 zaw (show 0+14≤14 by decide) ((JW R1 A2 l2.length c2).toArray) (by rfl) rfl ?_)|(refine zac rfl 40 (.tmp 27) (.tmp 26) rfl (w.heap.size) 14 rfl 48 (PL p A n c) B0.out (JW R1 A2 l2.length c2) rfl zaw (show 14+14≤48 by decide) rfl (PL { p with jt:=R1 } A2 l2.length c2) rfl ?_;intro WF BF OF))
 obtain ⟨q1,hq1⟩:∃ q:Sb.Pt,q = { p with jt:=R1 } := ⟨_,rfl⟩
 rw [← hq1] at BF
 have hW1:=H9 (HW1.out.step OF (by omega))
 have hW2:=H9 (HW2.out.step OF (by omega))
 replace U0:=H9 (OF.bel U0.out (Nat.le_refl _))
 replace B1:=H9 (OF.blk B1.out (by omega))
 replace B0:=H9 BF
 have k2:=H9 fun (W:World) hW=>zhd q1 (by rw [hq1];exact hs0) (by rw [hq1];exact hs1) A2 l2.length c2 (PA q1 A2 l2.length c2) rfl A1 l1 l1.length c1 W rfl hlen1 hW HOK.out
 unfold SoundsR at k2
 rw [HL1.out] at k2
 obtain ⟨q2,hq2⟩:∃ q:Sb.Pt,q = { q1 with seed:=(Sb.sounds q1.seed R2).1 } := ⟨_,rfl⟩
 rw [← hq2] at k2
 have HQ1:=H9 hq1
 have HQ2:=H9 hq2
 clear hq1 hq2 BF OF HW1 HW2 BJ hs0 hs1
 go_wp2_with (first|(refine zab rfl 48 (.tmp 3) rfl (w.heap.size) 0 rfl 48 (PL q1 A2 l2.length c2) B0.out 48 _ Tryz.underlying48 zah (show 0+48≤48 by decide) (PA q1 A2 l2.length c2) (by rfl) rfl ?_)|fail)
 refine (k2.out _ hW1.out.rows).mono ?_
 rintro e w3 ⟨SA,sc,ls,rfl,hls,hso,hb3⟩
 have hbase:w.heap.size≤WF.heap.size:=U0.out.size
 replace U0:=H9 (U0.out.later hb3)
 have B03:=H9 (PB.later B0.out hb3)
 have B13:=H9 (B1.out.later hb3)
 replace hW2:=H9 (hW2.out.below hb3 (Nat.le_refl _))
 have HLS:=H9 hls
 have HSO:=H9 hso
 have hsz3:=hb3.size
 clear hls hso hb3 hW1 B0 B1
 go_upto_region 6 with (first|(refine zac rfl 48 (.tmp 3) (.tmp 32) rfl (w.heap.size) 0 rfl 48 (PL q1 A2 l2.length c2) B03.out (PL q2 A2 l2.length c2) rfl zah (show 0+48≤48 by decide) rfl (PL q2 A2 l2.length c2) rfl ?_;intro WG BG OG)|fail)
 have hW3:=H9 (hW2.out.only OG (by omega))
 have hGs:WF.heap.size≤WG.heap.size:=by rw [OG.2];exact hsz3
 have hsb:w.heap.size<WF.heap.size+3:=by omega
 replace U0:=H9 (OG.bel U0.out (Nat.le_refl _))
 replace B13:=H9 (OG.blk B13.out (by omega))
 replace HSO:=H9 (HSO.out.only OG hsb)
 have HBG:=H9 BG
 clear BG OG hW2 B03
 have hg1l:w.heap.size+1<WF.heap.size+3:=by have:=hg1'.out;omega
 go_wp2_with (first|(refine zab rfl 48 (.tmp 3) rfl (w.heap.size) 0 rfl 48 (PL q2 A2 l2.length c2) HBG.out 48 _ Tryz.underlying48 zah (show 0+48≤48 by decide) (PA q2 A2 l2.length c2) (by rfl) rfl ?_)|(refine zac rfl 48 (.tmp 6) (.tmp 34) rfl (w.heap.size+1) 0 rfl 48 (PL Sb.Pt.zero none 0 0) B13.out (PL q2 A2 l2.length c2) rfl zah (show 0+48≤48 by decide) rfl (PL q2 A2 l2.length c2) rfl ?_;intro WH BH OH)|fail)
 have hHs:WF.heap.size≤WH.heap.size:=by rw [OH.2];exact hGs
 have hW4:=(hW3.out.only OH hL).less (lo':=w.heap.size) (by omega)
 refine bodyPost_ret (v := .tuple #[.agg (PA q2 A2 l2.length c2), .int .u8 v, .slice SA l1.length sc, .int .u8 0]) (zar Tryz.results41 rfl (PB.load BH) rfl rfl rfl) rfl ⟨A2,l2.length,c2,l2,SA,sc,l1.length,ls,WF.heap.size+3,WF.heap.size,?_,HL2.out,rfl,hc2,hm2,hW4,by omega,hHs,?_,by omega,HSO.out.only OH hg1l,OH.bel U0.out (by omega)⟩
 · rw [HQ2.out,HQ1.out]
 · rw [HLS.out,HQ1.out]
theorem zdy {p:Sb.Pt} {now:Int} (h:Sb.chkT p now=0):p.valid=true∧now≤281474976710656∧p.jt.now≤now:=by
 unfold Sb.chkT at h
 split at h
 · cases h
 · rename_i h1
   split at h
   · cases h
   · rename_i h2
     refine ⟨?_,by omega,by omega⟩
     cases hv:p.valid
     · exact absurd (Or.inl hv) h1
     · rfl
theorem zia {p:Sb.Pt} (h:p.valid=true):p.jt.ok:=by
 unfold Sb.Pt.valid at h
 simp only [Bool.and_eq_true] at h
 have h3:Jb.valid p.jt=true:=h.1.1.2
 unfold Jb.valid at h3
 exact of_decide_eq_true h3
theorem zmr {p:Sb.Pt} {now:Int} (h:Sb.chkT p now=0):(Jb.run p.jt now).2.2=0∧(Jb.run p.jt now).2.1=Jb.due now p.jt.q:=by
 obtain ⟨h1,h2,h3⟩:=zdy h
 have h4:=zia h1
 have h5:Jb.chk p.jt now true=0:=by
  unfold Jb.chk
  rw [if_neg (fun hh=>by rcases hh with hh|hh|hh;exact hh h4;omega;cases hh),if_neg (by omega)]
 unfold Jb.run
 rw [if_pos h5]
 exact ⟨rfl,rfl⟩
theorem zce {now:Int} {q:List Jb.Wt} (h:∀ a∈q,OkW a):∀ a∈Jb.due now q,OkW a:=fun a ha=>h a ((List.takeWhile_sublist _).subset ha)
theorem zei (now:Int) (q:List Jb.Wt):(Jb.due now q).length≤q.length:=(List.takeWhile_sublist _).length_le
def PlayV (p:Sb.Pt) (now:Int) (w:World) (e:Ending) (w':World):Prop :=
 ∃ (A':Option Addr) (n' c':Nat) (l':List TW) (SA:Option Addr) (sc m:Nat) (ls:List TS) (base:Nat),e = .returned (.tuple #[.agg (PA (Sb.run p now).1 A' n' c'), .slice SA m sc, .int .u8 0])∧l'.map TW.w=(Sb.run p now).1.jt.q∧l'.length=n'∧n'≤c'∧c'≤maxLen∧WtsIn w' w.heap.size w'.heap.size A' l'∧ls.map TS.s=(Sb.run p now).2∧w.heap.size≤base∧SOwn w' base SA m sc ls∧Below w.heap.size w w'
theorem zrg (p:Sb.Pt) (hw:p.wf) (A:Option Addr) (l:List TW) (n c:Nat) (X:Array Value) (hX:X=PA p A n c) (w:World) (hq:l.map TW.w=p.jt.q) (hn:l.length=n) (hl:n≤100000) (hcap:n≤c) (hcm:c≤maxLen) (hA:Wts w w.heap.size A l) (hK:∀ a∈l,I64 a.w.m.sq) (now:Int) (hc:Sb.chkT p now=0) (hO:∀ a∈p.jt.q,OkW a):Calls Tryz.prog 15 #[.agg X, .int .i64 now] w (PlayV p now w):=by
 have B0:=H9 ((PB.new w X hX).push (.cells (PA Sb.Pt.zero none 0 0) 48))
 have B1:=H9 (Blk.new1 w (.cells X 48) 48 (PA Sb.Pt.zero none 0 0))
 have U0:=H9 (((Bel.refl w).push (.cells X 48)).push (.cells (PA Sb.Pt.zero none 0 0) 48))
 have HA:=H9 ((hA.push (.cells X 48)).push (.cells (PA Sb.Pt.zero none 0 0) 48))
 obtain ⟨r1,r2⟩:=zmr hc
 have hm:(Jb.run p.jt now).2.1.length≤100000:=by
  rw [r2]
  have h1:=zei now p.jt.q
  have h2:=congrArg List.length hq
  simp at h2
  omega
 have k1:=H9 fun (W:World) hW=>zbv p hw A l n c (PA p A n c) rfl W hq hn hl hW hK now
 rw [hc] at k1
 have k2:=H9 fun (W:World) hW=>zcn p hw A l n c (PA p A n c) rfl W hq hn hl hcap hcm hW hK now 0 r1 (by rw [r2];exact zce hO) hm
 unfold PlayR at k2
 unfold PlayV
 generalize Sb.run p now=R at *
 obtain ⟨q,R2⟩:=R
 clear hX hA hK hq hc hO r1 r2 hm hw
 go_enter Tryz.func15,Tryz.ntmps15
 go_upto_region 1 with fail
 change Code.wp _ _ _ _ ((w.alloc (Obj.cells X 48)).alloc (Obj.cells (PA Sb.Pt.zero none 0 0) 48))
 obtain ⟨W,hW⟩:∃ W,W=(w.alloc (Obj.cells X 48)).alloc (Obj.cells (PA Sb.Pt.zero none 0 0) 48):=⟨_,rfl⟩
 rw [← hW] at B0 B1 U0 HA ⊢
 clear hW
 have hL:=B1.out.lt
 go_wp2_with (first|(refine zab rfl 48 (.tmp 2) rfl (w.heap.size) 0 rfl 48 (PL p A n c) B0.out 48 _ Tryz.underlying48 zah (show 0+48≤48 by decide) (PA p A n c) (by rfl) rfl ?_)|fail)
 refine (k1.out _ HA.out).mono ?_
 rintro e w1 ⟨rfl,hb1⟩
 replace U0:=H9 (U0.out.later hb1)
 replace B0:=H9 (B0.out.later hb1)
 replace B1:=H9 (B1.out.later hb1)
 replace HA:=H9 (HA.out.later hb1)
 have hL1:=B1.out.lt
 clear hb1
 go_wp2_with (first|(refine zab rfl 48 (.tmp 2) rfl (w.heap.size) 0 rfl 48 (PL p A n c) B0.out 48 _ Tryz.underlying48 zah (show 0+48≤48 by decide) (PA p A n c) (by rfl) rfl ?_)|fail)
 refine (k2.out _ HA.out).mono ?_
 rintro e w2 ⟨A2,n2,c2,l2,SA,sc,m,ls,base,mid,rfl,e1,e2,e3,e4,e5,em1,em2,e6,e7,e8,hb2⟩
 replace e5:=e5.more em2
 clear em1 em2
 replace U0:=H9 (U0.out.later hb2)
 replace B0:=H9 (B0.out.later hb2)
 replace B1:=H9 (B1.out.later hb2)
 have hus:=U0.out.size
 have hs1:=hb2.size
 have HE1:=H9 e1
 have HE5:=H9 e5
 have HE6:=H9 e6
 have HE8:=H9 e8
 clear hb2 HA e1 e5 e6 e8
 subst e2
 go_upto_region 5 with (first|(refine zac rfl 48 (.tmp 2) (.tmp 22) rfl (w.heap.size) 0 rfl 48 (PL p A n c) B0.out (PL q A2 l2.length c2) rfl zah (show 0+48≤48 by decide) rfl (PL q A2 l2.length c2) rfl ?_;intro WG BG OG)|fail)
 replace U0:=H9 (OG.bel U0.out (Nat.le_refl _))
 replace B1:=H9 (OG.blk B1.out (by omega))
 replace HE5:=H9 (HE5.out.step OG (by omega))
 replace HE8:=H9 (HE8.out.only OG (by omega))
 have HBG:=H9 BG
 clear BG OG B0
 go_wp2_with (first|(refine zab rfl 48 (.tmp 2) rfl (w.heap.size) 0 rfl 48 (PL q A2 l2.length c2) HBG.out 48 _ Tryz.underlying48 zah (show 0+48≤48 by decide) (PA q A2 l2.length c2) (by rfl) rfl ?_)|(refine zac rfl 48 (.tmp 4) (.tmp 26) rfl (w.heap.size+1) 0 rfl 48 (PL Sb.Pt.zero none 0 0) B1.out (PL q A2 l2.length c2) rfl zah (show 0+48≤48 by decide) rfl (PL q A2 l2.length c2) rfl ?_;intro WH BH OH)|fail)
 refine bodyPost_ret (v := .tuple #[.agg (PA q A2 l2.length c2), .slice SA m sc, .int .u8 0]) (zax Tryz.results15 rfl (PB.load BH) rfl rfl) rfl ⟨A2,l2.length,c2,l2,SA,sc,m,ls,base,rfl,HE1.out,rfl,e3,e4,(HE5.out.step OH hL1).less (by omega),HE6.out,by omega,HE8.out.only OH (by omega),OH.bel U0.out (by omega)⟩
structure Rx where
 mrk:Bool
 ty:Int
 sq:Int
 ti:Int
 src:Int
 CA:Option Addr
 cn:Nat
 cc:Nat
 ex:Bool
 pr:Int
 EA:Option Addr
 en:Nat
 ec:Nat
 B:Option Addr
 pl:List Int
 pc:Nat
 pad:Int
def Rx.row (x:Rx):Array Value := #[.bool x.mrk, .int .u8 x.ty, .int .u16 x.sq, .int .u32 x.ti, .int .u32 x.src, .slice x.CA x.cn x.cc, .bool x.ex, .int .u16 x.pr, .slice x.EA x.en x.ec, .slice x.B x.pl.length x.pc, .int .i64 x.pad]
def Rx.arr (x:Rx):Sb.Arr:=⟨x.mrk,x.ty,x.sq,x.ti,x.pl⟩
structure RC (w:World) (p:Sb.Pt) (A:Option Addr) (l:List TW) (n c:Nat) (x:Rx) (now:Int):Prop where
 q:l.map TW.w=p.jt.q
 len:l.length=n
 n5:n≤100000
 cap:n≤c
 cm:c≤maxLen
 av:Wts w w.heap.size A l
 sq:∀ a∈l,I64 a.w.m.sq
 ok:∀ a∈p.jt.q,OkW a
 s0:0≤p.seed
 s1:p.seed≤4294967295
 ty0:0≤x.ty
 ty1:x.ty≤255
 q0:0≤x.sq
 q1:x.sq≤65535
 t0:0≤x.ti
 t1:x.ti≤4294967295
 h15:x.pl.length≤1500
 pl:IntsAt w w.heap.size .u8 x.B x.pl
 n0 : -281474976710656≤now
 n1:now≤281474976710656
theorem RC.with {w:World} {p p':Sb.Pt} {A:Option Addr} {l:List TW} {n c:Nat} {x:Rx} {now:Int} (h:RC w p A l n c x now) (hj:p'.jt=p.jt) (hs:p'.seed=p.seed):RC w p' A l n c x now :=
 ⟨by rw [hj];exact h.q,h.len,h.n5,h.cap,h.cm,h.av,h.sq,by rw [hj];exact h.ok,by rw [hs];exact h.s0,by rw [hs];exact h.s1,h.ty0,h.ty1,h.q0,h.q1,h.t0,h.t1,h.h15,h.pl,h.n0,h.n1⟩
structure RS (w W:World) (p:Sb.Pt) (A:Option Addr) (n c:Nat) (x:Rx):Prop where
 b0:PB W w.heap.size p A n c
 b1:Blk W (w.heap.size+1) 51 x.row
 b2:Blk W (w.heap.size+1+1) 48 (PA Sb.Pt.zero none 0 0)
 u:Bel w W
section
variable {w W W':World} {p p':Sb.Pt} {A A':Option Addr} {n n' c c':Nat} {x:Rx}
theorem RS.later (h:RS w W p A n c x) (hb:Below W.heap.size W W'):RS w W' p A n c x:=⟨h.b0.later hb,h.b1.later hb,h.b2.later hb,h.u.later hb⟩
theorem RS.push (h:RS w W p A n c x) (o:Obj):RS w (W.alloc o) p A n c x:=h.later ((Below.refl _ _).alloc (Nat.le_refl _) _)
theorem RS.over (h:RS w W p A n c x) (ho:OnlyB w.heap.size W W') (hb:PB W' w.heap.size p' A' n' c'):RS w W' p' A' n' c' x:=⟨hb,ho.blk h.b1 (by omega),ho.blk h.b2 (by omega),ho.bel h.u (Nat.le_refl _)⟩
theorem RS.c0 (h:RS w W p A n c x):W.cell? ⟨w.heap.size+1,0,none⟩=some (.bool x.mrk):=h.b1.at 0 _ rfl
theorem RS.c1 (h:RS w W p A n c x):W.cell? ⟨w.heap.size+1,1,none⟩=some (.int .u8 x.ty):=h.b1.at 1 _ rfl
theorem RS.c2 (h:RS w W p A n c x):W.cell? ⟨w.heap.size+1,2,none⟩=some (.int .u16 x.sq):=h.b1.at 2 _ rfl
theorem RS.c3 (h:RS w W p A n c x):W.cell? ⟨w.heap.size+1,3,none⟩=some (.int .u32 x.ti):=h.b1.at 3 _ rfl
theorem RS.c9 (h:RS w W p A n c x):W.cell? ⟨w.heap.size+1,9,none⟩=some (.slice x.B x.pl.length x.pc):=h.b1.at 9 _ rfl
theorem RS.far (h:RS w W p A n c x) {g:Nat} (ho:OnlyB g W W') (h0:w.heap.size≠g) (h1:g≠w.heap.size+1) (h2:g≠w.heap.size+1+1) (hg:w.heap.size≤g):RS w W' p A n c x:=⟨ho.blk h.b0 h0,ho.blk h.b1 (Ne.symm h1),ho.blk h.b2 (Ne.symm h2),ho.bel h.u hg⟩
theorem RS.set (h:RS w W p A n c x) (i:Nat) (v:Value) (hp:(PL p A n c).set i v=PL p' A n c):RS w (W.setCell ⟨w.heap.size,i,none⟩ v) p' A n c x:=h.over (OnlyB.setCell _ _ _ _) (h.b0.set i v p' hp)
end
def RecvR (R:Sb.Pt×Int×List Sb.Sd) (w:World) (e:Ending) (w':World):Prop :=
 ∃ (A':Option Addr) (n' c':Nat) (l':List TW) (SA:Option Addr) (sc m:Nat) (ls:List TS) (base:Nat),e = .returned (.tuple #[.agg (PA R.1 A' n' c'), .int .u8 R.2.1, .slice SA m sc, .int .u8 0])∧l'.map TW.w=R.1.jt.q∧l'.length=n'∧n'≤c'∧c'≤maxLen∧WtsIn w' w.heap.size w'.heap.size A' l'∧ls.map TS.s=R.2.2∧w.heap.size≤base∧SOwn w' base SA m sc ls∧Below w.heap.size w w'
theorem r164 (s:Nat→Value):((List.range 164).map s).toArray = #[s 0,s 1,s 2,s 3,s 4,s 5,s 6,s 7,s 8,s 9,s 10,s 11,s 12,s 13,s 14,s 15,s 16,s 17,s 18,s 19,s 20,s 21,s 22,s 23,s 24,s 25,s 26,s 27,s 28,s 29,s 30,s 31,s 32,s 33,s 34,s 35,s 36,s 37,s 38,s 39,s 40,s 41,s 42,s 43,s 44,s 45,s 46,s 47,s 48,s 49,s 50,s 51,s 52,s 53,s 54,s 55,s 56,s 57,s 58,s 59,s 60,s 61,s 62,s 63,s 64,s 65,s 66,s 67,s 68,s 69,s 70,s 71,s 72,s 73,s 74,s 75,s 76,s 77,s 78,s 79,s 80,s 81,s 82,s 83,s 84,s 85,s 86,s 87,s 88,s 89,s 90,s 91,s 92,s 93,s 94,s 95,s 96,s 97,s 98,s 99,s 100,s 101,s 102,s 103,s 104,s 105,s 106,s 107,s 108,s 109,s 110,s 111,s 112,s 113,s 114,s 115,s 116,s 117,s 118,s 119,s 120,s 121,s 122,s 123,s 124,s 125,s 126,s 127,s 128,s 129,s 130,s 131,s 132,s 133,s 134,s 135,s 136,s 137,s 138,s 139,s 140,s 141,s 142,s 143,s 144,s 145,s 146,s 147,s 148,s 149,s 150,s 151,s 152,s 153,s 154,s 155,s 156,s 157,s 158,s 159,s 160,s 161,s 162,s 163]:=rfl
def FrA (g:Nat) (now:Int) (a:Act):Prop:=Fr 164 [(1, .int .i64 now),(3, .pointer (some ⟨g,0,none⟩)),(5, .pointer (some ⟨g+1,0,none⟩)),(6, .pointer (some ⟨g+1+1,0,none⟩))] a
theorem FrA.mk {g:Nat} {now:Int} {xs:List Value} (h:xs.length=164:=by rfl) (hL:AllL [(1, .int .i64 now),(3, .pointer (some ⟨g,0,none⟩)),(5, .pointer (some ⟨g+1,0,none⟩)),(6, .pointer (some ⟨g+1+1,0,none⟩))] xs:=by exact ⟨rfl,rfl,rfl,rfl,trivial⟩):FrA g now ⟨xs.toArray,[]⟩:=Fr.mk h hL
def FrB (g:Nat) (now:Int) (gt:Nat) (kn:Bool) (a:Act):Prop:=Fr 164 [(1, .int .i64 now),(3, .pointer (some ⟨g,0,none⟩)),(5, .pointer (some ⟨g+1,0,none⟩)),(6, .pointer (some ⟨g+1+1,0,none⟩)),(11, .pointer (some ⟨gt,0,none⟩)),(12, .bool kn)] a
theorem FrB.mk {g:Nat} {now:Int} {gt:Nat} {kn:Bool} {xs:List Value} (h:xs.length=164:=by rfl) (hL:AllL [(1, .int .i64 now),(3, .pointer (some ⟨g,0,none⟩)),(5, .pointer (some ⟨g+1,0,none⟩)),(6, .pointer (some ⟨g+1+1,0,none⟩)),(11, .pointer (some ⟨gt,0,none⟩)),(12, .bool kn)] xs:=by exact ⟨rfl,rfl,rfl,rfl,rfl,rfl,trivial⟩):FrB g now gt kn ⟨xs.toArray,[]⟩:=Fr.mk h hL
def FrU (g:Nat) (now:Int) (gt:Nat) (on:Bool) (fn:Int) (ok:Bool) (a:Act):Prop:=Fr 164 [(1, .int .i64 now),(3, .pointer (some ⟨g,0,none⟩)),(5, .pointer (some ⟨g+1,0,none⟩)),(6, .pointer (some ⟨g+1+1,0,none⟩)),(11, .pointer (some ⟨gt,0,none⟩)),(13, .bool on),(15, .int .i64 fn),(16, .bool ok)] a
theorem FrU.mk {g:Nat} {now:Int} {gt:Nat} {on:Bool} {fn:Int} {ok:Bool} {xs:List Value} (h:xs.length=164:=by rfl) (hL:AllL [(1, .int .i64 now),(3, .pointer (some ⟨g,0,none⟩)),(5, .pointer (some ⟨g+1,0,none⟩)),(6, .pointer (some ⟨g+1+1,0,none⟩)),(11, .pointer (some ⟨gt,0,none⟩)),(13, .bool on),(15, .int .i64 fn),(16, .bool ok)] xs:=by exact ⟨rfl,rfl,rfl,rfl,rfl,rfl,rfl,rfl,trivial⟩):FrU g now gt on fn ok ⟨xs.toArray,[]⟩:=Fr.mk h hL
def FrC (g:Nat) (now:Int) (gt:Nat) (on:Bool) (fn:Int) (a:Act):Prop:=Fr 164 [(1, .int .i64 now),(3, .pointer (some ⟨g,0,none⟩)),(5, .pointer (some ⟨g+1,0,none⟩)),(6, .pointer (some ⟨g+1+1,0,none⟩)),(11, .pointer (some ⟨gt,0,none⟩)),(13, .bool on),(15, .int .i64 fn)] a
theorem FrC.mk {g:Nat} {now:Int} {gt:Nat} {on:Bool} {fn:Int} {xs:List Value} (h:xs.length=164:=by rfl) (hL:AllL [(1, .int .i64 now),(3, .pointer (some ⟨g,0,none⟩)),(5, .pointer (some ⟨g+1,0,none⟩)),(6, .pointer (some ⟨g+1+1,0,none⟩)),(11, .pointer (some ⟨gt,0,none⟩)),(13, .bool on),(15, .int .i64 fn)] xs:=by exact ⟨rfl,rfl,rfl,rfl,rfl,rfl,rfl,trivial⟩):FrC g now gt on fn ⟨xs.toArray,[]⟩:=Fr.mk h hL
def FrE (g:Nat) (now:Int) (on:Bool) (fn t:Int) (a:Act):Prop:=Fr 164 [(1, .int .i64 now),(3, .pointer (some ⟨g,0,none⟩)),(5, .pointer (some ⟨g+1,0,none⟩)),(6, .pointer (some ⟨g+1+1,0,none⟩)),(13, .bool on),(15, .int .i64 fn),(17, .int .i64 t)] a
theorem FrE.mk {g:Nat} {now:Int} {on:Bool} {fn t:Int} {xs:List Value} (h:xs.length=164:=by rfl) (hL:AllL [(1, .int .i64 now),(3, .pointer (some ⟨g,0,none⟩)),(5, .pointer (some ⟨g+1,0,none⟩)),(6, .pointer (some ⟨g+1+1,0,none⟩)),(13, .bool on),(15, .int .i64 fn),(17, .int .i64 t)] xs:=by exact ⟨rfl,rfl,rfl,rfl,rfl,rfl,rfl,trivial⟩):FrE g now on fn t ⟨xs.toArray,[]⟩:=Fr.mk h hL
def FrD (g:Nat) (now fn t:Int) (a:Act):Prop:=Fr 164 [(1, .int .i64 now),(3, .pointer (some ⟨g,0,none⟩)),(5, .pointer (some ⟨g+1,0,none⟩)),(6, .pointer (some ⟨g+1+1,0,none⟩)),(15, .int .i64 fn),(17, .int .i64 t)] a
theorem FrD.mk {g:Nat} {now fn t:Int} {xs:List Value} (h:xs.length=164:=by rfl) (hL:AllL [(1, .int .i64 now),(3, .pointer (some ⟨g,0,none⟩)),(5, .pointer (some ⟨g+1,0,none⟩)),(6, .pointer (some ⟨g+1+1,0,none⟩)),(15, .int .i64 fn),(17, .int .i64 t)] xs:=by exact ⟨rfl,rfl,rfl,rfl,rfl,rfl,trivial⟩):FrD g now fn t ⟨xs.toArray,[]⟩:=Fr.mk h hL
noncomputable def rcA_code:Code:=((Tryz.f11.body.bind (fromReg 6)).getD .skip)
noncomputable def rcB_code:Code:=((Tryz.f11.body.bind (fromReg 11)).getD .skip)
noncomputable def rcS_code:Code:=((Tryz.f11.body.bind (fromReg 16)).getD .skip)
noncomputable def rcC_code:Code:=((Tryz.f11.body.bind (fromReg 18)).getD .skip)
noncomputable def rcE_code:Code:=((Tryz.f11.body.bind (fromReg 23)).getD .skip)
noncomputable def rcD_code:Code:=((Tryz.f11.body.bind (fromReg 25)).getD .skip)
theorem zrh:(Tryz.prog.info? 51).map (fun i=>(i.zero,i.size,i.bytes))=some (some (.agg #[.bool false, .int .u8 0, .int .u16 0, .int .u32 0, .int .u32 0, .slice none 0 0, .bool false, .int .u16 0, .slice none 0 0, .slice none 0 0, .int .i64 0]),11,104):=by kernel_rfl
theorem zxg (n:Int):IntKind.u16.wrap n=n % 65536:=by simp [IntKind.wrap,IntKind.bits,IntKind.signed]
theorem zxh (n:Int):IntKind.u32.wrap n=n % 4294967296:=by simp [IntKind.wrap,IntKind.bits,IntKind.signed]
theorem OnlyB.owns_lt {w w':World} {g base size n c:Nat} {e:TypeId} {A:Option Addr} {xs:List Value} (h:OnlyB g w w') (ho:Owns w base e size A n c xs) (hg:g<base):Owns w' base e size A n c xs:=h.owns ho hg
def pktRow (k:Sb.Pkt) (B:Option Addr) (c:Nat):List Value:=[.bool k.mrk, .int .u8 k.ty, .int .u16 k.sq, .int .u32 k.ti, .int .u32 k.src, .slice none 0 0, .bool false, .int .u16 0, .slice none 0 0, .slice B k.pl.length c, .int .i64 0]
def EmitR (S:List Nat) (g gl:Nat) (p:Sb.Pt) (A:Option Addr) (n c:Nat) (l:List TW) (kind ti:Int) (mrk:Bool) (PA1:Option Addr) (pl:List Int) (plc:Nat) (w:World) (e:Ending) (w':World):Prop :=
 e = .returned (.tuple #[])∧∃ (A':Option Addr) (c':Nat),PM w' S g (Sb.emit p kind ti mrk pl).1 A n c l∧Blk w' gl 69 #[.slice A' 1 c']∧Owns w' w.heap.size 51 11 A' 1 c' (pktRow (Sb.emit p kind ti mrk pl).2 PA1 plc)∧Chg [g,gl] w w'
theorem zms (S:List Nat) (g gl:Nat) (p:Sb.Pt) (hw:p.wf) (A:Option Addr) (n c:Nat) (l:List TW) (kind ti:Int) (mrk:Bool) (PA1:Option Addr) (pl:List Int) (plc:Nat) (w:World) (h:PM w S g p A n c l) (hg:g∈S) (hgl:gl∈S) (hne:g≠gl) (HL:Blk w gl 69 #[.slice none 0 0]) (hpl:pl.length≤100000):Calls Tryz.prog 71 #[.int .u8 kind, .int .u32 ti, .bool mrk, .slice PA1 pl.length plc, .pointer (some ⟨gl,0,none⟩), .pointer (some ⟨g,0,none⟩)] w (EmitR S g gl p A n c l kind ti mrk PA1 pl plc w):=by
 have H:=H9 h
 have HL:=H9 HL
 have s0:=hw.seq
 have s1:=hw.pk
 have s2:=hw.oc
 clear h
 go_enter Tryz.func71,Tryz.ntmps71
 have x1:=H.out.box.cell 1 _ rfl
 have x2:=H.out.box.cell 2 _ rfl
 have l0:=HL.out.at 0 _ rfl
 have lz:=HL.out.frozen 0
 have hlt:=HL.out.lt
 have hlg:=Blk.lt H.out.box
 go_upto_region 1 with (at_builtin;go_loud (refine zaq (w0:=w) rfl _ _ 69 rfl w.heap.size 51 11 104 _ Tryz.underlying69 zrh rfl (by decide) none 0 0 [] rfl Owns.nil [.bool mrk, .int .u8 kind, .int .u16 p.seq, .int .u32 ti, .int .u32 p.src, .slice none 0 0, .bool false, .int .u16 0, .slice none 0 0, .slice PA1 pl.length plc, .int .i64 0] rfl (by simp [Value.oneCell']) rfl (by unfold maxLen;omega) (by omega) (Nat.le_refl _) ?_);intro A9 c9 v1 qo hgr hat;have BY:=HL.out.grown hgr (by simp [ownB]);have y0:=BY.at 0 _ rfl;have yz:=BY.frozen 0)
 obtain ⟨V1,hV1⟩:∃ W,W=v1.setCell ⟨gl,0,none⟩ (.slice A9 1 c9):=⟨_,rfl⟩
 rw [← hV1]
 have OV:OnlyB gl v1 V1:=by rw [hV1];exact OnlyB.setCell _ _ _ _
 have BL:=H9 (show Blk V1 gl 69 #[.slice A9 1 c9] by rw [hV1];exact BY.set_ 0 _)
 have C1:Chg [gl] w V1:=(Chg.of_grown hgr (by simp [ownB])).trans (Chg.of_only OV (by simp))
 have HO:=H9 (OV.owns (by simpa using qo) hlt)
 replace H:=H9 (H.out.chg C1 (by simpa using hgl) (by simpa using hne))
 replace C1:=H9 (C1.more (T:=[g,gl]) (by simp))
 clear hV1 OV BY y0 yz qo hgr hat l0 lz x1 x2 HL
 have ew:IntKind.u32.wrap (pl.length:Int)=(pl.length:Int):=by rw [zxh];omega
 have xc:=H.out.box.cell 2 _ rfl
 have xz:=Blk.frozen H.out.box 2
 go_upto_region 2 with fail
 obtain ⟨V2,hV⟩:∃ W,W=V1.setCell ⟨g,2,none⟩ (.int .u16 (IntKind.u16.wrap (p.seq+1))):=⟨_,rfl⟩
 rw [← hV]
 rw [zxg] at hV
 replace H:=H9 (show PM V2 S g { p with seq:=(p.seq+1) % 65536 } A n c l by rw [hV];exact H.out.set hg 2 _ _ rfl rfl)
 have OV:OnlyB g V1 V2:=by rw [hV];exact OnlyB.setCell _ _ _ _
 replace BL:=H9 (OV.blk BL.out (fun e=>hne e.symm))
 replace HO:=H9 (OV.owns_lt HO.out hlg)
 replace C1:=H9 (C1.out.trans (Chg.of_only OV (by simp)))
 clear hV OV xc xz
 have xc:=H.out.box.cell 46 _ rfl
 have xz:=Blk.frozen H.out.box 46
 go_upto_region 3 with fail
 obtain ⟨V3,hV⟩:∃ W,W=V2.setCell ⟨g,46,none⟩ (.int .u32 ((p.pk+1) % 4294967296)):=⟨_,rfl⟩
 rw [← hV]
 replace H:=H9 (show PM V3 S g { p with seq:=(p.seq+1) % 65536,pk:=(p.pk+1) % 4294967296 } A n c l by rw [hV];exact H.out.set hg 46 _ _ rfl rfl)
 have OV:OnlyB g V2 V3:=by rw [hV];exact OnlyB.setCell _ _ _ _
 replace BL:=H9 (OV.blk BL.out (fun e=>hne e.symm))
 replace HO:=H9 (OV.owns_lt HO.out hlg)
 replace C1:=H9 (C1.out.trans (Chg.of_only OV (by simp)))
 clear hV OV xc xz
 have xc:=H.out.box.cell 47 _ rfl
 have xz:=Blk.frozen H.out.box 47
 go_wp2_with fail
 obtain ⟨V4,hV⟩:∃ W,W=V3.setCell ⟨g,47,none⟩ (.int .u32 ((p.oc+(pl.length:Int)) % 4294967296)):=⟨_,rfl⟩
 rw [← hV]
 replace H:=H9 (show PM V4 S g (Sb.emit p kind ti mrk pl).1 A n c l by rw [hV];exact H.out.set hg 47 _ _ rfl rfl)
 have OV:OnlyB g V3 V4:=by rw [hV];exact OnlyB.setCell _ _ _ _
 replace BL:=H9 (OV.blk BL.out (fun e=>hne e.symm))
 replace HO:=H9 (OV.owns_lt HO.out hlg)
 replace C1:=H9 (C1.out.trans (Chg.of_only OV (by simp)))
 clear hV OV xc xz
 go_end0
 exact ⟨rfl,A9,c9,H.out,BL.out,HO.out,C1.out⟩
theorem zto:(Tryz.prog.info? 105).map (fun i=>(i.zero,i.size,i.bytes))=some (some (.agg #[.int .i64 0, .int .i64 0, .int .i64 0, .bool false, .int .u8 0, .slice none 0 0]),6,56):=by kernel_rfl
theorem ztp:(Tryz.prog.info? 5).map (fun i=>(i.zero,i.size,i.bytes))=some (some (.int .u8 0),1,1):=by kernel_rfl
theorem QOwn.only {w w':World} {g base n c:Nat} {A:Option Addr} {l:List TW} (h:QOwn w base A n c l) (ho:OnlyB g w w') (hg:g<base):QOwn w' base A n c l :=
 ⟨h.len,ho.owns h.own hg,fun a ha h0=>by
  obtain ⟨b,off,e,hlt,hc⟩:=h.pay a ha h0
  have:=h.new a ha h0 b off e
  exact ⟨b,off,e,by rw [ho.2];exact hlt,fun i hi=>(ho.cell (show b≠g by omega)).trans (hc i hi)⟩,h.far,h.new,h.cap⟩
def CopyR (s:Jb.Jt) (l:List TW) (w:World) (e:Ending) (w':World):Prop :=
 ∃ (A':Option Addr) (c':Nat) (l':List TW),e = .returned (.agg (JW s A' l.length c').toArray)∧l'.map TW.w=l.map TW.w∧QOwn w' (w.heap.size+2) A' l.length c' l'∧Below w.heap.size w w'
theorem zdg (s:Jb.Jt) (A:Option Addr) (l:List TW) (n c:Nat) (w:World) (hn:l.length=n) (hl:n≤100000) (hA:Wts w w.heap.size A l) (hp:∀ a∈l,a.w.m.pl.length≤1000000):Calls Tryz.prog 60 #[.agg #[.int .i64 s.least, .int .i64 s.most, .int .i64 s.now, .bool s.on, .int .i64 s.zero, .int .i64 s.first, .int .i64 s.high, .int .i64 s.done, .int .i64 s.spread, .int .i64 s.trans, .slice A n c, .int .i64 s.late, .int .i64 s.twice, .int .i64 s.played]] w (CopyR s l w):=by
 subst hn
 have HA:=H9 hA
 have HP:=H9 hp
 clear hA hp
 have BS:=H9 ((Blk.new w 40 (JW s A l.length c).toArray).push (.cells (JW Jb.Jt.none none 0 0).toArray 40))
 have BR:=H9 (Blk.new1 w (.cells (JW s A l.length c).toArray 40) 40 (JW Jb.Jt.none none 0 0).toArray)
 have U0:=H9 (((Bel.refl w).push (.cells (JW s A l.length c).toArray 40)).push (.cells (JW Jb.Jt.none none 0 0).toArray 40))
 go_enter Tryz.func60,Tryz.ntmps60
 go_upto_region 1 with fail
 obtain ⟨W0,hW0⟩:∃ W,W=(w.alloc (Obj.cells #[.int .i64 s.least, .int .i64 s.most, .int .i64 s.now, .bool s.on, .int .i64 s.zero, .int .i64 s.first, .int .i64 s.high, .int .i64 s.done, .int .i64 s.spread, .int .i64 s.trans, .slice A l.length c, .int .i64 s.late, .int .i64 s.twice, .int .i64 s.played] 40)).alloc (Obj.cells (JW Jb.Jt.none none 0 0).toArray 40):=⟨_,rfl⟩
 change Code.wp _ _ _ _ ((w.alloc (Obj.cells #[.int .i64 s.least, .int .i64 s.most, .int .i64 s.now, .bool s.on, .int .i64 s.zero, .int .i64 s.first, .int .i64 s.high, .int .i64 s.done, .int .i64 s.spread, .int .i64 s.trans, .slice A l.length c, .int .i64 s.late, .int .i64 s.twice, .int .i64 s.played] 40)).alloc (Obj.cells (JW Jb.Jt.none none 0 0).toArray 40))
 rw [← hW0]
 change Hid (Blk ((w.alloc (Obj.cells #[.int .i64 s.least, .int .i64 s.most, .int .i64 s.now, .bool s.on, .int .i64 s.zero, .int .i64 s.first, .int .i64 s.high, .int .i64 s.done, .int .i64 s.spread, .int .i64 s.trans, .slice A l.length c, .int .i64 s.late, .int .i64 s.twice, .int .i64 s.played] 40)).alloc (Obj.cells (JW Jb.Jt.none none 0 0).toArray 40)) _ _ _) at BS BR
 change Hid (Bel w ((w.alloc (Obj.cells #[.int .i64 s.least, .int .i64 s.most, .int .i64 s.now, .bool s.on, .int .i64 s.zero, .int .i64 s.first, .int .i64 s.high, .int .i64 s.done, .int .i64 s.spread, .int .i64 s.trans, .slice A l.length c, .int .i64 s.late, .int .i64 s.twice, .int .i64 s.played] 40)).alloc (Obj.cells (JW Jb.Jt.none none 0 0).toArray 40))) at U0
 rw [← hW0] at BS BR U0
 clear hW0
 have x10:=BS.out.at 10 (.slice A l.length c) rfl
 go_wp2_with fail
 go_loopg [3,9] l.length (fun gk s3 i wr => ∃ (k:Nat) (A':Option Addr) (c':Nat) (l':List TW),gk+k=l.length∧s3 = .slice A' k c'∧i = .int .i64 k∧Hid (l'.map TW.w=(l.map TW.w).take k)∧Hid (QOwn wr (w.heap.size+2) A' k c' l')∧Hid (Blk wr w.heap.size 40 (JW s A l.length c).toArray)∧Hid (Blk wr (w.heap.size+1) 40 (JW Jb.Jt.none none 0 0).toArray)∧Hid (Bel w wr))
 case atStart=>exact ⟨0,none,0,[],rfl,rfl,rfl,H9 rfl,H9 QOwn.nil,BS,BR,U0⟩
 case round =>
  obtain ⟨k,A',c',l',hgk,rfl,rfl,HL,HO,BS,BR,U⟩:=hrel
  have hi0:(0:Int)≤(k:Int):=by omega
  have hl2:=BR.out.lt
  by_cases hk:k<l.length
  rotate_left
  · obtain rfl:k=l.length:=by omega
    have hi1:(l.length:Int)≤(l.length:Int):=Int.le_refl _
    have x10:=BS.out.at 10 (.slice A l.length c) rfl
    have fz:=BS.out.frozen 10
    go_upto_region 9 with fail
    obtain ⟨V,hV⟩:∃ W,W=wr.setCell ⟨w.heap.size,10,none⟩ (.slice A' l.length c'):=⟨_,rfl⟩
    rw [← hV]
    have OV:OnlyB w.heap.size wr V:=by rw [hV];exact OnlyB.setCell _ _ _ _
    have BV:Blk V w.heap.size 40 (JW s A' l.length c').toArray:=by rw [hV];exact BS.out.set_ 10 _
    have BR2:=OV.blk BR.out (by omega)
    have U2:=OV.bel U.out (Nat.le_refl _)
    have HO2:Owns V _ _ _ _ _ _ _:=OV.owns HO.out.own (by omega)
    clear x10 fz hV
    go_wp2_with (first|(refine zab rfl 40 (.tmp 1) rfl w.heap.size 0 rfl 40 (JW s A' l.length c') BV 14 _ Tryz.underlying40 zaw (Nat.le_refl 14) _ rfl rfl ?_)|(refine zac rfl 40 (.tmp 2) (.tmp 26) rfl (w.heap.size+1) 0 rfl 40 _ BR2 (JW s A' l.length c') rfl zaw (Nat.le_refl 14) rfl (JW s A' l.length c') rfl ?_;intro WF BF OF))
    refine bodyPost_ret (v := .agg (JW s A' l.length c').toArray) (results_cell_row (p:=2) (ty:=40) rfl _ _ (w.heap.size+1) 40 _ (0,0) _ rfl BF Tryz.underlying40 rfl zaw) rfl ⟨A',c',l',rfl,by rw [HL.out,List.take_of_length_le (by simp)],?_,OF.bel U2 (by omega)⟩
    exact ((HO.out.only OV (by omega)).only OF (by omega))
  have hi1:(k:Int)<(l.length:Int):=by omega
  obtain ⟨a,ha⟩:∃ a,l[k]? = some a:=⟨_,List.getElem?_eq_getElem hk⟩
  obtain ⟨b,off,rfl,hbB,e0,e1,e2,e3,e4,e5⟩:=zbs (HA.out.1.keep (fun p hp=>U.out.cell hp)) ha
  have hpa:=HP.out a (List.mem_of_getElem? ha)
  have hia:=(HA.out.2 a (List.mem_of_getElem? ha)).keep (w':=wr) (fun p hp=>U.out.cell hp)
  have hm:(l.map TW.w)[k]? = some a.w:=by rw [List.getElem?_map,ha];rfl
  have HM:=H9 hm
  obtain ⟨⟨at0,⟨sq0,ti0,mk0,ty0,pl0⟩⟩,B0,c0⟩:=a
  simp only at e0 e1 e2 e3 e4 e5 hpa hia HM
  have IA:=H9 hia
  have BX:=H9 (Blk.new wr 105 #[.int .i64 at0, .int .i64 sq0, .int .i64 ti0, .bool mk0, .int .u8 ty0, .slice B0 pl0.length c0])
  clear ha hm hia
  have hbs:=U.out.size
  go_upto_region 5 with fail
  have hp5:0+pl0.length≤maxLen:=by unfold maxLen;omega
  have hp6:(0+pl0.length)*1≤140737488355328:=by omega
  go_upto_region 6 with (at_builtin;go_loud (refine zds rfl (.const (.slice none 0 0)) _ 22 rfl (wr.heap.size+1) 5 1 (.int .u8 0) Tryz.underlying22 ztp rfl none 0 0 [] rfl Owns.nil w.heap.size .u8 B0 c0 pl0 rfl (IA.out.alloc hbs _) hp5 hp6 (by rw [zbc];exact Nat.le_refl _) pl0.length (by omega) ?_);intro A9 c9 v1 hown9 hgr9 hat9;have BY:=BX.out.grown hgr9 (by simp [ownB]);have y0:=BY.at 0 _ rfl;have y1:=BY.at 1 _ rfl;have y2:=BY.at 2 _ rfl;have y3:=BY.at 3 _ rfl;have y4:=BY.at 4 _ rfl;have y5:=BY.at 5 _ rfl;have yz:=BY.frozen 5)
  have UW:Below wr.heap.size wr (wr.alloc (.cells #[.int .i64 at0, .int .i64 sq0, .int .i64 ti0, .bool mk0, .int .u8 ty0, .slice B0 pl0.length c0] 105)):=(Below.refl _ _).alloc (Nat.le_refl _) _
  have hI9:IntsNew wr.heap.size v1 .u8 A9 pl0:=IntsNew.of_own hown9 (by omega)
  have UV:Below wr.heap.size wr v1:=UW.grown hgr9 UW.size (fun g e=>by simp [ownB] at e)
  have hne9:∀ g,ownB A9=some g→g≠wr.heap.size:=fun g e=>by have:=(hown9.block g e).1;omega
  obtain ⟨V1,hV1⟩:∃ W,W=v1.setCell ⟨wr.heap.size,5,none⟩ (.slice A9 pl0.length c9):=⟨_,rfl⟩
  rw [← hV1]
  have OV:OnlyB wr.heap.size v1 V1:=by rw [hV1];exact OnlyB.setCell _ _ _ _
  have BV:Blk V1 wr.heap.size 105 #[.int .i64 at0, .int .i64 sq0, .int .i64 ti0, .bool mk0, .int .u8 ty0, .slice A9 pl0.length c9]:=by rw [hV1];exact BY.set_ 5 _
  have HI9:Hid (IntsNew wr.heap.size V1 .u8 A9 pl0):=H9 (IntsNew.of_own (base:=wr.heap.size+1) (OV.owns hown9 (by omega)) (by omega))
  have HCP9:=H9 (show pl0.length≤c9 from Owns.cap hown9)
  replace UV:=H9 (OV.below UV UV.size (Nat.le_refl _))
  have HO1:=H9 (HO.out.below UV.out)
  clear hV1 OV BY y0 y1 y2 y3 y4 y5 yz hgr9 hown9 hat9 hI9 hne9 UW BX IA hp5 hp6
  have z0:=BV.at 0 _ rfl
  have z1:=BV.at 1 _ rfl
  have z2:=BV.at 2 _ rfl
  have z3:=BV.at 3 _ rfl
  have z4:=BV.at 4 _ rfl
  have z5:=BV.at 5 _ rfl
  clear BV e0 e1 e2 e3 e4 e5
  have h5:(k+1)*56≤140737488355328:=by omega
  have h6:k+1≤maxLen:=by unfold maxLen;omega
  have h7:w.heap.size+2≤V1.heap.size:=by have:=UV.out.size;omega
  have HX:=H9 HO1.out.own
  go_wp2_with (at_builtin;go_loud (refine zaq (w0:=V1) rfl _ _ 38 rfl (w.heap.size+2) 105 6 56 _ Tryz.underlying38 zto rfl (by decide) A' k c' _ rfl HX.out [.int .i64 at0, .int .i64 sq0, .int .i64 ti0, .bool mk0, .int .u8 ty0, .slice A9 pl0.length c9] rfl (by simp [Value.oneCell']) rfl h6 h5 h7 ?_);intro An cn wn qo hgr hat)
  have hAk:∀ g,ownB A'=some g→w.heap.size+2≤g:=fun g e=>(HO.out.own.block g e).1
  have BS2:=H9 ((BS.out.below UV.out (by omega)).grown hgr (fun e=>by have:=hAk _ e.symm;omega))
  have BR2:=H9 ((BR.out.below UV.out (by omega)).grown hgr (fun e=>by have:=hAk _ e.symm;omega))
  have U2:Hid (Bel w wn):=H9 ((U.out.later UV.out).grown hgr (by have:=UV.out.size;omega) (fun g e=>by have:=hAk g e;omega))
  have HO2:=H9 (HO.out.step (a:=⟨⟨at0,⟨sq0,ti0,mk0,ty0,pl0⟩⟩,A9,c9⟩) (by omega) UV.out (Below.refl _ _) hgr (by simpa [TW.row] using qo) hat HI9.out HCP9.out)
  clear qo hgr hat hAk z0 z1 z2 z3 z4 z5 h5 h6 h7
  go_wp2_with fail
  go_roundg (gk-1)
  case measure=>omega
  case rel=>exact ⟨k+1,An,cn,l' ++ [⟨⟨at0,⟨sq0,ti0,mk0,ty0,pl0⟩⟩,A9,c9⟩],by omega,rfl,by go_num,H9 (by rw [List.map_append,HL.out,List.take_add_one,HM.out];rfl),HO2,BS2,BR2,U2⟩
def EncR (bs:List Int) (s:Int×Int) (w:World) (e:Ending) (w':World):Prop:=∃ (A':Option Addr) (c':Nat),e = .returned (.tuple #[.slice A' bs.length c', .agg #[.int .i64 s.1, .int .i64 s.2], .int .u8 0])∧IntsNew w.heap.size w' .u8 A' bs∧Below w.heap.size w w'
theorem zxi (v i:Int) (A:Option Addr) (zs:List Int) (c b:Nat) (w:World) (hA:IntsAt w w.heap.size .i16 A zs) (hz:Within (-32768) 32767 zs) (h8:zs.length≤8000) (hb:Blk w b 5 #[.int .u8 1]):Calls Tryz.prog 136 #[.agg #[.int .i64 v, .int .i64 i], .slice A zs.length c, .pointer (some ⟨b,0,none⟩)] w (EncR (zs.map Cmp.muZ) (v,i) w):=by
 have k1:=H9 fun (W:World) hW=>ztk A zs c W hW hz h8
 have U0:=H9 (((Bel.refl w).push (.cells #[.int .i64 v, .int .i64 i] 24)).push (.cells #[.int .i64 0, .int .i64 0] 24))
 have BS:=H9 ((Blk.new w 24 #[.int .i64 v, .int .i64 i]).push (.cells #[.int .i64 0, .int .i64 0] 24))
 have BR:=H9 (Blk.new1 w (.cells #[.int .i64 v, .int .i64 i] 24) 24 #[.int .i64 0, .int .i64 0])
 have IA:=H9 ((hA.push (.cells #[.int .i64 v, .int .i64 i] 24)).push (.cells #[.int .i64 0, .int .i64 0] 24))
 have BB:=H9 ((hb.push (.cells #[.int .i64 v, .int .i64 i] 24)).push (.cells #[.int .i64 0, .int .i64 0] 24))
 have hlt:=hb.lt
 clear hA hb hz
 go_enter Tryz.func136,Tryz.ntmps136
 have d0:=BB.out.at 0 _ rfl
 go_wp2_with fail
 refine (k1.out _ IA.out).mono ?_
 rintro e w1 ⟨A1,rfl,hI,hb1⟩
 have U1:=H9 (U0.out.later hb1)
 have BS1:=H9 (BS.out.later hb1)
 have BR1:=H9 (BR.out.later hb1)
 have HI:=H9 hI
 clear hb1 hI d0
 have c0:=BS1.out.at 0 _ rfl
 have c1:=BS1.out.at 1 _ rfl
 have r0:=BR1.out.at 0 _ rfl
 have r1:=BR1.out.at 1 _ rfl
 have rz:=BR1.out.frozen
 go_upto_region 2 with fail
 go_region
 have RF:=BR1.out.set_ 0 (.int .i64 v)
 have RG:=RF.set_ 1 (.int .i64 i)
 have q1:=RF.at 1 _ rfl
 have RI:IntsNew w.heap.size ((w1.setCell ⟨w.heap.size+1,0,none⟩ (.int .i64 v)).setCell ⟨w.heap.size+1,1,none⟩ (.int .i64 i)) .u8 A1 _:=((HI.out.setCell (p:=⟨w.heap.size+1,0,none⟩) (by simp) (.int .i64 v)).setCell (p:=⟨w.heap.size+1,1,none⟩) (by simp) (.int .i64 i)).less (by simp;omega)
 have UF:Bel w ((w1.setCell ⟨w.heap.size+1,0,none⟩ (.int .i64 v)).setCell ⟨w.heap.size+1,1,none⟩ (.int .i64 i)):=zal (zal U1.out (by simp) _) (by simp) _
 go_wp2_with fail
 refine bodyPost_ret (v := .tuple #[.slice A1 zs.length zs.length, .agg #[.int .i64 v, .int .i64 i], .int .u8 0]) (zoz Tryz.results136 rfl rfl (run_loadVar_row (P:=Tryz.prog) _ _ _ _ _ _ _ RG.drew Tryz.underlying24 rfl (by kernel_rfl)) rfl) rfl ⟨A1,zs.length,by rw [List.length_map],?_,UF.drew⟩
 exact RI
theorem zxo (v i:Int) (A:Option Addr) (zs:List Int) (c b:Nat) (w:World) (hA:IntsAt w w.heap.size .i16 A zs) (hz:Within (-32768) 32767 zs) (h8:zs.length≤8000) (hb:Blk w b 5 #[.int .u8 2]):Calls Tryz.prog 136 #[.agg #[.int .i64 v, .int .i64 i], .slice A zs.length c, .pointer (some ⟨b,0,none⟩)] w (EncR (zs.map Cmp.aZ) (v,i) w):=by
 have k1:=H9 fun (W:World) hW=>zvt A zs c W hW hz h8
 have U0:=H9 (((Bel.refl w).push (.cells #[.int .i64 v, .int .i64 i] 24)).push (.cells #[.int .i64 0, .int .i64 0] 24))
 have BS:=H9 ((Blk.new w 24 #[.int .i64 v, .int .i64 i]).push (.cells #[.int .i64 0, .int .i64 0] 24))
 have BR:=H9 (Blk.new1 w (.cells #[.int .i64 v, .int .i64 i] 24) 24 #[.int .i64 0, .int .i64 0])
 have IA:=H9 ((hA.push (.cells #[.int .i64 v, .int .i64 i] 24)).push (.cells #[.int .i64 0, .int .i64 0] 24))
 have BB:=H9 ((hb.push (.cells #[.int .i64 v, .int .i64 i] 24)).push (.cells #[.int .i64 0, .int .i64 0] 24))
 have hlt:=hb.lt
 clear hA hb hz
 go_enter Tryz.func136,Tryz.ntmps136
 have d0:=BB.out.at 0 _ rfl
 go_wp2_with fail
 refine (k1.out _ IA.out).mono ?_
 rintro e w1 ⟨A1,rfl,hI,hb1⟩
 have U1:=H9 (U0.out.later hb1)
 have BS1:=H9 (BS.out.later hb1)
 have BR1:=H9 (BR.out.later hb1)
 have HI:=H9 hI
 clear hb1 hI d0
 have c0:=BS1.out.at 0 _ rfl
 have c1:=BS1.out.at 1 _ rfl
 have r0:=BR1.out.at 0 _ rfl
 have r1:=BR1.out.at 1 _ rfl
 have rz:=BR1.out.frozen
 go_upto_region 2 with fail
 go_region
 have RF:=BR1.out.set_ 0 (.int .i64 v)
 have RG:=RF.set_ 1 (.int .i64 i)
 have q1:=RF.at 1 _ rfl
 have RI:IntsNew w.heap.size ((w1.setCell ⟨w.heap.size+1,0,none⟩ (.int .i64 v)).setCell ⟨w.heap.size+1,1,none⟩ (.int .i64 i)) .u8 A1 _:=((HI.out.setCell (p:=⟨w.heap.size+1,0,none⟩) (by simp) (.int .i64 v)).setCell (p:=⟨w.heap.size+1,1,none⟩) (by simp) (.int .i64 i)).less (by simp;omega)
 have UF:Bel w ((w1.setCell ⟨w.heap.size+1,0,none⟩ (.int .i64 v)).setCell ⟨w.heap.size+1,1,none⟩ (.int .i64 i)):=zal (zal U1.out (by simp) _) (by simp) _
 go_wp2_with fail
 refine bodyPost_ret (v := .tuple #[.slice A1 zs.length zs.length, .agg #[.int .i64 v, .int .i64 i], .int .u8 0]) (zoz Tryz.results136 rfl rfl (run_loadVar_row (P:=Tryz.prog) _ _ _ _ _ _ _ RG.drew Tryz.underlying24 rfl (by kernel_rfl)) rfl) rfl ⟨A1,zs.length,by rw [List.length_map],?_,UF.drew⟩
 exact RI
section
variable (q:Int) (A:Option Addr) (zs:List Int) (cap:Nat) (w:World)
theorem zlp (q0 : -9223372036854775808≤q) (q1:q≤9223372036854775807) (hA:IntsAt w w.heap.size .i16 A zs) (hz:Within (-32768) 32767 zs) (hl:zs.length≤8000) :
 Calls Tryz.prog 72 #[.agg #[.int .i64 q], .slice A zs.length cap] w fun e w'=>e = .returned (.tuple #[.agg #[.int .i64 (Ev.quiet q zs)], .bool (Ev.quiet q zs==10)])∧Below w.heap.size w w':=by
 have k1:=H9 fun W h=>zim A zs cap W h hz hl
 obtain ⟨R,hR⟩:∃ R,R=Ev.quiet q zs:=⟨_,rfl⟩
 rw [← hR]
 unfold Ev.quiet at hR
 have hb:=Ev.lev_bd zs hz
 have IA:=H9 ((hA.push (.cells #[.int .i64 q] 33)).push (.cells #[.int .i64 0] 33))
 generalize Ev.lev zs=L at *
 clear hz hA
 by_cases hL:L<60
 · rw [if_pos hL] at hR
   subst hR
   go_enter Tryz.func72,Tryz.ntmps72
   go_wp2_with (go_at_call 75;refine (k1.out _ IA.out).mono ?_;rintro e w1 ⟨rfl,rfl⟩)
   refine bodyPost_ret (v := .tuple #[.agg #[.int .i64 0], .bool ((0:Int)==10)]) (by simp [results,Tryz.results72,go_sem]) rfl ⟨rfl,?_⟩
   repeat (first|exact Below.refl _ _|refine Below.drew ?_|refine Below.setCell ?_ (by simp) _|refine Below.alloc ?_ (by simp;try omega) _)
 · rw [if_neg hL] at hR
   have hL':decide (L<60)=false:=by simpa using hL
   have HR:=H9 hR
   clear hR hL
   go_enter Tryz.func72,Tryz.ntmps72
   go_wp2_with (go_at_call 75;refine (k1.out _ IA.out).mono ?_;rintro e w1 ⟨rfl,rfl⟩)
   refine bodyPost_ret (v := .tuple #[.agg #[.int .i64 R], .bool (R==10)]) (by rw [HR.out];simp [results,Tryz.results72,go_sem]) rfl ⟨rfl,?_⟩
   repeat (first|exact Below.refl _ _|refine Below.drew ?_|refine Below.setCell ?_ (by simp) _|refine Below.alloc ?_ (by simp;try omega) _)
end
structure TK where
 k:Sb.Pkt
 B:Option Addr
 c:Nat
def TK.row (a:TK):List Value:=pktRow a.k a.B a.c
def Pks (w:World) (n:Nat) (A:Option Addr) (l:List TK):Prop:=RowsAt w n 11 TK.row A l∧∀ a∈l,IntsAt w n .u8 a.B a.k.pl
theorem Pks.nil {w:World} {n:Nat} {A:Option Addr} : Pks w n A []:=⟨fun h=>absurd h (by simp),fun _ h=>by cases h⟩
theorem Pks.keep {w w':World} {n:Nat} {A:Option Addr} {l:List TK} (h:Pks w n A l) (hk:∀ p:Addr,p.block<n→w'.cell? p=w.cell? p):Pks w' n A l:=⟨h.1.keep hk,fun a ha=>(h.2 a ha).keep hk⟩
theorem Pks.more {w:World} {n m:Nat} {A:Option Addr} {l:List TK} (h:Pks w n A l) (hm:n≤m):Pks w m A l:=⟨h.1.more hm,fun a ha=>(h.2 a ha).more hm⟩
theorem Pks.later {w w':World} {A:Option Addr} {l:List TK} (h:Pks w w.heap.size A l) (hb:Below w.heap.size w w'):Pks w' w'.heap.size A l:=(h.keep fun _ hp=>hb.cell hp).more hb.size
theorem Pks.one {w:World} {base bc c:Nat} {A B:Option Addr} {k:Sb.Pkt} {pl:List Int} (ho:Owns w base 51 11 A 1 c (pktRow k B bc)) (hp:IntsAt w w.heap.size .u8 B pl) (hk:k.pl=pl):Pks w w.heap.size A [⟨k,B,bc⟩]:=by
 refine ⟨Owns.rows (l:=[(⟨k,B,bc⟩:TK)]) (row:=TK.row) (by simpa [TK.row] using ho) rfl (fun a=>rfl),fun a ha => ?_⟩
 obtain rfl:=List.mem_singleton.1 ha
 show IntsAt w w.heap.size .u8 B k.pl
 rw [hk];exact hp
def findRegS (i:Nat):Code→Option Code
 | .region j ops d=>if i=j then some (.region j ops d) else none
 | .seq a b => match findRegS i a with
   | some c=>some c
   | none=>findRegS i b
 | .cond _ a b => match findRegS i a with
   | some c=>some c
   | none=>findRegS i b
 | .block _ c=>findRegS i c
 | .loop c=>findRegS i c
 | .scope c=>findRegS i c
 | _=>none
def PksN (n:Nat) (A:Option Addr) (l:List TK):Prop:=(0<l.length→∀ b off,A=some ⟨b,off,none⟩→n≤b)∧∀ a∈l,0<a.k.pl.length→∀ b off,a.B=some ⟨b,off,none⟩→n≤b
theorem PksN.nil {n:Nat} {A:Option Addr} : PksN n A []:=⟨fun h=>absurd h (by simp),fun _ h=>by cases h⟩
theorem PksN.one {w:World} {n base bc c:Nat} {A B:Option Addr} {k:Sb.Pkt} {xs:List Value} (ho:Owns w base 51 11 A 1 c xs) (hb:n≤base) (hp:∀ b off,B=some ⟨b,off,none⟩→n≤b):PksN n A [⟨k,B,bc⟩]:=by
 refine ⟨fun _ b off e => ?_,fun a ha _ b off e => ?_⟩
 · have:=(ho.block b (by rw [e];rfl)).1
   omega
 · obtain rfl:=List.mem_singleton.1 ha
   exact hp b off e
def SendR (R:Sb.Pt×List Sb.Pkt) (w:World) (e:Ending) (w':World):Prop :=
 ∃ (A':Option Addr) (n' c':Nat) (l':List TW) (KA:Option Addr) (kc:Nat) (ks:List TK),e = .returned (.tuple #[.agg (PA R.1 A' n' c'), .slice KA ks.length kc, .int .u8 0])∧ks.map TK.k=R.2∧l'.map TW.w=R.1.jt.q∧l'.length=n'∧n'≤c'∧c'≤maxLen∧Wts w' w'.heap.size A' l'∧Pks w' w'.heap.size KA ks∧Below w.heap.size w w'∧PksN w.heap.size KA ks
theorem PM.drew {W:World} {S:List Nat} {g n c:Nat} {p:Sb.Pt} {A:Option Addr} {l:List TW} (h:PM W S g p A n c l):PM W.drew S g p A n c l:=⟨h.box,h.q,h.len,h.cap,h.cm,⟨h.qa.wts,h.qa.row,h.qa.pay⟩⟩
theorem QOwn.capm {w:World} {base n c:Nat} {A:Option Addr} {l:List TW} (h:QOwn w base A n c l):n≤c∧c≤maxLen:=⟨h.own.cap,Owns.capm h.own⟩
end Go.Proofs.YtahbecinkciahaaGreat
namespace Go.Proofs.YtahbecinkciahaaGreat
open Go.RowKit
theorem ztq (v i:Int) (A:Option Addr) (zs:List Int) (cap:Nat) (w:World) (hv:Dlt.valid v i=true) (hA:IntsAt w w.heap.size .i16 A zs) (hz:Within (-32768) 32767 zs) (h8:zs.length≤8000) (h0:0<zs.length) :
 Calls Tryz.prog 92 #[.agg #[.int .i64 v, .int .i64 i], .slice A zs.length cap] w fun e w' => ∃ (A':Option Addr) (c':Nat),e = .returned (.tuple #[.slice A' (4+(zs.length+1) / 2) c', .agg #[.int .i64 (Dlt.stAt (v,i) zs zs.length).1, .int .i64 (Dlt.stAt (v,i) zs zs.length).2], .int .u8 0]) ∧
  4+(zs.length+1) / 2≤c'∧IntsNew w.heap.size w' .u8 A' (Dlt.packB (v,i) zs)∧Below w.heap.size w w':=by
 have hz89:=zlx
 have HI2:=H9 zhn
 obtain ⟨N,hN⟩:∃ N,N=4+(zs.length+1) / 2:=⟨_,rfl⟩
 have hN1:5≤N:=by omega
 have hN2:N≤4004:=by omega
 have HN:=H9 hN
 clear hN
 obtain ⟨W0,hW0⟩:∃ W0,W0=((w.alloc (.cells #[.int .i64 v, .int .i64 i] 24)).alloc (.cells #[.int .i64 0, .int .i64 0] 24)).alloc (.cells #[.int .i64 v, .int .i64 i] 24):=⟨_,rfl⟩
 obtain ⟨W1,hW1⟩:∃ W1,W1=W0.alloc (.cells (madeCells #[.int .u8 0] N) 5):=⟨_,rfl⟩
 have hs0:W0.heap.size=w.heap.size+1+1+1:=by rw [hW0];simp
 have hs1:W1.heap.size=w.heap.size+1+1+1+1:=by rw [hW1];simp [hs0]
 have B0:Blk W1 w.heap.size 24 #[.int .i64 v, .int .i64 i]:=by rw [hW1,hW0];exact ((((Blk.new w _ _).alloc _).alloc _).alloc _)
 have B1:Blk W1 (w.heap.size+1) 24 #[.int .i64 0, .int .i64 0]:=by
  have h:=Blk.new (w.alloc (.cells #[.int .i64 v, .int .i64 i] 24)) 24 #[.int .i64 0, .int .i64 0]
  rw [show (w.alloc (.cells #[.int .i64 v, .int .i64 i] 24)).heap.size=w.heap.size+1 by simp] at h
  rw [hW1,hW0];exact ((h.alloc _).alloc _)
 have R:W1.rowIs (w.heap.size+1+1+1) 5 N (fun _ => .int .u8 0):=by rw [hW1,← hs0];exact World.rowIs_made W0 _ _ _
 have hbw:Below w.heap.size w W1:=by
  rw [hW1,hW0];exact ((((Below.refl _ w).alloc (Nat.le_refl _) _).alloc (by simp) _).alloc (by simp;omega) _).alloc (by simp;omega) _
 have hmk:=run_make_row' (P:=Tryz.prog) 22 5 (.int .u8 0) 1 Tryz.underlying22 zwc rfl .i64 .i64 N (by omega) (by omega) W0
 rw [← hW1,hs0,hW0] at hmk
 have c0:=B0.at 0 _ rfl
 have c1:=B0.at 1 _ rfl
 have r0:=R.cell (i:=0) (by omega)
 have r1:=R.cell (i:=1) (by omega)
 have r2:=R.cell (i:=2) (by omega)
 have q0:=R.frozen 0
 have q1:=R.frozen 1
 have q2:=R.frozen 2
 have HB0:=H9 B0
 have HB1:=H9 B1
 have HR:=H9 R
 have HBW:=H9 hbw
 have HS1:=H9 hs1
 clear hW1 hs0 hW0 hs1 B0 B1 R hbw
 have hi0:(0:Int)<(N:Int):=by omega
 have hi1:(1:Int)<(N:Int):=by omega
 have hi2:(2:Int)<(N:Int):=by omega
 go_enter Tryz.func92,Tryz.ntmps92
 go_wp2_with fail
 refine (zii v i _).mono ?_
 rintro e w' ⟨rfl,rfl⟩
 rw [hv]
 go_wp2_with fail
 refine (zba _ _ h8).mono ?_
 rintro e w' ⟨rfl,rfl⟩
 rw [← HN.out]
 go_wp2_with fail
 clear hmk
 go_region
 go_wp2_with fail
 refine (zfc _).mono ?_
 rintro e w3 ⟨rfl,hb3⟩
 have e1:W1.heap.size=w.heap.size+1+1+1+1:=HS1.out
 have hrow:(((W1.setCell ⟨w.heap.size+1+1+1,0,none⟩ (.int .u8 (IntKind.u16.wrap v / 256 % 256))).setCell ⟨w.heap.size+1+1+1,1,none⟩ (.int .u8 (IntKind.u16.wrap v % 256))).setCell ⟨w.heap.size+1+1+1,2,none⟩ (.int .u8 (i % 256))).drew.rowIs (w.heap.size+1+1+1) 5 N (fun j => .int .u8 (Dlt.packAt (v,i) zs 0 j)) :=
  (((HR.out.set 0 _).set 1 _).set 2 _).congr fun j hj => by
    obtain ⟨g1,g2,g3,g4⟩:=zbx hv
    unfold Dlt.packAt Dlt.part
    rw [IntKind.wrap_u16]
    by_cases h2:j=2
    · subst h2;simp;omega
    · by_cases h1:j=1
      · subst h1;simp
      · by_cases h0:j=0
        · subst h0;simp;omega
        · simp [h0,h1,h2]
 have b0:Blk (((W1.setCell ⟨w.heap.size+1+1+1,0,none⟩ (.int .u8 (IntKind.u16.wrap v / 256 % 256))).setCell ⟨w.heap.size+1+1+1,1,none⟩ (.int .u8 (IntKind.u16.wrap v % 256))).setCell ⟨w.heap.size+1+1+1,2,none⟩ (.int .u8 (i % 256))).drew w.heap.size 24 #[.int .i64 v, .int .i64 i] :=
  (((HB0.out.far (by simp;omega) _).far (by simp;omega) _).far (by simp;omega) _).drew
 have b1:Blk (((W1.setCell ⟨w.heap.size+1+1+1,0,none⟩ (.int .u8 (IntKind.u16.wrap v / 256 % 256))).setCell ⟨w.heap.size+1+1+1,1,none⟩ (.int .u8 (IntKind.u16.wrap v % 256))).setCell ⟨w.heap.size+1+1+1,2,none⟩ (.int .u8 (i % 256))).drew (w.heap.size+1) 24 #[.int .i64 0, .int .i64 0] :=
  (((HB1.out.far (by simp) _).far (by simp) _).far (by simp) _).drew
 have hbw2:Below w.heap.size w (((W1.setCell ⟨w.heap.size+1+1+1,0,none⟩ (.int .u8 (IntKind.u16.wrap v / 256 % 256))).setCell ⟨w.heap.size+1+1+1,1,none⟩ (.int .u8 (IntKind.u16.wrap v % 256))).setCell ⟨w.heap.size+1+1+1,2,none⟩ (.int .u8 (i % 256))).drew :=
  (((HBW.out.setCell (by simp;omega) _).setCell (by simp;omega) _).setCell (by simp;omega) _).drew
 have hs3:w.heap.size+1+1+1+1≤w3.heap.size:=by have:=hb3.size;simpa [e1,World.setCell] using this
 have HB0':=H9 ((b0.later hb3).later (zbd w3))
 have HB1':=H9 ((b1.later hb3).later (zbd w3))
 have HR':=H9 (zbh (zbh hrow hb3 hrow.lt) (zbd w3) (zbh hrow hb3 hrow.lt).lt)
 have HBW':=H9 ((hbw2.trans (hb3.mono hbw2.size)).trans ((zbd w3).mono (by omega)))
 have HST:=H9 (zeb w3)
 have HT:=H9 (zda w3)
 clear hrow b0 b1 hbw2 hb3 HB0 HB1 HR HBW HS1 c0 c1 r0 r1 r2 q0 q1 q2 e1
 go_wp2_with (first
  | (refine wpList_store_mid rfl 198 (.tmp 10) (.tmp 48) (by rfl) w3.heap.size 0 Dlt.szA (by rfl) (by rfl) HT.out HI2.out zju ?_;change wpList _ _ _ _ _ (laidW w3);generalize laidW w3=W4 at *; generalize w3.heap.size=gt at *; clear hz89 HT HI2)
  | fail)
 go_loopw [51] (fun q wr => ∃ k:Nat,k≤zs.length∧q = .int .i64 k∧Blk wr w.heap.size 24 #[.int .i64 (Dlt.stAt (v,i) zs k).1, .int .i64 (Dlt.stAt (v,i) zs k).2] ∧
  Blk wr (w.heap.size+1) 24 #[.int .i64 0, .int .i64 0]∧wr.rowIs (w.heap.size+1+1+1) 5 N (fun j => .int .u8 (Dlt.packAt (v,i) zs k j))∧StepsAt wr gt∧Below w.heap.size w wr)
  (fun q _=>zs.length-(intOf q).toNat)
 case atStart=>exact ⟨0,Nat.zero_le _,rfl,HB0'.out,HB1'.out,HR'.out,HST.out,HBW'.out⟩
 case round =>
  obtain ⟨k,hk,rfl,B0,B1,R,hst,hb⟩:=hrel
  clear HB0' HB1' HR' HST HBW'
  have HSV:=H9 (Dlt.stAt_valid (v,i) hv zs k)
  by_cases hlt:k<zs.length
  · obtain ⟨b,off,rfl,hbB,qc⟩:=hA (by omega)
    have hzk:=hz.at hlt
    have hck:wr.cell? ⟨b,off+k,none⟩=some (.int .i16 (zs.getD k 0)):=(hb.cell (p:=⟨b,off+k,none⟩) hbB).trans (qc k hlt)
    have HS:=H9 (Dlt.stAt_succ (v,i) zs k hlt)
    have hcd:Dlt.code (Dlt.stAt (v,i) zs k).1 (Dlt.stAt (v,i) zs k).2 (zs.getD k 0)=Dlt.codeAt (v,i) zs k:=rfl
    obtain ⟨k0,k1⟩:=Dlt.codeAt_bd (v,i) zs k
    generalize hcc:Dlt.codeAt (v,i) zs k=c at *
    have HCC:=H9 hcc
    generalize zs.getD k 0=z at hck hzk hcd
    have HC:=H9 hcd
    obtain ⟨z0,z1⟩:=hzk
    clear qc hcd hcc
    generalize hV:(Dlt.stAt (v,i) zs k).1=V at *
    generalize hI:(Dlt.stAt (v,i) zs k).2=I at *
    have HV:=H9 hV
    have HI:=H9 hI
    have c0:=B0.at 0 _ rfl
    have c1:=B0.at 1 _ rfl
    have HB0:=H9 B0
    have HB1:=H9 B1
    have HR:=H9 R
    have HST:=H9 hst
    have HB:=H9 hb
    have hn0:(0:Int)≤(k:Int):=by omega
    have hn1:(k:Int)<(zs.length:Int):=by omega
    clear B0 B1 R hst hb hV hI
    go_wp2
    go_still_tail 6,(by kernel_rfl)
    change wpList _ _ _ _ _ wr.drew
    go_wp2_with fail
    refine (zna gt V I z wr.drew HST.out HSV.out z0 z1).mono ?_
    rintro e w5 ⟨rfl,hb5⟩
    rw [HC.out]
    have HB05:=H9 (HB0.out.drew.later hb5)
    have HB15:=H9 (HB1.out.drew.later hb5)
    have HR5:=H9 (zbh HR.out.drew hb5 HR.out.lt)
    have HST5:=H9 (StepsAt.below (w:=wr.drew) HST.out hb5)
    have HBW5:=H9 (HB.out.drew.trans (hb5.mono HB.out.size))
    clear hb5 HB0 HB1 HR HST HB c0 c1 hck
    have c0:=HB05.out.at 0 _ rfl
    have c1:=HB05.out.at 1 _ rfl
    go_wp2_with fail
    refine (zdz gt V I c _ HST5.out HSV.out k0 k1).mono ?_
    rintro e w6 ⟨rfl,hb6⟩
    have HB06:=H9 (HB05.out.later hb6)
    have HB16:=H9 (HB15.out.later hb6)
    have HR6:=H9 (zbh HR5.out hb6 HR5.out.lt)
    have HST6:=H9 (HST5.out.below hb6)
    have HBW6:=H9 (HBW5.out.trans (hb6.mono HBW5.out.size))
    clear hb6 HB05 HB15 HR5 HST5 HBW5 c0 c1
    have c0:=HB06.out.at 0 _ rfl
    have c1:=HB06.out.at 1 _ rfl
    have f0:=HB06.out.frozen 0
    have f1:=HB06.out.frozen 1
    have hM:k / 2+4<N:=by rw [HN.out];omega
    have hM1:(k:Int) / 2<((N-4:Nat):Int):=by omega
    have hM0:(0:Int)≤(k:Int) / 2:=by omega
    have hrc:w6.cell? ⟨w.heap.size+1+1+1,4+k / 2,none⟩=some (.int .u8 (Dlt.part (v,i) zs k (k / 2))):=by rw [HR6.out.cell (by omega),Dlt.packAt_body]
    have hrf:=HR6.out.frozen (4+k / 2)
    have hd1:w.heap.size≠w.heap.size+1+1+1:=by omega
    have hd2:w.heap.size+1+1+1≠w.heap.size:=by omega
    by_cases hpar:k % 2=0
    · have hpe:=Dlt.part_even (v,i) zs k hpar
      rw [hpe.1] at hrc
      have HPE:=H9 hpe.2
      have hpar':(k:Int) % 2=0:=by omega
      clear hpe hpar
      go_wp2
      go_roundw
      case rel =>
       have h:=zgr hs3 HB06.out HB16.out HR6.out HST6.out HBW6.out (c*16) (by rw [HPE.out,HCC.out];omega) HS.out
       exact ⟨k+1,by omega,by go_num,h⟩
      case measure=>simp [intOf];omega
    · have hpo:=Dlt.part_odd (v,i) zs k (by omega)
      obtain ⟨p0,p1⟩:=Dlt.codeAt_bd (v,i) zs (k-1)
      rw [hpo.1] at hrc
      have HPE:=H9 hpo.2
      generalize Dlt.codeAt (v,i) zs (k-1)=cp at *
      have hpar':(k:Int) % 2=1:=by omega
      clear hpo hpar
      go_wp2
      go_roundw
      case rel =>
       have h:=zgr hs3 HB06.out HB16.out HR6.out HST6.out HBW6.out (16*cp+c) (by rw [HPE.out,HCC.out]) HS.out
       exact ⟨k+1,by omega,by go_num,h⟩
      case measure=>simp [intOf];omega
  · obtain rfl:k=zs.length:=by omega
    clear hA hz
    have HB0:=H9 B0
    have HB1:=H9 B1
    have HR:=H9 R
    have HB:=H9 hb
    generalize hV:(Dlt.stAt (v,i) zs zs.length).1=V at *
    generalize hI:(Dlt.stAt (v,i) zs zs.length).2=I at *
    have HV:=H9 hV
    have HI:=H9 hI
    have c0:=B0.at 0 _ rfl
    have c1:=B0.at 1 _ rfl
    have d0:=B1.at 0 _ rfl
    have d1:=B1.at 1 _ rfl
    have f0:=B1.frozen 0
    have f1:=B1.frozen 1
    clear B0 B1 R hst hb hV hI
    go_wp2
    go_region
    go_wp2
    refine bodyPost_ret (v := .tuple #[.slice (some ⟨w.heap.size+1+1+1,0,none⟩) N N, .agg #[.int .i64 V, .int .i64 I], .int .u8 0]) (by simp [results,Tryz.results92,go_sem,d0,d1]) rfl ?_
    have hbd:=Dlt.packAt_bd (v,i) hv zs zs.length
    refine ⟨some ⟨w.heap.size+1+1+1,0,none⟩,N,by rw [HV.out,HI.out,HN.out],by rw [HN.out];omega,?_,?_⟩
    · refine ⟨?_,fun _ b' o' e=>by cases e;omega⟩
      refine IntsAt.of_row (((HR.out.setOther (by simp;omega) _).setOther (by simp;omega) _).drew) (by rw [Dlt.packB_len,HN.out];omega) fun j hj => ?_
      rw [Dlt.packB_len] at hj
      rw [Dlt.packB_at _ _ _ hj]
    · exact ((HB.out.setCell (by simp) _).setCell (by simp) _).drew
end Go.Proofs.YtahbecinkciahaaGreat
namespace Go.Proofs.YtahbecinkciahaaGreat
attribute [local go_sem ↓] zae zaf
attribute [local go_sem] zad zag
open Go.RowKit
structure EncK (k v i:Int) (ZA:Option Addr) (zc:Nat) (zs bs:List Int) (s:Int×Int) (K:Nat) (C:Nat→Nat→Array Value) (D:Nat→Nat→Value):Prop where
 at_:∀ b1 b2,cAt b1 b2 k = .agg #[.func (.func K) #[] (C b1 b2),D b1 b2]
 en:∀ (args:Array Value) (w:World),(callFunc K args).run Tryz.prog w = .ok (.enter K args) w
 run:∀ (V:World) (b1 b2:Nat),IntsAt V V.heap.size .i16 ZA zs→Blk V b1 5 #[.int .u8 1]→Blk V b2 5 #[.int .u8 2]→Calls Tryz.prog K (#[.agg #[.int .i64 v, .int .i64 i], .slice ZA 160 zc]++C b1 b2) V (EncR bs s V)
theorem zgc (K:Nat) (C:Array Value) (D:Value) (w:World):(Instr.field 97 (.agg #[.func (.func K) #[] C,D]) 0).run Tryz.prog w = .ok (.func (.func K) #[] C) w:=by kernel_rfl
theorem zvx (v i:Int) (A:Option Addr) (zs:List Int) (c:Nat) (w:World) (hv:Dlt.valid v i=true) (hA:IntsAt w w.heap.size .i16 A zs) (hz:Within (-32768) 32767 zs) (h8:zs.length≤8000) (h0:0<zs.length):Calls Tryz.prog 92 #[.agg #[.int .i64 v, .int .i64 i], .slice A zs.length c] w (EncR (Dlt.packB (v,i) zs) (Dlt.stAt (v,i) zs zs.length) w):=by
 refine (ztq v i A zs c w hv hA hz h8 h0).mono ?_
 rintro e w' ⟨A',c',rfl,h1,h2,h3⟩
 exact ⟨A',c',by rw [Dlt.packB_len],h2,h3⟩
theorem encK (k v i:Int) (hk:speechB k=true) (hv:Dlt.valid v i=true) (ZA:Option Addr) (zc:Nat) (zs:List Int) (hz:Within (-32768) 32767 zs) (hl:zs.length=160):∃ K C D,EncK k v i ZA zc zs (Sb.enc k (v,i) zs).1 (Sb.enc k (v,i) zs).2 K C D:=by
 unfold Sb.enc
 rcases zbi.1 hk with rfl|rfl|rfl
 · refine ⟨_,fun b1 _ => #[.pointer (some ⟨b1,0,none⟩)],fun b1 _=>_,⟨fun b1 b2=>rfl,fun _ _=>by kernel_rfl,fun V b1 b2 hA h1 h2 => ?_⟩⟩
   have:=zxi v i ZA zs zc b1 V hA hz (by omega) h1
   rw [hl] at this
   exact this
 · refine ⟨_,fun _ b2 => #[.pointer (some ⟨b2,0,none⟩)],fun _ b2=>_,⟨fun b1 b2=>rfl,fun _ _=>by kernel_rfl,fun V b1 b2 hA h1 h2 => ?_⟩⟩
   have:=zxo v i ZA zs zc b2 V hA hz (by omega) h2
   rw [hl] at this
   exact this
 · refine ⟨_,fun _ _ => #[],fun _ _=>_,⟨fun b1 b2=>rfl,fun _ _=>by kernel_rfl,fun V b1 b2 hA h1 h2 => ?_⟩⟩
   have:=zvx v i ZA zs zc V hv hA hz (by omega) (by omega)
   rw [hl] at this
   rw [show zs.length=160 from hl]
   exact this
noncomputable def sr8_code:Code:=((Tryz.f23.body.bind (findRegS 8)).getD .skip)
theorem zxj {s0 s3 s4 s5 s6 s7 s8 s9 s10 s11 s12 s13 s14 s15 s16 s17 s18 s19 s20 s21 s22 s23 s24 s25 s26 s27 s28 s29 s30 s31 s32 s33 s34 s35 s36 s37 s38 s39 s40 s41 s42 s43 s44 s45 s46 s47 s48 s49 s50 s51 s52 s53 s54 s55 s56 s57 s58 s59 s60 s61 s62 s63 s64 s65 s66 s67 s68 s69 s70 s71 s72 s73 s74 s75 s76 s77 s78 s79 s80 s81 s82 s83 s84 s85 s86 s87 s88 s89 s90 s91 s92 s93 s94 s95 s96 s97 s98 s99 s100 s101 s102 s103 s104 s105 s106 s107 s108 s109 s110 s111 s112 s113 s114 s115 s116 s117 s118 s119 s120 s121 s122 s123 s124 s125 s126 s127 s128 s129 s130 s131 s132 s133 s134 s135 s136 s137 s138:Value} {Q:Exit→Act→World→Prop} (N:Nat) (kc v i:Int) (k0:0≤kc) (k1:kc≤255) (ZA:Option Addr) (zs:List Int) (zc:Nat) (bs:List Int) (s:Int×Int) (FK:Nat) (FC:Nat→Nat→Array Value) (FD:Nat→Nat→Value) (hE:EncK kc v i ZA zc zs bs s FK FC FD) (W:World) (x0:W.cell? ⟨N,0,none⟩=some (.int .u8 kc)) (x6:W.cell? ⟨N,6,none⟩=some (.int .i64 v)) (x7:W.cell? ⟨N,7,none⟩=some (.int .i64 i)) (hZ:IntsAt W W.heap.size .i16 ZA zs) (hQp:∀ (ch:_) (a:Act) (d:Tmp) (u:Value) (w:World),Q (.panic ch) (a.put (some d) u) w→Q (.panic ch) a w)
 (h:∀ (wx:World) (A8:Option Addr) (c8 g8:Nat) (u43 u44 u45 u46 u47 u48 u49 u50 u51 u52 u53 u54 u55:Value),Hid (IntsNew W.heap.size wx .u8 A8 bs)→Hid (Blk wx g8 24 #[.int .i64 s.1, .int .i64 s.2])→Hid (W.heap.size≤g8)→Hid (Below W.heap.size W wx)→Q .normal ⟨#[s0, .slice ZA 160 zc, .pointer (some ⟨N,0,none⟩),s3,s4,s5,s6,s7,s8,s9,s10,s11,s12,s13,s14,s15,s16, .slice A8 bs.length c8, .pointer (some ⟨g8,0,none⟩), .int .u8 0,s20,s21,s22,s23,s24,s25,s26,s27,s28,s29,s30,s31,s32,s33,s34,s35,s36,s37,s38,s39,s40,s41,s42,u43,u44,u45,u46,u47,u48,u49,u50,u51,u52,u53,u54,u55,s56,s57,s58,s59,s60,s61,s62,s63,s64,s65,s66,s67,s68,s69,s70,s71,s72,s73,s74,s75,s76,s77,s78,s79,s80,s81,s82,s83,s84,s85,s86,s87,s88,s89,s90,s91,s92,s93,s94,s95,s96,s97,s98,s99,s100,s101,s102,s103,s104,s105,s106,s107,s108,s109,s110,s111,s112,s113,s114,s115,s116,s117,s118,s119,s120,s121,s122,s123,s124,s125,s126,s127,s128,s129,s130,s131,s132,s133,s134,s135,s136,s137,s138],[]⟩ wx):sr8_code.wp Tryz.prog Q ⟨#[s0, .slice ZA 160 zc, .pointer (some ⟨N,0,none⟩),s3,s4,s5,s6,s7,s8,s9,s10,s11,s12,s13,s14,s15,s16,s17,s18,s19,s20,s21,s22,s23,s24,s25,s26,s27,s28,s29,s30,s31,s32,s33,s34,s35,s36,s37,s38,s39,s40,s41,s42,s43,s44,s45,s46,s47,s48,s49,s50,s51,s52,s53,s54,s55,s56,s57,s58,s59,s60,s61,s62,s63,s64,s65,s66,s67,s68,s69,s70,s71,s72,s73,s74,s75,s76,s77,s78,s79,s80,s81,s82,s83,s84,s85,s86,s87,s88,s89,s90,s91,s92,s93,s94,s95,s96,s97,s98,s99,s100,s101,s102,s103,s104,s105,s106,s107,s108,s109,s110,s111,s112,s113,s114,s115,s116,s117,s118,s119,s120,s121,s122,s123,s124,s125,s126,s127,s128,s129,s130,s131,s132,s133,s134,s135,s136,s137,s138],[]⟩ W:=by
 have HE:=H9 hE
 have HZ:=H9 hZ
 have hq:=H9 h
 clear hZ h hE
 obtain ⟨s1,s2⟩:=s
 conv=>arg 2;whnf
 refine wp_region_held_drew (S:=fun w'=>Below W.heap.size W w') (by kernel_rfl) (Below.drew (Below.refl _ _)) (fun qH => ?_)
 refine tk1 (i:=1) (v:=?_) rfl (Or.inl ⟨by rfl,?_⟩) qH ?_ (hQ:=q9 hQp)
 rotate_left
 · (intro w hSw;clear hSw;go_simp;try with_reducible rfl)
 try simp only [ss9]
 refine tk1 (i:=2) (v:=?_) rfl (Or.inl ⟨by rfl,?_⟩) qH ?_ (hQ:=q9 hQp)
 rotate_left
 · (intro w hSw;have c0:=zaa hSw x0;clear hSw;go_simp;try with_reducible rfl)
 try simp only [ss9]
 refine tk1 (i:=5) (v:=?_) rfl (Or.inl ⟨by rfl,?_⟩) qH ?_ (hQ:=q9 hQp)
 rotate_left
 · (intro w hSw;clear hSw;go_simp;try with_reducible rfl)
 try simp only [ss9]
 refine tk1 (i:=6) (v:=?_) rfl (Or.inl ⟨by rfl,?_⟩) qH ?_ (hQ:=q9 hQp)
 rotate_left
 · (intro w hSw;have c6:=zaa hSw x6;have c7:=zaa hSw x7;clear hSw;go_simp;try with_reducible rfl)
 try simp only [ss9]
 refine tk1 (i:=7) (v:=?_) rfl (Or.inl ⟨by rfl,?_⟩) qH ?_ (hQ:=q9 hQp)
 rotate_left
 · (intro w hSw;clear hSw;go_simp;try with_reducible rfl)
 try simp only [ss9]
 refine wpAnyH_ready (rs:=[0,13]) (by kernel_rfl) (by simp) ?_
 refine AllReadyH.cons (o:=_) rfl (fun K hK => ?_) (AllReadyH.cons (o:=_) rfl (fun K hK => ?_) AllReadyH.nil)
 · go_simp
   refine (zbn _).mono ?_
   rintro e w7 ⟨b,b1,b2,rfl,C,hb1⟩
   have HC:=H9 C
   refine hK.out _ _ ?_ (fun qH => ?_)
   · exact zai hb1 qH
   clear hK K C hb1
   try simp only [ss9]
   refine wpAnyH_ready (rs:=[3,13]) (by kernel_rfl) (by simp) ?_
   refine AllReadyH.cons (o:=_) rfl (fun K hK => ?_) (AllReadyH.cons (o:=_) rfl (fun K hK => ?_) AllReadyH.nil)
   · have kl:=(zbj HC.out kc k0 k1).1
     rw [HE.out.at_] at kl
     go_simp
     refine hK.out _ _ ?_ (fun qH => ?_)
     · exact qH
     clear hK K kl
     try simp only [ss9]
     have hfl:=zgc
     refine tk1 (i:=4) (v:=?_) rfl (Or.inl ⟨by rfl,?_⟩) qH ?_ (hQ:=q9 hQp)
     rotate_left
     · (intro w hSw;clear hSw;go_simp;try with_reducible rfl)
     try simp only [ss9]
     clear hfl
     refine wpAnyH_ready (rs:=[8,13]) (by kernel_rfl) (by simp) ?_
     refine AllReadyH.cons (o:=_) rfl (fun K hK => ?_) (AllReadyH.cons (o:=_) rfl (fun K hK => ?_) AllReadyH.nil)
     · go_simp
       rw [HE.out.en]
       refine (HE.out.run _ b1 b2 (HZ.out.later qH) HC.out.l1 HC.out.l2).mono ?_
       rintro e w9 ⟨A8,c8,rfl,hI9,hb2⟩
       have HI:=H9 (hI9.less qH.size)
       refine hK.out _ _ ?_ (fun qH => ?_)
       · exact zai hb2 qH
       clear hK K HC hI9 hb2
       try simp only [ss9]
       refine tk1 (i:=9) (v:=?_) rfl (Or.inl ⟨by rfl,?_⟩) qH ?_ (hQ:=q9 hQp)
       rotate_left
       · (intro w hSw;clear hSw;go_simp;try with_reducible rfl)
       try simp only [ss9]
       refine tk1 (i:=10) (v:=?_) rfl (Or.inl ⟨by rfl,?_⟩) qH ?_ (hQ:=q9 hQp)
       rotate_left
       · (intro w hSw;clear hSw;go_simp;try with_reducible rfl)
       try simp only [ss9]
       refine tk1 (i:=11) (v:=?_) rfl (Or.inl ⟨by rfl,?_⟩) qH ?_ (hQ:=q9 hQp)
       rotate_left
       · (intro w hSw;clear hSw;go_simp;try with_reducible rfl)
       try simp only [ss9]
       refine tk1 (i:=12) (v:=?_) rfl (Or.inl ⟨by rfl,?_⟩) qH ?_ (hQ:=q9 hQp)
       rotate_left
       · (intro w hSw;clear hSw;go_simp;try with_reducible rfl)
       try simp only [ss9]
       refine wpAnyH_ready (rs:=[13]) (by kernel_rfl) (by simp) ?_
       refine AllReadyH.cons (o:=_) rfl (fun K hK => ?_) AllReadyH.nil
       · go_simp
         have HD:=H9 (Blk.new (w9) 24 #[.int .i64 0, .int .i64 0])
         have hg8:W.heap.size≤(w9).heap.size:=qH.size
         obtain ⟨g8,hgg⟩:∃ g,g=(w9).heap.size:=⟨_,rfl⟩
         replace HI:=H9 (HI.out.push (Obj.cells #[.int .i64 0, .int .i64 0] 24))
         refine hK.out _ _ ?_ (fun qH => ?_)
         · exact zaj qH _
         clear hK K
         try simp only [ss9]
         obtain ⟨V4,hV⟩:∃ V,V=(w9).alloc (Obj.cells #[.int .i64 0, .int .i64 0] 24):=⟨_,rfl⟩
         rw [← hV] at HD qH HI ⊢
         rw [← hgg] at HD hg8 ⊢
         clear hgg
         clear hV
         refine tk1 (i:=14) (v:=?_) rfl (Or.inl ⟨by rfl,?_⟩) qH ?_ (hQ:=q9 hQp)
         rotate_left
         · (intro w hSw;clear hSw;go_simp;try with_reducible rfl)
         try simp only [ss9]
         have y0:=HD.out.at 0 _ rfl
         have y1:=HD.out.at 1 _ rfl
         have yz:=HD.out.frozen
         refine wpAnyH_ready (rs:=[15]) (by kernel_rfl) (by simp) ?_
         refine AllReadyH.cons (o:=_) rfl (fun K hK => ?_) AllReadyH.nil
         go_simp
         refine hK.out _ _ ?_ (fun qH => ?_)
         · exact zal (zal qH hg8 _) hg8 _
         clear hK K
         try simp only [ss9]
         refine tk1 (i:=16) (v:=?_) rfl (Or.inl ⟨by rfl,?_⟩) qH ?_ (hQ:=q9 hQp)
         rotate_left
         · (intro w hSw;clear hSw;go_simp;try with_reducible rfl)
         try simp only [ss9]
         refine wpAnyH_done (by kernel_rfl) ?_ _
         have z1:=(HD.out.set_ 0 (.int .i64 s1)).at 1 _ rfl
         exact hq.out _ A8 c8 _ _ _ _ _ _ _ _ _ _ _ _ _ _ (H9 ⟨((HI.out.1.set_ne y0 (by intro z e;cases e) _).set_ne z1 (by intro z e;cases e) _).more (by simp [World.setCell]),HI.out.2⟩) (H9 ((HD.out.set_ 0 _).set_ 1 _)) (H9 hg8) (H9 qH)
     · go_simp
       have HD:=H9 (Blk.new (w7) 24 #[.int .i64 0, .int .i64 0])
       have hg8:W.heap.size≤(w7).heap.size:=qH.size
       obtain ⟨g8,hgg⟩:∃ g,g=(w7).heap.size:=⟨_,rfl⟩
       replace HC:=H9 (HC.out.later ((Below.refl _ _).alloc (Nat.le_refl _) (Obj.cells #[.int .i64 0, .int .i64 0] 24)))
       refine hK.out _ _ ?_ (fun qH => ?_)
       · exact zaj qH _
       clear hK K
       try simp only [ss9]
       obtain ⟨V5,hV⟩:∃ V,V=(w7).alloc (Obj.cells #[.int .i64 0, .int .i64 0] 24):=⟨_,rfl⟩
       rw [← hV] at HD qH HC ⊢
       rw [← hgg] at HD hg8 ⊢
       clear hgg
       clear hV
       refine wpAnyH_ready (rs:=[8]) (by kernel_rfl) (by simp) ?_
       refine AllReadyH.cons (o:=_) rfl (fun K hK => ?_) AllReadyH.nil
       · go_simp
         rw [HE.out.en]
         refine (HE.out.run _ b1 b2 (HZ.out.later qH) HC.out.l1 HC.out.l2).mono ?_
         rintro e w9 ⟨A8,c8,rfl,hI9,hb2⟩
         have HI:=H9 (hI9.less qH.size)
         replace HD:=H9 (HD.out.later hb2)
         refine hK.out _ _ ?_ (fun qH => ?_)
         · exact zai hb2 qH
         clear hK K HC hI9 hb2
         try simp only [ss9]
         refine tk1 (i:=9) (v:=?_) rfl (Or.inl ⟨by rfl,?_⟩) qH ?_ (hQ:=q9 hQp)
         rotate_left
         · (intro w hSw;clear hSw;go_simp;try with_reducible rfl)
         try simp only [ss9]
         refine tk1 (i:=10) (v:=?_) rfl (Or.inl ⟨by rfl,?_⟩) qH ?_ (hQ:=q9 hQp)
         rotate_left
         · (intro w hSw;clear hSw;go_simp;try with_reducible rfl)
         try simp only [ss9]
         refine tk1 (i:=11) (v:=?_) rfl (Or.inl ⟨by rfl,?_⟩) qH ?_ (hQ:=q9 hQp)
         rotate_left
         · (intro w hSw;clear hSw;go_simp;try with_reducible rfl)
         try simp only [ss9]
         refine tk1 (i:=12) (v:=?_) rfl (Or.inl ⟨by rfl,?_⟩) qH ?_ (hQ:=q9 hQp)
         rotate_left
         · (intro w hSw;clear hSw;go_simp;try with_reducible rfl)
         try simp only [ss9]
         refine tk1 (i:=14) (v:=?_) rfl (Or.inl ⟨by rfl,?_⟩) qH ?_ (hQ:=q9 hQp)
         rotate_left
         · (intro w hSw;clear hSw;go_simp;try with_reducible rfl)
         try simp only [ss9]
         have y0:=HD.out.at 0 _ rfl
         have y1:=HD.out.at 1 _ rfl
         have yz:=HD.out.frozen
         refine wpAnyH_ready (rs:=[15]) (by kernel_rfl) (by simp) ?_
         refine AllReadyH.cons (o:=_) rfl (fun K hK => ?_) AllReadyH.nil
         go_simp
         refine hK.out _ _ ?_ (fun qH => ?_)
         · exact zal (zal qH hg8 _) hg8 _
         clear hK K
         try simp only [ss9]
         refine tk1 (i:=16) (v:=?_) rfl (Or.inl ⟨by rfl,?_⟩) qH ?_ (hQ:=q9 hQp)
         rotate_left
         · (intro w hSw;clear hSw;go_simp;try with_reducible rfl)
         try simp only [ss9]
         refine wpAnyH_done (by kernel_rfl) ?_ _
         have z1:=(HD.out.set_ 0 (.int .i64 s1)).at 1 _ rfl
         exact hq.out _ A8 c8 _ _ _ _ _ _ _ _ _ _ _ _ _ _ (H9 ⟨((HI.out.1.set_ne y0 (by intro z e;cases e) _).set_ne z1 (by intro z e;cases e) _).more (by simp [World.setCell]),HI.out.2⟩) (H9 ((HD.out.set_ 0 _).set_ 1 _)) (H9 hg8) (H9 qH)
   · go_simp
     have HD:=H9 (Blk.new (w7) 24 #[.int .i64 0, .int .i64 0])
     have hg8:W.heap.size≤(w7).heap.size:=qH.size
     obtain ⟨g8,hgg⟩:∃ g,g=(w7).heap.size:=⟨_,rfl⟩
     replace HC:=H9 (HC.out.later ((Below.refl _ _).alloc (Nat.le_refl _) (Obj.cells #[.int .i64 0, .int .i64 0] 24)))
     refine hK.out _ _ ?_ (fun qH => ?_)
     · exact zaj qH _
     clear hK K
     try simp only [ss9]
     obtain ⟨V7,hV⟩:∃ V,V=(w7).alloc (Obj.cells #[.int .i64 0, .int .i64 0] 24):=⟨_,rfl⟩
     rw [← hV] at HD qH HC ⊢
     rw [← hgg] at HD hg8 ⊢
     clear hgg
     clear hV
     refine wpAnyH_ready (rs:=[3]) (by kernel_rfl) (by simp) ?_
     refine AllReadyH.cons (o:=_) rfl (fun K hK => ?_) AllReadyH.nil
     · have kl:=(zbj HC.out kc k0 k1).1
       rw [HE.out.at_] at kl
       go_simp
       refine hK.out _ _ ?_ (fun qH => ?_)
       · exact qH
       clear hK K kl
       try simp only [ss9]
       have hfl:=zgc
       refine tk1 (i:=4) (v:=?_) rfl (Or.inl ⟨by rfl,?_⟩) qH ?_ (hQ:=q9 hQp)
       rotate_left
       · (intro w hSw;clear hSw;go_simp;try with_reducible rfl)
       try simp only [ss9]
       clear hfl
       refine wpAnyH_ready (rs:=[8]) (by kernel_rfl) (by simp) ?_
       refine AllReadyH.cons (o:=_) rfl (fun K hK => ?_) AllReadyH.nil
       · go_simp
         rw [HE.out.en]
         refine (HE.out.run _ b1 b2 (HZ.out.later qH) HC.out.l1 HC.out.l2).mono ?_
         rintro e w9 ⟨A8,c8,rfl,hI9,hb2⟩
         have HI:=H9 (hI9.less qH.size)
         replace HD:=H9 (HD.out.later hb2)
         refine hK.out _ _ ?_ (fun qH => ?_)
         · exact zai hb2 qH
         clear hK K HC hI9 hb2
         try simp only [ss9]
         refine tk1 (i:=9) (v:=?_) rfl (Or.inl ⟨by rfl,?_⟩) qH ?_ (hQ:=q9 hQp)
         rotate_left
         · (intro w hSw;clear hSw;go_simp;try with_reducible rfl)
         try simp only [ss9]
         refine tk1 (i:=10) (v:=?_) rfl (Or.inl ⟨by rfl,?_⟩) qH ?_ (hQ:=q9 hQp)
         rotate_left
         · (intro w hSw;clear hSw;go_simp;try with_reducible rfl)
         try simp only [ss9]
         refine tk1 (i:=11) (v:=?_) rfl (Or.inl ⟨by rfl,?_⟩) qH ?_ (hQ:=q9 hQp)
         rotate_left
         · (intro w hSw;clear hSw;go_simp;try with_reducible rfl)
         try simp only [ss9]
         refine tk1 (i:=12) (v:=?_) rfl (Or.inl ⟨by rfl,?_⟩) qH ?_ (hQ:=q9 hQp)
         rotate_left
         · (intro w hSw;clear hSw;go_simp;try with_reducible rfl)
         try simp only [ss9]
         refine tk1 (i:=14) (v:=?_) rfl (Or.inl ⟨by rfl,?_⟩) qH ?_ (hQ:=q9 hQp)
         rotate_left
         · (intro w hSw;clear hSw;go_simp;try with_reducible rfl)
         try simp only [ss9]
         have y0:=HD.out.at 0 _ rfl
         have y1:=HD.out.at 1 _ rfl
         have yz:=HD.out.frozen
         refine wpAnyH_ready (rs:=[15]) (by kernel_rfl) (by simp) ?_
         refine AllReadyH.cons (o:=_) rfl (fun K hK => ?_) AllReadyH.nil
         go_simp
         refine hK.out _ _ ?_ (fun qH => ?_)
         · exact zal (zal qH hg8 _) hg8 _
         clear hK K
         try simp only [ss9]
         refine tk1 (i:=16) (v:=?_) rfl (Or.inl ⟨by rfl,?_⟩) qH ?_ (hQ:=q9 hQp)
         rotate_left
         · (intro w hSw;clear hSw;go_simp;try with_reducible rfl)
         try simp only [ss9]
         refine wpAnyH_done (by kernel_rfl) ?_ _
         have z1:=(HD.out.set_ 0 (.int .i64 s1)).at 1 _ rfl
         exact hq.out _ A8 c8 _ _ _ _ _ _ _ _ _ _ _ _ _ _ (H9 ⟨((HI.out.1.set_ne y0 (by intro z e;cases e) _).set_ne z1 (by intro z e;cases e) _).more (by simp [World.setCell]),HI.out.2⟩) (H9 ((HD.out.set_ 0 _).set_ 1 _)) (H9 hg8) (H9 qH)
 · go_simp
   have HD:=H9 (Blk.new (W) 24 #[.int .i64 0, .int .i64 0])
   have hg8:W.heap.size≤(W).heap.size:=qH.size
   obtain ⟨g8,hgg⟩:∃ g,g=(W).heap.size:=⟨_,rfl⟩
   replace HD:=H9 (Blk.dr HD.out)
   refine hK.out _ _ ?_ (fun qH => ?_)
   · exact Below.drew (zaj (Below.refl _ _) _)
   clear hK K
   try simp only [ss9]
   obtain ⟨V10,hV⟩:∃ V,V=(W.alloc (Obj.cells #[.int .i64 0, .int .i64 0] 24)).drew:=⟨_,rfl⟩
   rw [← hV] at HD qH ⊢
   subst hgg
   clear hV
   refine wpAnyH_ready (rs:=[0]) (by kernel_rfl) (by simp) ?_
   refine AllReadyH.cons (o:=_) rfl (fun K hK => ?_) AllReadyH.nil
   · go_simp
     refine (zbn _).mono ?_
     rintro e w7 ⟨b,b1,b2,rfl,C,hb1⟩
     have HC:=H9 C
     replace HD:=H9 (HD.out.later hb1)
     refine hK.out _ _ ?_ (fun qH => ?_)
     · exact zai hb1 qH
     clear hK K C hb1
     try simp only [ss9]
     refine wpAnyH_ready (rs:=[3]) (by kernel_rfl) (by simp) ?_
     refine AllReadyH.cons (o:=_) rfl (fun K hK => ?_) AllReadyH.nil
     · have kl:=(zbj HC.out kc k0 k1).1
       rw [HE.out.at_] at kl
       go_simp
       refine hK.out _ _ ?_ (fun qH => ?_)
       · exact qH
       clear hK K kl
       try simp only [ss9]
       have hfl:=zgc
       refine tk1 (i:=4) (v:=?_) rfl (Or.inl ⟨by rfl,?_⟩) qH ?_ (hQ:=q9 hQp)
       rotate_left
       · (intro w hSw;clear hSw;go_simp;try with_reducible rfl)
       try simp only [ss9]
       clear hfl
       refine wpAnyH_ready (rs:=[8]) (by kernel_rfl) (by simp) ?_
       refine AllReadyH.cons (o:=_) rfl (fun K hK => ?_) AllReadyH.nil
       · go_simp
         rw [HE.out.en]
         refine (HE.out.run _ b1 b2 (HZ.out.later qH) HC.out.l1 HC.out.l2).mono ?_
         rintro e w9 ⟨A8,c8,rfl,hI9,hb2⟩
         have HI:=H9 (hI9.less qH.size)
         replace HD:=H9 (HD.out.later hb2)
         refine hK.out _ _ ?_ (fun qH => ?_)
         · exact zai hb2 qH
         clear hK K HC hI9 hb2
         try simp only [ss9]
         refine tk1 (i:=9) (v:=?_) rfl (Or.inl ⟨by rfl,?_⟩) qH ?_ (hQ:=q9 hQp)
         rotate_left
         · (intro w hSw;clear hSw;go_simp;try with_reducible rfl)
         try simp only [ss9]
         refine tk1 (i:=10) (v:=?_) rfl (Or.inl ⟨by rfl,?_⟩) qH ?_ (hQ:=q9 hQp)
         rotate_left
         · (intro w hSw;clear hSw;go_simp;try with_reducible rfl)
         try simp only [ss9]
         refine tk1 (i:=11) (v:=?_) rfl (Or.inl ⟨by rfl,?_⟩) qH ?_ (hQ:=q9 hQp)
         rotate_left
         · (intro w hSw;clear hSw;go_simp;try with_reducible rfl)
         try simp only [ss9]
         refine tk1 (i:=12) (v:=?_) rfl (Or.inl ⟨by rfl,?_⟩) qH ?_ (hQ:=q9 hQp)
         rotate_left
         · (intro w hSw;clear hSw;go_simp;try with_reducible rfl)
         try simp only [ss9]
         refine tk1 (i:=14) (v:=?_) rfl (Or.inl ⟨by rfl,?_⟩) qH ?_ (hQ:=q9 hQp)
         rotate_left
         · (intro w hSw;clear hSw;go_simp;try with_reducible rfl)
         try simp only [ss9]
         have y0:=HD.out.at 0 _ rfl
         have y1:=HD.out.at 1 _ rfl
         have yz:=HD.out.frozen
         refine wpAnyH_ready (rs:=[15]) (by kernel_rfl) (by simp) ?_
         refine AllReadyH.cons (o:=_) rfl (fun K hK => ?_) AllReadyH.nil
         go_simp
         refine hK.out _ _ ?_ (fun qH => ?_)
         · exact zal (zal qH hg8 _) hg8 _
         clear hK K
         try simp only [ss9]
         refine tk1 (i:=16) (v:=?_) rfl (Or.inl ⟨by rfl,?_⟩) qH ?_ (hQ:=q9 hQp)
         rotate_left
         · (intro w hSw;clear hSw;go_simp;try with_reducible rfl)
         try simp only [ss9]
         refine wpAnyH_done (by kernel_rfl) ?_ _
         have z1:=(HD.out.set_ 0 (.int .i64 s1)).at 1 _ rfl
         exact hq.out _ A8 c8 _ _ _ _ _ _ _ _ _ _ _ _ _ _ (H9 ⟨((HI.out.1.set_ne y0 (by intro z e;cases e) _).set_ne z1 (by intro z e;cases e) _).more (by simp [World.setCell]),HI.out.2⟩) (H9 ((HD.out.set_ 0 _).set_ 1 _)) (H9 hg8) (H9 qH)
def fromBlk (i:Nat):Code→Option Code
 | .seq (.block j x) b=>if i=j then some (.seq (.block j x) b) else fromBlk i b
 | .seq a b=>fromBlk i b
 | _=>none
theorem zlq {P:Program} {i:Nat} {x y:Code} {Q:Exit→Act→World→Prop} {a:Act} {w:World} (h:∀ K:Act→World→Prop,(∀ a w,y.wp P Q a w→K a w)→(Code.block i x).wp P (Exit.then K Q) a w):firstWp P (.seq (.block i x) y) Q a w:=h _ fun _ _ h=>h
structure SC (w:World) (p:Sb.Pt) (A:Option Addr) (l:List TW) (n c:Nat) (ZA:Option Addr) (zs:List Int) (zc:Nat):Prop where
 wf:p.wf
 q:l.map TW.w=p.jt.q
 len:l.length=n
 n5:n≤100000
 cap:n≤c
 cm:c≤maxLen
 av:Wts w w.heap.size A l
 sq:∀ a∈l,I64 a.w.m.sq
 pay:∀ a∈l,a.w.m.pl.length≤1000000
 z:IntsAt w w.heap.size .i16 ZA zs
 zb:Within (-32768) 32767 zs
 zl:zs.length=160
 v:p.valid=true
structure PkS (W:World) (n:Nat) (S:List Nat) (KA:Option Addr) (ks:List TK):Prop where
 rows:Pks W W.heap.size KA ks
 av:0<ks.length→∀ b off,KA=some ⟨b,off,none⟩→b∉S
 pay:∀ a∈ks,0<a.k.pl.length→∀ b off,a.B=some ⟨b,off,none⟩→b∉S
 new:PksN n KA ks
theorem PkS.nil {W:World} {n:Nat} {S:List Nat} {KA:Option Addr} : PkS W n S KA []:=⟨Pks.nil,fun h=>absurd h (by simp),(fun _ h=>by cases h),PksN.nil⟩
theorem PkS.chg {W W':World} {n:Nat} {S T:List Nat} {KA:Option Addr} {ks:List TK} (h:PkS W n S KA ks) (hc:Chg T W W') (hT:∀ x∈T,x∈S):PkS W' n S KA ks:=by
 refine ⟨⟨fun h0 => ?_,fun a ha => ?_⟩,h.av,h.pay,h.new⟩
 · obtain ⟨b,off,e,hlt,qc⟩:=h.rows.1 h0
   exact ⟨b,off,e,Nat.lt_of_lt_of_le hlt hc.size,fun i a ha j v hv=>(hc.cell (p:=⟨b,off+i*11+j,none⟩) hlt (fun hb=>h.av h0 b off e (hT b hb))).trans (qc i a ha j v hv)⟩
 · exact hc.ints (h.rows.2 a ha) (fun h0 b off e hb=>h.pay a ha h0 b off e (hT b hb))
theorem PkS.one {W:World} {n base bc c:Nat} {S:List Nat} {A B:Option Addr} {k:Sb.Pkt} {pl:List Int} (ho:Owns W base 51 11 A 1 c (pktRow k B bc)) (hp:IntsAv W S .u8 B pl) (hk:k.pl=pl) (hb:∀ x∈S,x<base) (hn:n≤base) (hbn:0<pl.length→∀ b off,B=some ⟨b,off,none⟩→n≤b):PkS W n S A [⟨k,B,bc⟩]:=by
 have hA:∀ b off,A=some ⟨b,off,none⟩→base≤b:=fun b off e=>(ho.block b (by rw [e];rfl)).1
 refine ⟨Pks.one ho hp.1 hk,fun _ b off e hS => ?_,fun a ha h0 b off e => ?_,fun _ b off e => ?_,fun a ha h0 b off e => ?_⟩
 · have h1:=hA b off e
   have h2:=hb b hS
   omega
 · obtain rfl:=List.mem_singleton.1 ha
   exact hp.2 (by rw [← hk];exact h0) b off e
 · have h1:=hA b off e
   omega
 · obtain rfl:=List.mem_singleton.1 ha
   exact hbn (by rw [← hk];exact h0) b off e
structure SS (w W:World) (gl:Nat) (p:Sb.Pt) (A:Option Addr) (n c:Nat) (l:List TW) (KA:Option Addr) (kn kc:Nat):Prop where
 m:PM W [gl,w.heap.size+1,w.heap.size] w.heap.size p A n c l
 b1:Blk W (w.heap.size+1) 48 (PA Sb.Pt.zero none 0 0)
 bl:Blk W gl 69 #[.slice KA kn kc]
 u:Bel w W
 lt:w.heap.size+1<gl
section
variable {w W W':World} {gl:Nat} {p p':Sb.Pt} {A:Option Addr} {n c:Nat} {l:List TW} {KA KA':Option Addr} {kn kc kn' kc':Nat}
theorem SS.later (h:SS w W gl p A n c l KA kn kc) (hb:Below W.heap.size W W'):SS w W' gl p A n c l KA kn kc:=⟨h.m.later hb,h.b1.later hb,h.bl.later hb,h.u.later hb,h.lt⟩
theorem SS.push (h:SS w W gl p A n c l KA kn kc) (o:Obj):SS w (W.alloc o) gl p A n c l KA kn kc:=h.later ((Below.refl _ _).alloc (Nat.le_refl _) _)
theorem SS.drew (h:SS w W gl p A n c l KA kn kc):SS w W.drew gl p A n c l KA kn kc:=⟨h.m.drew,Blk.dr h.b1,Blk.dr h.bl,Bel.drew h.u,h.lt⟩
theorem SS.over (h:SS w W gl p A n c l KA kn kc) (ho:OnlyB w.heap.size W W') (hb:PB W' w.heap.size p' A n c) (hj:p'.jt.q=p.jt.q):SS w W' gl p' A n c l KA kn kc:=by
 have:=h.lt
 exact ⟨h.m.over (by simp) ho p' hb hj,ho.blk h.b1 (by omega),ho.blk h.bl (by omega),ho.bel h.u (Nat.le_refl _),h.lt⟩
theorem SS.set (h:SS w W gl p A n c l KA kn kc) (i:Nat) (v:Value) (hp:(PL p A n c).set i v=PL p' A n c) (hj:p'.jt.q=p.jt.q):SS w (W.setCell ⟨w.heap.size,i,none⟩ v) gl p' A n c l KA kn kc:=h.over (OnlyB.setCell _ _ _ _) (h.m.box.set i v p' hp) hj
theorem SS.emit (h:SS w W gl p A n c l KA kn kc) (hm:PM W' [gl,w.heap.size+1,w.heap.size] w.heap.size p' A n c l) (hl:Blk W' gl 69 #[.slice KA' kn' kc']) (hc:Chg [w.heap.size,gl] W W'):SS w W' gl p' A n c l KA' kn' kc':=by
 have:=h.lt
 have:=h.m.box.lt
 have:=h.u.size
 have:=h.bl.lt
 exact ⟨hm,hc.blk h.b1 (by simp;omega),hl,hc.bel h.u (by simp;omega),h.lt⟩
theorem SS.cell (h:SS w W gl p A n c l KA kn kc) (i:Nat) (v:Value) (hv:(PL p A n c)[i]? = some v):W.cell? ⟨w.heap.size,i,none⟩=some v:=h.m.box.cell i v hv
end
theorem r139 (s:Nat→Value):((List.range 139).map s).toArray = #[s 0,s 1,s 2,s 3,s 4,s 5,s 6,s 7,s 8,s 9,s 10,s 11,s 12,s 13,s 14,s 15,s 16,s 17,s 18,s 19,s 20,s 21,s 22,s 23,s 24,s 25,s 26,s 27,s 28,s 29,s 30,s 31,s 32,s 33,s 34,s 35,s 36,s 37,s 38,s 39,s 40,s 41,s 42,s 43,s 44,s 45,s 46,s 47,s 48,s 49,s 50,s 51,s 52,s 53,s 54,s 55,s 56,s 57,s 58,s 59,s 60,s 61,s 62,s 63,s 64,s 65,s 66,s 67,s 68,s 69,s 70,s 71,s 72,s 73,s 74,s 75,s 76,s 77,s 78,s 79,s 80,s 81,s 82,s 83,s 84,s 85,s 86,s 87,s 88,s 89,s 90,s 91,s 92,s 93,s 94,s 95,s 96,s 97,s 98,s 99,s 100,s 101,s 102,s 103,s 104,s 105,s 106,s 107,s 108,s 109,s 110,s 111,s 112,s 113,s 114,s 115,s 116,s 117,s 118,s 119,s 120,s 121,s 122,s 123,s 124,s 125,s 126,s 127,s 128,s 129,s 130,s 131,s 132,s 133,s 134,s 135,s 136,s 137,s 138]:=rfl
def FrS (g gl gq:Nat) (ZA:Option Addr) (zc:Nat) (qb:Bool) (a:Act):Prop:=Fr 139 [(1, .slice ZA 160 zc),(2, .pointer (some ⟨g,0,none⟩)),(4, .pointer (some ⟨g+1,0,none⟩)),(7, .pointer (some ⟨gl,0,none⟩)),(8, .func (.func 71) #[] #[.pointer (some ⟨gl,0,none⟩), .pointer (some ⟨g,0,none⟩)]),(9, .pointer (some ⟨gq,0,none⟩)),(10, .bool qb)] a
theorem FrS.mk {g gl gq:Nat} {ZA:Option Addr} {zc:Nat} {qb:Bool} {xs:List Value} (h:xs.length=139:=by rfl) (hL:AllL [(1, .slice ZA 160 zc),(2, .pointer (some ⟨g,0,none⟩)),(4, .pointer (some ⟨g+1,0,none⟩)),(7, .pointer (some ⟨gl,0,none⟩)),(8, .func (.func 71) #[] #[.pointer (some ⟨gl,0,none⟩), .pointer (some ⟨g,0,none⟩)]),(9, .pointer (some ⟨gq,0,none⟩)),(10, .bool qb)] xs:=by exact ⟨rfl,rfl,rfl,rfl,rfl,rfl,rfl,trivial⟩):FrS g gl gq ZA zc qb ⟨xs.toArray,[]⟩:=Fr.mk h hL
def FrT (g gl:Nat) (a:Act):Prop:=Fr 139 [(2, .pointer (some ⟨g,0,none⟩)),(4, .pointer (some ⟨g+1,0,none⟩)),(7, .pointer (some ⟨gl,0,none⟩))] a
theorem FrT.mk {g gl:Nat} {xs:List Value} (h:xs.length=139:=by rfl) (hL:AllL [(2, .pointer (some ⟨g,0,none⟩)),(4, .pointer (some ⟨g+1,0,none⟩)),(7, .pointer (some ⟨gl,0,none⟩))] xs:=by exact ⟨rfl,rfl,rfl,trivial⟩):FrT g gl ⟨xs.toArray,[]⟩:=Fr.mk h hL
noncomputable def sdB_code:Code:=((Tryz.f23.body.bind (fromBlk 0)).getD .skip)
noncomputable def sdT_code:Code:=((Tryz.f23.body.bind (fromReg 31)).getD .skip)
end Go.Proofs.YtahbecinkciahaaGreat
namespace Go.Proofs.YtahbecinkciahaaGreat
open Go.RowKit
structure PC (w:World) (p:Sb.Pt) (A:Option Addr) (l:List TW) (n c:Nat):Prop where
 wf:p.wf
 q:l.map TW.w=p.jt.q
 len:l.length=n
 n5:n≤100000
 cap:n≤c
 cm:c≤maxLen
 av:Wts w w.heap.size A l
 sq:∀ a∈l,I64 a.w.m.sq
 pay:∀ a∈l,a.w.m.pl.length≤1000000
theorem PC.later {w w':World} {p:Sb.Pt} {A:Option Addr} {l:List TW} {n c:Nat} (h:PC w p A l n c) (hb:Below w.heap.size w w'):PC w' p A l n c:=⟨h.wf,h.q,h.len,h.n5,h.cap,h.cm,h.av.later hb,h.sq,h.pay⟩
def PortR (q:Sb.Pt) (er:Int) (w:World) (e:Ending) (w':World):Prop :=
 ∃ (A':Option Addr) (n' c':Nat) (l':List TW),e = .returned (.tuple #[.agg (PA q A' n' c'), .int .u8 er])∧l'.map TW.w=q.jt.q∧l'.length=n'∧n'≤c'∧c'≤maxLen∧WtsIn w' w.heap.size w'.heap.size A' l'∧Below w.heap.size w w'
def PW (W:World) (q:Sb.Pt) (A:Option Addr) (n:Nat):Prop:=∃ l:List TW,l.map TW.w=q.jt.q∧l.length=n∧Wts W W.heap.size A l
theorem PW.later {W W':World} {q:Sb.Pt} {A:Option Addr} {n:Nat} (h:PW W q A n) (hb:Below W.heap.size W W'):PW W' q A n:=by
 obtain ⟨l,h1,h2,h3⟩:=h
 exact ⟨l,h1,h2,h3.later hb⟩
theorem PW.zero {W:World} : PW W Sb.Pt.zero none 0:=⟨[],rfl,rfl,fun h=>absurd h (by simp),fun _ h=>by cases h⟩
theorem PC.pw {w W:World} {p q:Sb.Pt} {A:Option Addr} {l:List TW} {n c:Nat} (h:PC w p A l n c) (u:Bel w W) (hj:q.jt=p.jt):PW W q A n:=⟨l,h.q.trans (by rw [hj]),h.len,h.av.later u⟩
def RPort (q:Sb.Pt) (er:Int) (w:World) (e:Ending) (w':World):Prop:=∃ (A:Option Addr) (n c:Nat),e = .returned (.tuple #[.agg (PA q A n c), .int .u8 er])∧PW w' q A n∧Below w.heap.size w w'
theorem RPort.of {q:Sb.Pt} {er:Int} {w:World} {e:Ending} {w':World} (h:PortR q er w e w'):RPort q er w e w':=by
 obtain ⟨A,n,c,l,h1,h2,h3,_,_,h6,h7⟩:=h
 exact ⟨A,n,c,h1,⟨l,h2,h3,h6.rows⟩,h7⟩
structure RB (w W:World) (p:Sb.Pt) (A:Option Addr) (n c:Nat):Prop where
 b0:PB W w.heap.size p A n c
 b1:PB W (w.heap.size+1) Sb.Pt.zero none 0 0
 u:Bel w W
section
variable {w W W':World} {p p':Sb.Pt} {A A':Option Addr} {n n' c c':Nat}
theorem RB.new (w:World) (X:Array Value) (hX:X=PA p A n c):RB w ((w.alloc (.cells X 48)).alloc (.cells (PA Sb.Pt.zero none 0 0) 48)) p A n c:=⟨(PB.new w X hX).push _,Blk.new1 _ _ _ _,((Bel.refl w).push _).push _⟩
theorem RB.later (h:RB w W p A n c) (hb:Below W.heap.size W W'):RB w W' p A n c:=⟨h.b0.later hb,h.b1.later hb,h.u.later hb⟩
theorem RB.push (h:RB w W p A n c) (o:Obj):RB w (W.alloc o) p A n c:=h.later ((Below.refl _ _).alloc (Nat.le_refl _) _)
theorem RB.over (h:RB w W p A n c) (ho:OnlyB w.heap.size W W') (hb:PB W' w.heap.size p' A' n' c'):RB w W' p' A' n' c':=⟨hb,ho.blk h.b1 (by omega),ho.bel h.u (Nat.le_refl _)⟩
theorem RB.set (h:RB w W p A n c) (i:Nat) (v:Value) (hp:(PL p A n c).set i v=PL p' A n c):RB w (W.setCell ⟨w.heap.size,i,none⟩ v) p' A n c:=h.over (OnlyB.setCell _ _ _ _) (h.b0.set i v p' hp)
theorem RB.far (h:RB w W p A n c) {g:Nat} (ho:OnlyB g W W') (hg:w.heap.size+1<g):RB w W' p A n c:=⟨ho.blk h.b0 (by omega),ho.blk h.b1 (by omega),ho.bel h.u (by omega)⟩
theorem RB.lt (h:RB w W p A n c):w.heap.size+1<W.heap.size:=Blk.lt h.b1
theorem RB.cell (h:RB w W p A n c) (i:Nat) (v:Value) (hv:(PL p A n c)[i]? = some v):W.cell? ⟨w.heap.size,i,none⟩=some v:=h.b0.cell i v hv
end
end Go.Proofs.YtahbecinkciahaaGreat
namespace Go.Proofs.YtahbecinkciahaaGreat
attribute [local go_sem ↓] Go.wp_at_zero Go.wp_at_succ
attribute [local go_sem] zad zag
open Go.RowKit
theorem Ev.and_bits:∀ n:Fin 256,bits BinOp.and IntKind.u8 (n.val:Int) 64=(if n.val / 64 % 2=1 then 64 else 0)∧bits BinOp.and IntKind.u8 (n.val:Int) 63=((n.val % 64:Nat):Int):=by decide +kernel
theorem Ev.and_bits' (n:Nat) (h:n<256):bits BinOp.and IntKind.u8 (n:Int) 64=(if n / 64 % 2=1 then 64 else 0)∧bits BinOp.and IntKind.u8 (n:Int) 63=((n % 64:Nat):Int):=Ev.and_bits ⟨n,h⟩
theorem Ev.and64 (b:Int) (h0:0≤b) (h1:b≤255):bits BinOp.and IntKind.u8 b 64=if b / 64 % 2=1 then 64 else 0:=by
 obtain ⟨n,rfl⟩:=Int.eq_ofNat_of_zero_le h0
 rw [(Ev.and_bits' n (by omega)).1]
 by_cases h:n / 64 % 2=1
 · rw [if_pos h,if_pos (by omega)]
 · rw [if_neg h,if_neg (by omega)]
theorem Ev.and63 (b:Int) (h0:0≤b) (h1:b≤255):bits BinOp.and IntKind.u8 b 63=b % 64:=by
 obtain ⟨n,rfl⟩:=Int.eq_ofNat_of_zero_le h0
 rw [(Ev.and_bits' n (by omega)).2];omega
theorem Ev.or_bytes (x0 x1:Int) (a0:0≤x0) (b0:x0≤255) (a1:0≤x1) (b1:x1≤255):bits BinOp.or IntKind.u16 (x0*256) x1=256*x0+x1:=by
 obtain ⟨n0,rfl⟩:=Int.eq_ofNat_of_zero_le a0
 obtain ⟨n1,rfl⟩:=Int.eq_ofNat_of_zero_le a1
 have e:((n0:Int)*256)=((n0*256:Nat):Int):=by omega
 have h:n0*256 ||| n1=n0*256+n1:=by
  rw [show (256:Nat)=2 ^ 8 from rfl,← Nat.shiftLeft_eq,Nat.shiftLeft_add_eq_or_of_lt (by omega)]
 rw [e,u16_or_nat (n0*256) n1 (by omega) (by omega),h]
 omega
theorem Ev.u16_in (x:Int) (h0:0≤x) (h1:x≤65535):IntKind.u16.wrap x=x:=by
 simp [IntKind.wrap,IntKind.bits,IntKind.signed]
 omega
theorem Ev.i64_in (x:Int) (h0 : -4611686018427387904≤x) (h1:x≤4611686018427387904):IntKind.i64.wrap x=x:=by
 simp [IntKind.wrap,IntKind.bits,IntKind.signed]
 omega
def Ev.Tone.row (t:Ev.Tone):Array Value := #[.int .u8 t.code, .bool t.fin, .int .u8 t.vol, .int .u16 t.dur]
section
variable (c:Int) (f:Bool) (v d:Int) (w:World)
end
section
variable (A:Option Addr) (bs:List Int) (cap:Nat) (w:World)
theorem zeu (n:Nat) (hn:(n:Int)<4) :
 Calls Tryz.prog 40 #[.slice A n cap] w fun e w'=>e = .returned (.tuple #[.agg #[.int .u8 0, .bool false, .int .u8 0, .int .u16 0], .int .u8 6])∧Below w.heap.size w w':=by
 go_enter Tryz.func40,Tryz.ntmps40
 go_wp2
 refine bodyPost_ret (v := .tuple #[.agg #[.int .u8 0, .bool false, .int .u8 0, .int .u16 0], .int .u8 6]) (by simp [results,Tryz.results40,go_sem]) rfl ⟨rfl,?_⟩
 repeat (first|exact Below.refl _ _|refine Below.setCell ?_ (by simp) _|refine Below.alloc ?_ (by simp;try omega) _)
theorem zgd (n:Nat) (hn:(4:Int)<(n:Int)) (hd:decide ((n:Int)<4)=false) (hm:(n:Int)≤9223372036854775807) :
 Calls Tryz.prog 40 #[.slice A n cap] w fun e w'=>e = .returned (.tuple #[.agg #[.int .u8 0, .bool false, .int .u8 0, .int .u16 0], .int .u8 5])∧Below w.heap.size w w':=by
 go_enter Tryz.func40,Tryz.ntmps40
 go_wp2
 refine bodyPost_ret (v := .tuple #[.agg #[.int .u8 0, .bool false, .int .u8 0, .int .u16 0], .int .u8 5]) (by simp [results,Tryz.results40,go_sem]) rfl ⟨rfl,?_⟩
 repeat (first|exact Below.refl _ _|refine Below.setCell ?_ (by simp) _|refine Below.alloc ?_ (by simp;try omega) _)
theorem zgm (b off:Nat) (x1:Int) (h0:0≤x1) (h1:x1≤255) (hx:x1 / 64 % 2=1) (hc1:w.cell? ⟨b,off+1,none⟩=some (.int .u8 x1)) :
 Calls Tryz.prog 40 #[.slice (some ⟨b,off,none⟩) 4 cap] w fun e w'=>e = .returned (.tuple #[.agg #[.int .u8 0, .bool false, .int .u8 0, .int .u16 0], .int .u8 5])∧Below w.heap.size w w':=by
 have hb:=zcp hc1
 have hn1:b≠w.heap.size:=by simp at hb;omega
 have ha:=Ev.and64 x1 h0 h1
 rw [if_pos hx] at ha
 have HX:=H9 hx
 clear hx
 go_enter Tryz.func40,Tryz.ntmps40
 go_wp2
 refine bodyPost_ret (v := .tuple #[.agg #[.int .u8 0, .bool false, .int .u8 0, .int .u16 0], .int .u8 5]) (by simp [results,Tryz.results40,go_sem]) rfl ⟨rfl,?_⟩
 repeat (first|exact Below.refl _ _|refine Below.setCell ?_ (by simp) _|refine Below.alloc ?_ (by simp;try omega) _)
theorem zib (b off:Nat) (x0 x1 x2 x3:Int) (g0:0≤x0) (g1:x0≤255) (h0:0≤x1) (h1:x1≤255) (i0:0≤x2) (i1:x2≤255) (j0:0≤x3) (j1:x3≤255) (hx:x1 / 64 % 2=0)
 (hc0:w.cell? ⟨b,off,none⟩=some (.int .u8 x0)) (hc1:w.cell? ⟨b,off+1,none⟩=some (.int .u8 x1)) (hc2:w.cell? ⟨b,off+2,none⟩=some (.int .u8 x2)) (hc3:w.cell? ⟨b,off+3,none⟩=some (.int .u8 x3)) :
 Calls Tryz.prog 40 #[.slice (some ⟨b,off,none⟩) 4 cap] w fun e w'=>e = .returned (.tuple #[.agg #[.int .u8 x0, .bool (decide (128≤x1)), .int .u8 (x1 % 64), .int .u16 (256*x2+x3)], .int .u8 0])∧Below w.heap.size w w':=by
 have hb:=zcp hc1
 have hn1:b≠w.heap.size:=by simp at hb;omega
 have hn2:w.heap.size≠b:=by omega
 have ha:=Ev.and64 x1 h0 h1
 rw [if_neg (by omega)] at ha
 have ha2:=Ev.and63 x1 h0 h1
 have ha3:=Ev.or_bytes x2 x3 i0 i1 j0 j1
 have HX:=H9 hx
 have w2:=Ev.u16_in x2 (by omega) (by omega)
 have w3:=Ev.u16_in x3 (by omega) (by omega)
 have w4:=Ev.u16_in (x2*256) (by omega) (by omega)
 clear hx
 go_enter Tryz.func40,Tryz.ntmps40
 go_wp2
 go_region_held3 (fun w'=>w'.cell? ⟨b,off,none⟩=some (.int .u8 x0)∧w'.cell? ⟨b,off+1,none⟩=some (.int .u8 x1)∧w'.cell? ⟨b,off+2,none⟩=some (.int .u8 x2)∧w'.cell? ⟨b,off+3,none⟩=some (.int .u8 x3)) (go_keep) (fail)
 all_goals go_wp2
 all_goals
  refine bodyPost_ret (v := .tuple #[.agg #[.int .u8 x0, .bool (decide (128≤x1)), .int .u8 (x1 % 64), .int .u16 (256*x2+x3)], .int .u8 0]) (by simp [results,Tryz.results40,go_sem, *];try omega) rfl ⟨rfl,?_⟩
  repeat (first|exact Below.refl _ _|refine Below.drew ?_|refine Below.setCell ?_ (by simp) _|refine Below.alloc ?_ (by simp;try omega) _)
theorem zej (n:Nat) (hn:(n:Int)<4) :
 Calls Tryz.prog 48 #[.slice A n cap] w fun e w'=>e = .returned (.tuple #[.agg #[.int .u8 0, .bool false, .int .u8 0, .int .u16 0], .int .u8 6])∧Below w.heap.size w w':=by
 go_enter Tryz.func48,Tryz.ntmps48
 go_wp2
 refine bodyPost_ret (v := .tuple #[.agg #[.int .u8 0, .bool false, .int .u8 0, .int .u16 0], .int .u8 6]) (by simp [results,Tryz.results48,go_sem]) rfl ⟨rfl,?_⟩
 repeat (first|exact Below.refl _ _|refine Below.setCell ?_ (by simp) _|refine Below.alloc ?_ (by simp;try omega) _)
theorem zev (n:Nat) (hn:(4:Int)<(n:Int)) (hd:decide ((n:Int)<4)=false) (hm:(n:Int)≤9223372036854775807) :
 Calls Tryz.prog 48 #[.slice A n cap] w fun e w'=>e = .returned (.tuple #[.agg #[.int .u8 0, .bool false, .int .u8 0, .int .u16 0], .int .u8 5])∧Below w.heap.size w w':=by
 go_enter Tryz.func48,Tryz.ntmps48
 go_wp2
 refine bodyPost_ret (v := .tuple #[.agg #[.int .u8 0, .bool false, .int .u8 0, .int .u16 0], .int .u8 5]) (by simp [results,Tryz.results48,go_sem]) rfl ⟨rfl,?_⟩
 repeat (first|exact Below.refl _ _|refine Below.setCell ?_ (by simp) _|refine Below.alloc ?_ (by simp;try omega) _)
theorem zge (b off:Nat) (x1:Int) (h0:0≤x1) (h1:x1≤255) (hx:x1 / 64 % 2=1) (hc1:w.cell? ⟨b,off+1,none⟩=some (.int .u8 x1)) :
 Calls Tryz.prog 48 #[.slice (some ⟨b,off,none⟩) 4 cap] w fun e w'=>e = .returned (.tuple #[.agg #[.int .u8 0, .bool false, .int .u8 0, .int .u16 0], .int .u8 5])∧Below w.heap.size w w':=by
 have hb:=zcp hc1
 have hn1:b≠w.heap.size:=by simp at hb;omega
 skip
 go_enter Tryz.func48,Tryz.ntmps48
 go_wp2
 refine bodyPost_ret (v := .tuple #[.agg #[.int .u8 0, .bool false, .int .u8 0, .int .u16 0], .int .u8 5]) (by simp [results,Tryz.results48,go_sem]) rfl ⟨rfl,?_⟩
 repeat (first|exact Below.refl _ _|refine Below.setCell ?_ (by simp) _|refine Below.alloc ?_ (by simp;try omega) _)
theorem zgn (b off:Nat) (x0 x1 x2 x3:Int) (g0:0≤x0) (g1:x0≤255) (h0:0≤x1) (h1:x1≤255) (i0:0≤x2) (i1:x2≤255) (j0:0≤x3) (j1:x3≤255) (hx:x1 / 64 % 2=0)
 (hc0:w.cell? ⟨b,off,none⟩=some (.int .u8 x0)) (hc1:w.cell? ⟨b,off+1,none⟩=some (.int .u8 x1)) (hc2:w.cell? ⟨b,off+2,none⟩=some (.int .u8 x2)) (hc3:w.cell? ⟨b,off+3,none⟩=some (.int .u8 x3)) :
 Calls Tryz.prog 48 #[.slice (some ⟨b,off,none⟩) 4 cap] w fun e w'=>e = .returned (.tuple #[.agg #[.int .u8 x0, .bool (decide (128≤x1)), .int .u8 (x1 % 64), .int .u16 (256*x2+x3)], .int .u8 0])∧Below w.heap.size w w':=by
 have hb:=zcp hc1
 have hn1:b≠w.heap.size:=by simp at hb;omega
 have hn2:w.heap.size≠b:=by omega
 have t1:x1.tmod 64=x1 % 64:=Int.tmod_eq_emod_of_nonneg h0
 have e2:=Ev.i64_in x2 (by omega) (by omega)
 have e3:=Ev.i64_in x3 (by omega) (by omega)
 have e4:=Ev.i64_in (256*x2) (by omega) (by omega)
 have e5:=Ev.i64_in (256*x2+x3) (by omega) (by omega)
 have e6:=Ev.u16_in (256*x2+x3) (by omega) (by omega)
 go_enter Tryz.func48,Tryz.ntmps48
 go_wp2
 go_region_held3 (fun w'=>w'.cell? ⟨b,off,none⟩=some (.int .u8 x0)∧w'.cell? ⟨b,off+1,none⟩=some (.int .u8 x1)∧w'.cell? ⟨b,off+2,none⟩=some (.int .u8 x2)∧w'.cell? ⟨b,off+3,none⟩=some (.int .u8 x3)) (go_keep) (fail)
 all_goals go_wp2
 all_goals
  refine bodyPost_ret (v := .tuple #[.agg #[.int .u8 x0, .bool (decide (128≤x1)), .int .u8 (x1 % 64), .int .u16 (256*x2+x3)], .int .u8 0]) (by simp [results,Tryz.results48,go_sem, *];try omega) rfl ⟨rfl,?_⟩
  repeat (first|exact Below.refl _ _|refine Below.drew ?_|refine Below.setCell ?_ (by simp) _|refine Below.alloc ?_ (by simp;try omega) _)
theorem zgo (hA:IntsAt w w.heap.size .u8 A bs) (hz:Within 0 255 bs) (hmax:bs.length≤maxLen) :
 Calls Tryz.prog 40 #[.slice A bs.length cap] w fun e w'=>e = .returned (.tuple #[.agg (Ev.decT bs).1.row, .int .u8 (Ev.decT bs).2])∧Below w.heap.size w w':=by
 unfold maxLen at hmax
 unfold Ev.decT
 by_cases h4:bs.length<4
 · rw [if_pos h4];exact zeu A cap w _ (by omega)
 · rw [if_neg h4]
   by_cases h5:4<bs.length
   · rw [if_pos (.inl h5)];exact zgd A cap w _ (by omega) (by simp;omega) (by omega)
   · have hl:bs.length=4:=by omega
     obtain ⟨b,off,rfl,_,hc⟩:=hA (by omega)
     have c0:=hc 0 (by omega)
     have c1:=hc 1 (by omega)
     have c2:=hc 2 (by omega)
     have c3:=hc 3 (by omega)
     have b0:=hz.at (i:=0) (by omega)
     have b1:=hz.at (i:=1) (by omega)
     have b2:=hz.at (i:=2) (by omega)
     have b3:=hz.at (i:=3) (by omega)
     rw [hl]
     generalize bs.getD 0 0=x0 at *
     generalize bs.getD 1 0=x1 at *
     generalize bs.getD 2 0=x2 at *
     generalize bs.getD 3 0=x3 at *
     by_cases hx:x1 / 64 % 2=1
     · rw [if_pos (.inr hx)];exact zgm cap w b off x1 b1.1 b1.2 hx c1
     · rw [if_neg (by omega)];exact zib cap w b off x0 x1 x2 x3 b0.1 b0.2 b1.1 b1.2 b2.1 b2.2 b3.1 b3.2 (by omega) c0 c1 c2 c3
theorem zgf (hA:IntsAt w w.heap.size .u8 A bs) (hz:Within 0 255 bs) (hmax:bs.length≤maxLen) :
 Calls Tryz.prog 48 #[.slice A bs.length cap] w fun e w'=>e = .returned (.tuple #[.agg (Ev.decT bs).1.row, .int .u8 (Ev.decT bs).2])∧Below w.heap.size w w':=by
 unfold maxLen at hmax
 unfold Ev.decT
 by_cases h4:bs.length<4
 · rw [if_pos h4];exact zej A cap w _ (by omega)
 · rw [if_neg h4]
   by_cases h5:4<bs.length
   · rw [if_pos (.inl h5)];exact zev A cap w _ (by omega) (by simp;omega) (by omega)
   · have hl:bs.length=4:=by omega
     obtain ⟨b,off,rfl,_,hc⟩:=hA (by omega)
     have c0:=hc 0 (by omega)
     have c1:=hc 1 (by omega)
     have c2:=hc 2 (by omega)
     have c3:=hc 3 (by omega)
     have b0:=hz.at (i:=0) (by omega)
     have b1:=hz.at (i:=1) (by omega)
     have b2:=hz.at (i:=2) (by omega)
     have b3:=hz.at (i:=3) (by omega)
     rw [hl]
     generalize bs.getD 0 0=x0 at *
     generalize bs.getD 1 0=x1 at *
     generalize bs.getD 2 0=x2 at *
     generalize bs.getD 3 0=x3 at *
     by_cases hx:x1 / 64 % 2=1
     · rw [if_pos (.inr hx)];exact zge cap w b off x1 b1.1 b1.2 hx c1
     · rw [if_neg (by omega)];exact zgn cap w b off x0 x1 x2 x3 b0.1 b0.2 b1.1 b1.2 b2.1 b2.2 b3.1 b3.2 (by omega) c0 c1 c2 c3
end
end Go.Proofs.YtahbecinkciahaaGreat
namespace Go.Proofs.YtahbecinkciahaaGreat
attribute [local go_sem ↓] zae zaf
attribute [local go_sem] zad zag
open Go.RowKit
def Ev.Key.row (k:Ev.Key):List Value:=[.int .u8 k.code, .bool k.down, .int .u32 k.time, .int .i64 k.len]
def Ev.Rcv.row (r:Ev.Rcv):Array Value := #[.bool r.on, .int .u32 r.time, .int .u8 r.code, .int .i64 r.len, .bool r.ended]
theorem Ev.info_key:(Tryz.prog.info? 89).map (fun i=>(i.zero,i.size,i.bytes))=some (some (.agg #[.int .u8 0, .bool false, .int .u32 0, .int .i64 0]),4,16):=by kernel_rfl
structure Ev.HS (w0 w:World) (r:Ev.Rcv) (t:Array Value) (A:Option Addr) (n c:Nat) (xs:List Value):Prop where
 b0:Blk w w0.heap.size 46 #[.bool r.on, .int .u32 r.time, .int .u8 r.code, .int .i64 r.len, .bool r.ended]
 b1:Blk w (w0.heap.size+1) 108 t
 b2:Blk w (w0.heap.size+1+1) 46 #[.bool false, .int .u32 0, .int .u8 0, .int .i64 0, .bool false]
 b3:Blk w (w0.heap.size+1+1+1) 78 #[.slice A n c]
 own:Owns w (w0.heap.size+4) 89 4 A n c xs
 bel:Below w0.heap.size w0 w
def Ev.UpR (w0:World) (r:Ev.Rcv) (t:Array Value) (n:Nat) (xs:List Value) (e:Ending) (w':World):Prop :=
 e = .returned (.tuple #[])∧∃ (A:Option Addr) (c:Nat),Ev.HS w0 w' r t A (n+1) c (xs ++ [.int .u8 r.code, .bool false, .int .u32 r.time, .int .i64 r.len])
theorem Ev.HS.grown {w0 w w':World} {r:Ev.Rcv} {t:Array Value} {A:Option Addr} {n c:Nat} {xs:List Value} (h:Ev.HS w0 w r t A n c xs) (hg:w.grownBy w' (ownB A)) {A':Option Addr} {n' c':Nat} {xs':List Value}
 (ho:Owns w' (w0.heap.size+4) 89 4 A' n' c' xs'):Ev.HS w0 (w'.setCell ⟨w0.heap.size+1+1+1,0,none⟩ (.slice A' n' c')) r t A' n' c' xs':=by
 have hne:∀ g,g<w0.heap.size+4→some g≠ownB A:=fun g hg' he=>by have:=(h.own.block g he.symm).1;omega
 have hn2:∀ g,ownB A'=some g→g≠w0.heap.size+1+1+1:=fun g he=>by have:=(ho.block g he).1;omega
 exact ⟨(h.b0.grown hg (hne _ (by omega))).far (by simp;omega) _,(h.b1.grown hg (hne _ (by omega))).far (by simp) _,(h.b2.grown hg (hne _ (by omega))).far (by simp) _,
  (h.b3.grown hg (hne _ (by omega))).set_ 0 _,ho.setCell hn2 _,((h.bel.grown hg h.bel.size (fun g he=>by have:=(h.own.block g he).1;omega)).setCell (by simp;omega) _)⟩
theorem Ev.HS.cell3 {w0 w w':World} {r:Ev.Rcv} {t:Array Value} {A:Option Addr} {n c:Nat} {xs:List Value} (h:Ev.HS w0 w r t A n c xs) (hg:w.grownBy w' (ownB A)) :
 w'.cell? ⟨w0.heap.size+1+1+1,0,none⟩=some (.slice A n c)∧w'.frozen? ⟨w0.heap.size+1+1+1,0,none⟩=false:=by
 have hb:=h.b3.grown hg (fun he=>by have:=(h.own.block _ he.symm).1;omega)
 exact ⟨hb.at 0 _ rfl,hb.frozen 0⟩
theorem zek (w0 w:World) (r:Ev.Rcv) (t:Array Value) (A:Option Addr) (n c:Nat) (xs:List Value) (hn:n≤10) (h:Ev.HS w0 w r t A n c xs) :
 Calls Tryz.prog 144 #[.pointer (some ⟨w0.heap.size+1+1+1,0,none⟩), .pointer (some ⟨w0.heap.size,0,none⟩)] w (Ev.UpR w0 r t n xs):=by
 have H:=H9 h
 have c0:=h.b0.at 1 _ rfl
 have c1:=h.b0.at 2 _ rfl
 have c2:=h.b0.at 3 _ rfl
 have c3:=h.b3.at 0 _ rfl
 have f3:=h.b3.frozen 0
 have hs:=h.bel.size
 have hlt:=h.b3.lt
 have hbase:w0.heap.size+4≤w.heap.size:=by have:=h.b3.lt;omega
 clear h
 go_enter Tryz.func144,Tryz.ntmps144
 go_wp2_with (at_builtin;go_loud (refine zak rfl _ _ 78 rfl (w0.heap.size+4) 89 4 16 _ Tryz.underlying78 Ev.info_key rfl (by decide) A n c xs rfl H.out.own [.int .u8 r.code, .bool false, .int .u32 r.time, .int .i64 r.len] rfl (by simp [Value.oneCell']) rfl (by unfold maxLen;omega) (by omega) hbase ?_);intro A2 c2' w2 hown2 hg2 hlt2;obtain ⟨e3,g3⟩:=H.out.cell3 hg2)
 go_end0
 exact ⟨rfl,A2,c2',H.out.grown hg2 hown2⟩
def Ev.HS.Seen (w0 w:World) (r:Ev.Rcv) (c:Int) (f:Bool) (v d:Int) (A:Option Addr) (n k:Nat):Prop :=
 w.cell? ⟨w0.heap.size,0,none⟩=some (.bool r.on)∧w.frozen? ⟨w0.heap.size,0,none⟩=false∧w.cell? ⟨w0.heap.size,1,none⟩=some (.int .u32 r.time)∧w.frozen? ⟨w0.heap.size,1,none⟩=false∧w.cell? ⟨w0.heap.size,2,none⟩=some (.int .u8 r.code)∧w.frozen? ⟨w0.heap.size,2,none⟩=false∧w.cell? ⟨w0.heap.size,3,none⟩=some (.int .i64 r.len)∧w.frozen? ⟨w0.heap.size,3,none⟩=false∧w.cell? ⟨w0.heap.size,4,none⟩=some (.bool r.ended)∧w.frozen? ⟨w0.heap.size,4,none⟩=false∧w.cell? ⟨w0.heap.size+1,0,none⟩=some (.int .u8 c)∧w.cell? ⟨w0.heap.size+1,1,none⟩=some (.bool f)∧w.cell? ⟨w0.heap.size+1,2,none⟩=some (.int .u8 v)∧w.cell? ⟨w0.heap.size+1,3,none⟩=some (.int .u16 d)∧w.cell? ⟨w0.heap.size+1+1,0,none⟩=some (.bool false)∧w.frozen? ⟨w0.heap.size+1+1,0,none⟩=false∧w.cell? ⟨w0.heap.size+1+1,1,none⟩=some (.int .u32 0)∧w.frozen? ⟨w0.heap.size+1+1,1,none⟩=false∧w.cell? ⟨w0.heap.size+1+1,2,none⟩=some (.int .u8 0)∧w.frozen? ⟨w0.heap.size+1+1,2,none⟩=false∧w.cell? ⟨w0.heap.size+1+1,3,none⟩=some (.int .i64 0)∧w.frozen? ⟨w0.heap.size+1+1,3,none⟩=false∧w.cell? ⟨w0.heap.size+1+1,4,none⟩=some (.bool false)∧w.frozen? ⟨w0.heap.size+1+1,4,none⟩=false∧w.cell? ⟨w0.heap.size+1+1+1,0,none⟩=some (.slice A n k)∧w.frozen? ⟨w0.heap.size+1+1+1,0,none⟩=false∧w0.heap.size+4≤w.heap.size
theorem Ev.HS.seen {w0 w:World} {r:Ev.Rcv} {c:Int} {f:Bool} {v d:Int} {A:Option Addr} {n k:Nat} {xs:List Value} (h:Ev.HS w0 w r #[.int .u8 c, .bool f, .int .u8 v, .int .u16 d] A n k xs):Ev.HS.Seen w0 w r c f v d A n k :=
 ⟨h.b0.at 0 _ rfl,h.b0.frozen 0,h.b0.at 1 _ rfl,h.b0.frozen 1,h.b0.at 2 _ rfl,h.b0.frozen 2,h.b0.at 3 _ rfl,h.b0.frozen 3,h.b0.at 4 _ rfl,h.b0.frozen 4,h.b1.at 0 _ rfl,h.b1.at 1 _ rfl,h.b1.at 2 _ rfl,h.b1.at 3 _ rfl,h.b2.at 0 _ rfl,h.b2.frozen 0,h.b2.at 1 _ rfl,h.b2.frozen 1,h.b2.at 2 _ rfl,h.b2.frozen 2,h.b2.at 3 _ rfl,h.b2.frozen 3,h.b2.at 4 _ rfl,h.b2.frozen 4,h.b3.at 0 _ rfl,h.b3.frozen 0,by have:=h.b3.lt;omega⟩
theorem Ev.HS.bel_grown {w0 w w2:World} {r:Ev.Rcv} {t:Array Value} {A:Option Addr} {n k:Nat} {xs:List Value} (h:Ev.HS w0 w r t A n k xs) (hg:w.grownBy w2 (ownB A)):Below w0.heap.size w0 w2 :=
 h.bel.grown hg h.bel.size (fun g he=>by have:=(h.own.block g he).1;omega)
theorem Ev.HS.seen_grown {w0 w w2:World} {r:Ev.Rcv} {c:Int} {f:Bool} {v d:Int} {A:Option Addr} {n k:Nat} {xs:List Value} (h:Ev.HS w0 w r #[.int .u8 c, .bool f, .int .u8 v, .int .u16 d] A n k xs) (hg:w.grownBy w2 (ownB A)):Ev.HS.Seen w0 w2 r c f v d A n k:=by
 have hne:∀ g,g<w0.heap.size+4→some g≠ownB A:=fun g hg' he=>by have:=(h.own.block g he.symm).1;omega
 have b0:=h.b0.grown hg (hne _ (by omega))
 have b1:=h.b1.grown hg (hne _ (by omega))
 have b2:=h.b2.grown hg (hne _ (by omega))
 have b3:=h.b3.grown hg (hne _ (by omega))
 have hs:w0.heap.size+4≤w2.heap.size:=by have:=h.b3.lt;have:=hg.size;omega
 exact ⟨b0.at 0 _ rfl,b0.frozen 0,b0.at 1 _ rfl,b0.frozen 1,b0.at 2 _ rfl,b0.frozen 2,b0.at 3 _ rfl,b0.frozen 3,b0.at 4 _ rfl,b0.frozen 4,b1.at 0 _ rfl,b1.at 1 _ rfl,b1.at 2 _ rfl,b1.at 3 _ rfl,b2.at 0 _ rfl,b2.frozen 0,b2.at 1 _ rfl,b2.frozen 1,b2.at 2 _ rfl,b2.frozen 2,b2.at 3 _ rfl,b2.frozen 3,b2.at 4 _ rfl,b2.frozen 4,b3.at 0 _ rfl,b3.frozen 0,hs⟩
theorem Ev.HS.setR {w0 w:World} {r:Ev.Rcv} {t:Array Value} {A:Option Addr} {n c:Nat} {xs:List Value} (h:Ev.HS w0 w r t A n c xs) (q:Ev.Rcv) :
 Ev.HS w0 (((((w.setCell ⟨w0.heap.size,0,none⟩ (.bool q.on)).setCell ⟨w0.heap.size,1,none⟩ (.int .u32 q.time)).setCell ⟨w0.heap.size,2,none⟩ (.int .u8 q.code)).setCell ⟨w0.heap.size,3,none⟩ (.int .i64 q.len)).setCell ⟨w0.heap.size,4,none⟩ (.bool q.ended)) q t A n c xs:=by
 have hg:∀ (i:Nat) g,ownB A=some g→g≠(⟨w0.heap.size,i,none⟩:Addr).block:=fun i g he=>by have:=(h.own.block g he).1;simp;omega
 refine ⟨(((((h.b0.set_ 0 _).set_ 1 _).set_ 2 _).set_ 3 _).set_ 4 _),?_,?_,?_,?_,?_⟩
 · exact (((((h.b1.far (by simp) _).far (by simp) _).far (by simp) _).far (by simp) _).far (by simp) _)
 · exact (((((h.b2.far (by simp;omega) _).far (by simp;omega) _).far (by simp;omega) _).far (by simp;omega) _).far (by simp;omega) _)
 · exact (((((h.b3.far (by simp;omega) _).far (by simp;omega) _).far (by simp;omega) _).far (by simp;omega) _).far (by simp;omega) _)
 · exact (((((h.own.setCell (hg 0) _).setCell (hg 1) _).setCell (hg 2) _).setCell (hg 3) _).setCell (hg 4) _)
 · exact (((((h.bel.setCell (by simp) _).setCell (by simp) _).setCell (by simp) _).setCell (by simp) _).setCell (by simp) _)
def Ev.HearR (w:World) (R:Ev.Rcv×List Ev.Key) (e:Ending) (w':World):Prop :=
 ∃ (A:Option Addr) (c:Nat),e = .returned (.tuple #[.agg R.1.row, .slice A R.2.length c])∧RowsNew w.heap.size w' 4 Ev.Key.row A R.2∧Below w.heap.size w w'
theorem Ev.HearR.mk {w w':World} {on ended:Bool} {time code len:Int} {ks:List Ev.Key} {A:Option Addr} {n c:Nat} (hn:ks.length=n) (h1:RowsNew w.heap.size w' 4 Ev.Key.row A ks) (h2:Below w.heap.size w w') :
 Ev.HearR w (⟨on,time,code,len,ended⟩,ks) (.returned (.tuple #[.agg #[.bool on, .int .u32 time, .int .u8 code, .int .i64 len, .bool ended], .slice A n c])) w':=by
 subst hn
 exact ⟨A,c,rfl,h1,h2⟩
theorem Ev.HS.start (w:World) (r:Ev.Rcv) (t:Array Value):Ev.HS w ((((w.alloc (.cells #[.bool r.on, .int .u32 r.time, .int .u8 r.code, .int .i64 r.len, .bool r.ended] 46)).alloc (.cells t 108)).alloc (.cells #[.bool false, .int .u32 0, .int .u8 0, .int .i64 0, .bool false] 46)).alloc (.cells #[.slice none 0 0] 78)) r t none 0 0 [] :=
 ⟨(((Blk.new w _ _).push _).push _).push _,((Blk.new1 w _ _ _).push _).push _,(Blk.new2 w _ _ _ _).push _,Blk.new3 w _ _ _ _ _,Owns.nil,((((Bel.refl w).push _).push _).push _).push _⟩
theorem Ev.HS.start_size (w:World) (r:Ev.Rcv) (t:Array Value):((((w.alloc (.cells #[.bool r.on, .int .u32 r.time, .int .u8 r.code, .int .i64 r.len, .bool r.ended] 46)).alloc (.cells t 108)).alloc (.cells #[.bool false, .int .u32 0, .int .u8 0, .int .i64 0, .bool false] 46)).alloc (.cells #[.slice none 0 0] 78)).heap.size=w.heap.size+1+1+1+1:=by simp
theorem Ev.HS.out {w0 w:World} {r:Ev.Rcv} {t:Array Value} {A:Option Addr} {n c:Nat} {ks:List Ev.Key} (h:Ev.HS w0 w r t A n c (ks.flatMap Ev.Key.row)) (hn:ks.length=n) (w':World) (hk:∀ p:Addr,w0.heap.size+4≤p.block→w'.cell? p=w.cell? p) (hs:w'.heap.size=w.heap.size) (hb:Below w0.heap.size w0 w') :
 RowsAt w' w'.heap.size 4 Ev.Key.row A ks:=by
 intro h0
 obtain ⟨g,rfl,hg,hlt⟩:=Owns.form h.own (by omega)
 obtain ⟨b,off,he,hb',hc⟩:=Owns.rows h.own hn (fun a=>rfl) h0
 injection he with he
 injection he with e1 e2
 subst e1 e2
 exact ⟨g,0,rfl,by omega,fun i a ha j v hv=>(hk _ hg).trans (hc i a ha j v hv)⟩
end Go.Proofs.YtahbecinkciahaaGreat
namespace Go.Proofs.YtahbecinkciahaaGreat
open Go.RowKit
structure TY where
 s:Sb.Sd
 S:Option Addr
 c:Nat
 K:Option Addr
 kc:Nat
def TY.row (a:TY):List Value:=[.int .i64 a.s.at_, .slice a.S a.s.zs.length a.c, .slice a.K a.s.ks.length a.kc]
def TS.ty (a:TS):TY:=⟨a.s,a.S,a.c,none,0⟩
theorem TS.ty_row {a:TS} (h:a.s.ks=[]):a.ty.row=a.row:=by unfold TY.row TS.ty TS.row;simp [h]
theorem zlr:∀ (l:List TS),(∀ a∈l,a.s.ks=[])→(l.map TS.ty).flatMap TY.row=l.flatMap TS.row
 | [],_=>rfl
 | a :: l, h => by
   simp only [List.map_cons,List.flatMap_cons]
   rw [TS.ty_row (h a (by simp)),zlr l fun b hb=>h b (by simp [hb])]
theorem ty_s (l:List TS):(l.map TS.ty).map TY.s=l.map TS.s:=by rw [List.map_map];rfl
structure Sks (w:World) (lo:Nat) (A:Option Addr) (l:List TY):Prop where
 rows:RowsAt w w.heap.size 3 TY.row A l
 low:0<l.length→∀ b off,A=some ⟨b,off,none⟩→lo≤b
 pay:∀ a∈l,IntsNew lo w .i16 a.S a.s.zs
 keys:∀ a∈l,RowsNew lo w 4 Ev.Key.row a.K a.s.ks
theorem Sks.nil {w:World} {lo:Nat} : Sks w lo none []:=⟨RowsAt.nil,(fun h0=>absurd h0 (by simp)),(fun _ h=>by cases h),fun _ h=>by cases h⟩
theorem Sks.later {w w':World} {lo:Nat} {A:Option Addr} {l:List TY} (h:Sks w lo A l) (hb:Below w.heap.size w w'):Sks w' lo A l :=
 ⟨h.rows.later hb,h.low,fun a ha=>⟨(h.pay a ha).1.later hb,(h.pay a ha).2⟩,fun a ha=>(h.keys a ha).later hb⟩
theorem Sks.less {w:World} {lo lo':Nat} {A:Option Addr} {l:List TY} (h:Sks w lo A l) (hl:lo'≤lo):Sks w lo' A l :=
 ⟨h.rows,fun h0 b off e=>Nat.le_trans hl (h.low h0 b off e),fun a ha=>⟨(h.pay a ha).1,fun h0 b off e=>Nat.le_trans hl ((h.pay a ha).2 h0 b off e)⟩,fun a ha=>(h.keys a ha).less hl⟩
theorem Sks.only {w w':World} {g lo:Nat} {A:Option Addr} {l:List TY} (h:Sks w lo A l) (ho:OnlyB g w w') (hg:g<lo):Sks w' lo A l:=by
 refine ⟨fun h0 => ?_,h.low,fun a ha=>⟨fun h0 => ?_,(h.pay a ha).2⟩,fun a ha=>⟨fun h0 => ?_,(h.keys a ha).2⟩⟩
 · obtain ⟨b,off,rfl,hb,hc⟩:=h.rows h0
   have:=h.low h0 b off rfl
   exact ⟨b,off,rfl,by rw [ho.2];exact hb,fun i a ha j v hv=>(ho.cell (show b≠g by omega)).trans (hc i a ha j v hv)⟩
 · obtain ⟨b,off,e,hb,hc⟩:=(h.pay a ha).1 h0
   have:=(h.pay a ha).2 h0 b off e
   exact ⟨b,off,e,by rw [ho.2];exact hb,fun i hi=>(ho.cell (show b≠g by omega)).trans (hc i hi)⟩
 · obtain ⟨b,off,e,hb,hc⟩:=(h.keys a ha).1 h0
   have:=(h.keys a ha).2 h0 b off e
   exact ⟨b,off,e,by rw [ho.2];exact hb,fun i a ha j v hv=>(ho.cell (show b≠g by omega)).trans (hc i a ha j v hv)⟩
theorem Owns.lower {w:World} {base b0 size n c:Nat} {e:TypeId} {A:Option Addr} {xs:List Value} (h:Owns w base e size A n c xs) (hb:b0≤base):Owns w b0 e size A n c xs:=by
 refine ⟨h.1,?_⟩
 rcases h.2 with h2|⟨g',cap,cur,hv,h3,h4⟩
 · exact .inl h2
 · exact .inr ⟨g',cap,cur,hv,Nat.le_trans hb h3,h4⟩
theorem SOwn.lower {w:World} {base b0 n c:Nat} {A:Option Addr} {l:List TS} (h:SOwn w base A n c l) (hb:b0≤base):SOwn w b0 A n c l:=⟨h.len,h.own.lower hb,h.pay,h.far,fun a ha h0 b off e=>Nat.le_trans hb (h.new a ha h0 b off e)⟩
theorem SOwn.sks {w:World} {base n c:Nat} {A:Option Addr} {l:List TS} (h:SOwn w base A n c l) (hk:∀ a∈l,a.s.ks=[]):Sks w base A (l.map TS.ty):=by
 refine ⟨Owns.rows (by rw [zlr l hk];exact h.own) (by simp [h.len]) (fun a=>rfl),fun _ b off e=>(h.own.block b (by rw [e];rfl)).1,fun a ha => ?_,fun a ha => ?_⟩
 · obtain ⟨b,hb,rfl⟩:=List.mem_map.1 ha
   exact ⟨h.pay b hb,h.new b hb⟩
 · obtain ⟨b,hb,rfl⟩:=List.mem_map.1 ha
   have e:=hk b hb
   show RowsNew base w 4 Ev.Key.row none b.s.ks
   rw [e]
   exact RowsNew.nil
theorem SOwn.add {w wn:World} {base k c cn hi:Nat} {A An:Option Addr} {l:List TS} {a:TY} (h:SOwn w base A k c l) (hk:∀ a∈l,a.s.ks=[]) (hg:w.grownBy wn (ownB A))
 (qo:Owns wn base 86 3 An (k+1) cn (l.flatMap TS.row++a.row)) (hz:a.s.zs=[]) (hK:RowsNew hi w 4 Ev.Key.row a.K a.s.ks) (hhi:∀ g,ownB A=some g→g<hi) (hbs:base≤hi):Sks wn base An (l.map TS.ty ++ [a]):=by
 have s3:=hg.size
 refine ⟨Owns.rows (by rw [List.flatMap_append,zlr l hk];simpa using qo) (by simp [h.len]) (fun a=>rfl),fun _ b off e=>(qo.block b (by rw [e];rfl)).1,fun x hx => ?_,fun x hx => ?_⟩
 · rcases List.mem_append.1 hx with hx|hx
   · obtain ⟨b,hb,rfl⟩:=List.mem_map.1 hx
     refine ⟨fun h0 => ?_,h.new b hb⟩
     obtain ⟨g,off,e,hlt,hc⟩:=h.pay b hb h0
     exact ⟨g,off,e,by omega,fun i hi=>hg.cell (hc i hi) (h.far b hb h0 g off e)⟩
   · obtain rfl:=List.mem_singleton.1 hx
     rw [hz]
     exact ⟨fun h0=>absurd h0 (by simp),fun h0=>absurd h0 (by simp)⟩
 · rcases List.mem_append.1 hx with hx|hx
   · obtain ⟨b,hb,rfl⟩:=List.mem_map.1 hx
     have e:=hk b hb
     show RowsNew base wn 4 Ev.Key.row none b.s.ks
     rw [e]
     exact RowsNew.nil
   · obtain rfl:=List.mem_singleton.1 hx
     refine ⟨fun h0 => ?_,fun h0 b off e=>Nat.le_trans hbs (hK.2 h0 b off e)⟩
     obtain ⟨g,off,e,hlt,hc⟩:=hK.1 h0
     have hn:=hK.2 h0 g off e
     exact ⟨g,off,e,by omega,fun i a ha j v hv=>hg.cell (hc i a ha j v hv) (fun e2=>by have:=hhi g e2.symm;omega)⟩
theorem zby:∀ (l:List Jb.Wt) (s:Int),∀ a∈(Sb.sounds s l).2,a.ks=[]
 | [],s,a,h=>by cases h
 | b :: l, s, a, h => by
   have h:a∈_::_:=h
   rcases List.mem_cons.1 h with rfl|h
   · rfl
   · exact zby l _ a h
theorem zgg {ls:List TS} {s:Int} {l:List Jb.Wt} (h:ls.map TS.s=(Sb.sounds s l).2):∀ a∈ls,a.s.ks=[]:=fun a ha=>zby l s a.s (by rw [← h];exact List.mem_map_of_mem ha)
theorem zel:(Tryz.prog.info? 108).map (·.size)=some 4:=by kernel_rfl
theorem zri (H:Ev.Rcv):H.row = #[.bool H.on, .int .u32 H.time, .int .u8 H.code, .int .i64 H.len, .bool H.ended]:=rfl
def PlyR (R:Sb.Pt×List Sb.Sd×Int) (w:World) (e:Ending) (w':World):Prop :=
 ∃ (A:Option Addr) (n c:Nat) (SA:Option Addr) (sm sc:Nat) (ks:List TY),e = .returned (.tuple #[.agg (PA R.1 A n c), .slice SA sm sc, .int .u8 R.2.2])∧PW w' R.1 A n∧ks.map TY.s=R.2.1∧ks.length=sm∧Sks w' 0 SA ks∧Below w.heap.size w w'
theorem PlyR.zero {w w':World} {e:Ending} {er:Int} (he:e = .returned (.tuple #[.agg (PA Sb.Pt.zero none 0 0), .slice none 0 0, .int .u8 er])) (hb:Below w.heap.size w w'):PlyR (Sb.Pt.zero,[],er) w e w':=⟨none,0,0,none,0,0,[],he,PW.zero,rfl,rfl,Sks.nil,hb⟩
theorem zxp {p:Sb.Pt} (h:p.valid=true) (now:Int):Sb.chkT p now=Jb.chk p.jt now true:=by
 unfold Sb.chkT Jb.chk
 rw [h]
 have hv:Jb.valid p.jt=true:=by unfold Sb.Pt.valid at h;simp only [Bool.and_eq_true] at h;exact h.1.1.2
 have hok:p.jt.ok:=by unfold Jb.valid at hv;simpa using hv
 by_cases h2:281474976710656<now
 · rw [if_pos (.inr h2),if_pos (.inr (.inl h2))]
 · have a1:¬(true=false∨281474976710656<now):=by
    rintro (h|h)
    · cases h
    · exact h2 h
   have a2:¬(¬p.jt.ok∨281474976710656<now∨true=false):=by
    rintro (h|h|h)
    · exact h hok
    · exact h2 h
    · cases h
   rw [if_neg a1,if_neg a2]
structure Sub (lo:Nat) (A:Option Addr) (l l0:List TW):Prop where
 row:0<l.length→∀ b off,A=some ⟨b,off,none⟩→lo≤b
 sub:∀ a∈l,a∈l0
def JRunB (s:Jb.Jt) (now:Int) (l:List TW) (w:World) (e:Ending) (w':World):Prop :=
 ∃ (A1:Option Addr) (c1:Nat) (l1:List TW) (A2:Option Addr) (c2:Nat) (l2:List TW),e = .returned (.tuple #[JV (Jb.run s now).1 A2 l2.length c2, .slice A1 l1.length c1, .int .u8 (Jb.run s now).2.2])∧l1.map TW.w=(Jb.run s now).2.1∧l2.map TW.w=(Jb.run s now).1.q∧Wts w' w'.heap.size A1 l1∧Wts w' w'.heap.size A2 l2∧l2.length≤c2∧c2≤maxLen∧Below w.heap.size w w'∧Sub w.heap.size A1 l1 l∧Sub w.heap.size A2 l2 l
def JPutB (s:Jb.Jt) (now:Int) (m:Jb.Md) (MA:Option Addr) (l:List TW) (w:World) (e:Ending) (w':World):Prop :=
 ∃ (A1:Option Addr) (c1:Nat) (l1:List TW) (A2:Option Addr) (c2:Nat) (l2:List TW),e = .returned (.tuple #[JV (Jb.put s now m).1 A2 l2.length c2, .slice A1 l1.length c1, .int .u8 (Jb.put s now m).2.2.1, .int .u8 (Jb.put s now m).2.2.2])∧l1.map TW.w=(Jb.put s now m).2.1∧l2.map TW.w=(Jb.put s now m).1.q∧Wts w' w'.heap.size A1 l1∧Wts w' w'.heap.size A2 l2∧l2.length≤c2∧c2≤maxLen∧Below w.heap.size w w'∧Sub w.heap.size A1 l1 l∧(0<l2.length→∀ b off,A2=some ⟨b,off,none⟩→w.heap.size≤b)∧(∀ a∈l2,a∈l∨a.B=MA∧a.w.m.pl=m.pl)
theorem QAv.sub_of {w w':World} {S:List Nat} {lo:Nat} {A A0:Option Addr} {l l0:List TW} (hw:Wts w' w'.heap.size A l) (h:Sub lo A l l0) (h0:QAv w S A0 l0) (hS:∀ x∈S,x<lo):QAv w' S A l :=
 ⟨hw,fun h1 b off e hb=>by have:=h.row h1 b off e;have:=hS b hb;omega,fun a ha h1 b off e hb=>h0.pay a (h.sub a ha) h1 b off e hb⟩
theorem PC.qa {w W:World} {p:Sb.Pt} {A:Option Addr} {l:List TW} {n c:Nat} (h:PC w p A l n c) (u:Bel w W) {S:List Nat} (hS:∀ x∈S,w.heap.size≤x):QAv W S A l:=QAv.of_wts (h.av.keep (fun _ hp=>u.cell hp)) u.size hS
end Go.Proofs.YtahbecinkciahaaGreat
namespace Go.Proofs.YtahbecinkciahaaGreat
attribute [local go_sem ↓] zae zaf
attribute [local go_sem] zad zag
open Go.RowKit
theorem zvy {w W:World} {p:Sb.Pt} {A:Option Addr} {l:List TW} {n c:Nat} {x:Rx} {now:Int} (C:RC w p A l n c x now) (S:RS w W p A n c x) {R:Ending→World→Prop} (h101:x.ty=101) (hz:Within 0 255 x.pl) (T:Ev.Tone) (er:Int) (hT:Ev.decT x.pl=(T,er)) (kn:Bool) (hkn:kn=(er==0))
 (h:∀ (W:World) (a:Act) (gt:Nat),RS w W p A n c x→Blk W gt 108 #[.int .u8 T.code, .bool T.fin, .int .u8 T.vol, .int .u16 T.dur]→w.heap.size<gt→FrB w.heap.size now gt kn a→firstWp Tryz.prog rcB_code (bodyPost Tryz.prog Tryz.f11 R) a W) (a:Act) (ha:FrA w.heap.size now a):firstWp Tryz.prog rcA_code (bodyPost Tryz.prog Tryz.f11 R) a W:=by
 obtain ⟨s,rfl,e1,e3,e5,e6,_⟩:=ha
 rw [r164,e1,e3,e5,e6]
 clear e1 e3 e5 e6
 have k2:=H9 fun W=>zcz 101 W (by decide) (by decide)
 have hs1:speechB 101=false:=rfl
 rw [hs1] at k2
 have k3:=H9 fun (W:World) hW=>zgo x.B x.pl x.pc W hW hz (Nat.le_trans C.h15 (by decide))
 rw [hT] at k3
 unfold Ev.Tone.row at k3
 have HI:=H9 C.pl
 have HX:=H9 h101
 have HK:=H9 hkn
 clear hT hz hs1 h101 hkn
 refine zau ?_
 intro _ _
 have BT:=H9 (Blk.new W 108 #[.int .u8 0, .bool false, .int .u8 0, .int .u16 0])
 have hgt':w.heap.size<W.heap.size:=by have:=S.b2.lt;omega
 replace S:=S.push (.cells #[.int .u8 0, .bool false, .int .u8 0, .int .u16 0] 108)
 obtain ⟨W2,hW2⟩:∃ V,V=W.alloc (Obj.cells #[.int .u8 0, .bool false, .int .u8 0, .int .u16 0] 108):=⟨_,rfl⟩
 go_upto_region 7 with fail
 rw [← hW2] at S BT ⊢
 obtain ⟨gt,hgt⟩:∃ g,g=W.heap.size:=⟨_,rfl⟩
 rw [← hgt] at BT hgt' ⊢
 clear hW2 hgt
 have x1:=S.c1
 rw [HX.out] at x1
 go_wp2_with fail
 refine (k2.out _).mono ?_
 rintro e w3 ⟨rfl,hb1⟩
 replace S:=S.later hb1
 replace BT:=H9 (BT.out.later hb1)
 clear hb1 k2 x1
 have x1:=S.c1
 have x9:=S.c9
 rw [HX.out] at x1
 go_wp2_with fail
 refine (k3.out _ (HI.out.later S.u)).mono ?_
 rintro e w4 ⟨rfl,hb1⟩
 replace S:=S.later hb1
 replace BT:=H9 (BT.out.later hb1)
 clear hb1 k3 x1 x9
 go_upto_region 10 with (first|(refine zac rfl 108 (.tmp 11) (.tmp 54) rfl (gt) 0 rfl 108 ([.int .u8 0, .bool false, .int .u8 0, .int .u16 0]) BT.out ([.int .u8 T.code, .bool T.fin, .int .u8 T.vol, .int .u16 T.dur]) rfl zel (show 0+4≤4 by decide) rfl ([.int .u8 T.code, .bool T.fin, .int .u8 T.vol, .int .u16 T.dur]) rfl ?_;intro WG BG OG)|fail)
 have hn2:gt≠w.heap.size+1:=fun e=>by have h1:=BT.out;rw [e] at h1;have h2:=h1.symm.trans S.b1;simp [Rx.row] at h2
 have hn3:gt≠w.heap.size+1+1:=fun e=>by have h1:=BT.out;rw [e] at h1;have h2:=h1.symm.trans S.b2;simp [PA] at h2
 replace S:=S.far OG (by omega) hn2 hn3 (by omega)
 replace BT:=H9 BG
 clear BG OG
 have hk2:kn=true∧er=0∨kn=false∧¬er=0:=by
  rw [HK.out]
  by_cases he:er=0
  · exact .inl ⟨by simp [he],he⟩
  · exact .inr ⟨by simp [he],he⟩
 rcases hk2 with ⟨rfl,rfl⟩|⟨rfl,he⟩
 rotate_left
 have he2:(er==0)=false:=by simpa using he
 all_goals
  go_upto_region 11 with fail
  refine zbk (by assumption) (by assumption) ?_
  exact h _ _ _ S BT.out hgt' FrB.mk
section
variable (rt rc rl time c v d:Int) (w:World)
theorem zoq (t0:0≤time) (t1:time≤4294967295) (d0:0≤d) (d1:d≤65535) (re:Bool) :
 Calls Tryz.prog 97 #[.agg #[.bool false, .int .u32 rt, .int .u8 rc, .int .i64 rl, .bool re], .int .u32 time, .agg #[.int .u8 c, .bool false, .int .u8 v, .int .u16 d]] w (Ev.HearR w (⟨true,time,c,d,false⟩,[⟨c,true,time,0⟩])):=by
 have H0:=H9 (Ev.HS.start w ⟨false,rt,rc,rl,re⟩ #[.int .u8 c, .bool false, .int .u8 v, .int .u16 d])
 have hbase:w.heap.size+4≤w.heap.size+4:=Nat.le_refl _
 go_enter Tryz.func97,Tryz.ntmps97
 go_wp2_with (at_builtin;refine zak rfl _ _ 78 rfl (w.heap.size+4) 89 4 16 _ Tryz.underlying78 Ev.info_key rfl (by decide) (none) 0 0 _ rfl H0.out.own [.int .u8 c, .bool true, .int .u32 time, .int .i64 0] rfl (by simp [Value.oneCell']) (by rw [Ev.HS.start_size];rfl) (by unfold maxLen;omega) (by omega) (by rw [Ev.HS.start_size];omega) ?_;intro Aw2 cw2 w2 hownw2 hgw2 hltw2;obtain ⟨s0,s1,s2,s3,s4,s5,s6,s7,s8,s9,s10,s11,s12,s13,s14,s15,s16,s17,s18,s19,s20,s21,s22,s23,s24,s25,s26⟩:=H0.out.seen_grown hgw2)
 have hb3:=H0.out.bel_grown hgw2
 go_region
 all_goals go_wp2
 refine bodyPost_ret (v := .tuple #[.agg #[.bool true, .int .u32 time, .int .u8 c, .int .i64 (d), .bool false], .slice Aw2 1 cw2]) ?_ rfl ?_
 · simp [results,Tryz.results97,go_sem, *]
 · have HW:=H9 hownw2
   have HV:=H9 hb3
   clear hownw2 s0 s1 s2 s3 s4 s5 s6 s7 s8 s9 s10 s11 s12 s13 s14 s15 s16 s17 s18 s19 s20 s21 s22 s23 s24 s25 s26
   refine Ev.HearR.mk rfl ?_ ?_
   · refine Owns.rowsNew (B:=w.heap.size) (base:=w.heap.size+4) (e:=89) (n:=1) (c:=cw2) ?_ rfl (fun _=>rfl)
     have HX:Owns w2 (w.heap.size+4) 89 4 (Aw2) 1 cw2 (List.flatMap Ev.Key.row [⟨c,true,time,0⟩]):=by
      have:=HW.out
      simpa [Ev.Key.row] using this
     repeat (first|with_reducible exact HX|with_reducible refine Owns.drew ?_|((with_reducible refine Owns.setCell ?_ ?_ _);rotate_left;(intro g hg;have:=(HW.out.block g hg).1;simp;omega)))
   · repeat (first|with_reducible exact HV.out|with_reducible refine Below.drew ?_|((with_reducible refine Below.setCell ?_ ?_ _);rotate_left;(simp;try omega)))
theorem zor (t0:0≤time) (t1:time≤4294967295) (d0:0≤d) (d1:d≤65535) (re:Bool) :
 Calls Tryz.prog 97 #[.agg #[.bool false, .int .u32 rt, .int .u8 rc, .int .i64 rl, .bool re], .int .u32 time, .agg #[.int .u8 c, .bool true, .int .u8 v, .int .u16 d]] w (Ev.HearR w (⟨true,time,c,d,true⟩,[⟨c,true,time,0⟩,⟨c,false,time,d⟩])):=by
 have H0:=H9 (Ev.HS.start w ⟨false,rt,rc,rl,re⟩ #[.int .u8 c, .bool true, .int .u8 v, .int .u16 d])
 have hbase:w.heap.size+4≤w.heap.size+4:=Nat.le_refl _
 go_enter Tryz.func97,Tryz.ntmps97
 go_wp2_with (first|(at_builtin;refine zak rfl _ _ 78 rfl (w.heap.size+4) 89 4 16 _ Tryz.underlying78 Ev.info_key rfl (by decide) (none) 0 0 _ rfl H0.out.own [.int .u8 c, .bool true, .int .u32 time, .int .i64 0] rfl (by simp [Value.oneCell']) (by rw [Ev.HS.start_size];rfl) (by unfold maxLen;omega) (by omega) (by rw [Ev.HS.start_size];omega) ?_;intro Aw2 cw2 w2 hownw2 hgw2 hltw2;obtain ⟨s0,s1,s2,s3,s4,s5,s6,s7,s8,s9,s10,s11,s12,s13,s14,s15,s16,s17,s18,s19,s20,s21,s22,s23,s24,s25,s26⟩:=H0.out.seen_grown hgw2))
 have H2:=H9 ((H0.out.grown hgw2 hownw2).setR ⟨true,time,c,d,false⟩)
 have hbe:=H0.out.bel_grown hgw2
 clear s0 s1 s2 s3 s4 s5 s6 s7 s8 s9 s10 s11 s12 s13 s14 s15 s16 s17 s18 s19 s20 s21 s22 s23 s24 s25 s26
 refine (zek w _ ⟨true,time,c,d,false⟩ #[.int .u8 c, .bool true, .int .u8 v, .int .u16 d] Aw2 1 cw2 _ (by omega) H2.out).mono ?_
 rintro e w3 ⟨rfl,A3,c3,h3⟩
 obtain ⟨s0,s1,s2,s3,s4,s5,s6,s7,s8,s9,s10,s11,s12,s13,s14,s15,s16,s17,s18,s19,s20,s21,s22,s23,s24,s25,s26⟩:=h3.seen
 have hown3:=h3.own
 have hb3:=h3.bel
 clear h3 H2
 go_wp2
 go_region
 all_goals go_wp2
 refine bodyPost_ret (v := .tuple #[.agg #[.bool true, .int .u32 time, .int .u8 c, .int .i64 (d), .bool true], .slice A3 2 c3]) ?_ rfl ?_
 · simp [results,Tryz.results97,go_sem, *]
 · have HW:=H9 hown3
   have HV:=H9 hb3
   clear hown3 s0 s1 s2 s3 s4 s5 s6 s7 s8 s9 s10 s11 s12 s13 s14 s15 s16 s17 s18 s19 s20 s21 s22 s23 s24 s25 s26
   refine Ev.HearR.mk rfl ?_ ?_
   · refine Owns.rowsNew (B:=w.heap.size) (base:=w.heap.size+4) (e:=89) (n:=2) (c:=c3) ?_ rfl (fun _=>rfl)
     have HX:Owns w3 (w.heap.size+4) 89 4 (A3) 2 c3 (List.flatMap Ev.Key.row [⟨c,true,time,0⟩,⟨c,false,time,d⟩]):=by
      have:=HW.out
      simpa [Ev.Key.row] using this
     repeat (first|with_reducible exact HX|with_reducible refine Owns.drew ?_|((with_reducible refine Owns.setCell ?_ ?_ _);rotate_left;(intro g hg;have:=(HW.out.block g hg).1;simp;omega)))
   · repeat (first|with_reducible exact HV.out|with_reducible refine Below.drew ?_|((with_reducible refine Below.setCell ?_ ?_ _);rotate_left;(simp;try omega)))
theorem zrj (t0:0≤time) (t1:time≤4294967295) (d0:0≤d) (d1:d≤65535) (hD1:1≤(time-rt) % 4294967296) (hD2:(time-rt) % 4294967296<2147483648) :
 Calls Tryz.prog 97 #[.agg #[.bool true, .int .u32 rt, .int .u8 rc, .int .i64 rl, .bool true], .int .u32 time, .agg #[.int .u8 c, .bool false, .int .u8 v, .int .u16 d]] w (Ev.HearR w (⟨true,time,c,d,false⟩,[⟨c,true,time,0⟩])):=by
 have H0:=H9 (Ev.HS.start w ⟨true,rt,rc,rl,true⟩ #[.int .u8 c, .bool false, .int .u8 v, .int .u16 d])
 have hbase:w.heap.size+4≤w.heap.size+4:=Nat.le_refl _
 go_enter Tryz.func97,Tryz.ntmps97
 go_wp2_with (at_builtin;refine zak rfl _ _ 78 rfl (w.heap.size+4) 89 4 16 _ Tryz.underlying78 Ev.info_key rfl (by decide) (none) 0 0 _ rfl H0.out.own [.int .u8 c, .bool true, .int .u32 time, .int .i64 0] rfl (by simp [Value.oneCell']) (by rw [Ev.HS.start_size];rfl) (by unfold maxLen;omega) (by omega) (by rw [Ev.HS.start_size];omega) ?_;intro Aw2 cw2 w2 hownw2 hgw2 hltw2;obtain ⟨s0,s1,s2,s3,s4,s5,s6,s7,s8,s9,s10,s11,s12,s13,s14,s15,s16,s17,s18,s19,s20,s21,s22,s23,s24,s25,s26⟩:=H0.out.seen_grown hgw2)
 have hb3:=H0.out.bel_grown hgw2
 go_region
 all_goals go_wp2
 refine bodyPost_ret (v := .tuple #[.agg #[.bool true, .int .u32 time, .int .u8 c, .int .i64 (d), .bool false], .slice Aw2 1 cw2]) ?_ rfl ?_
 · simp [results,Tryz.results97,go_sem, *]
 · have HW:=H9 hownw2
   have HV:=H9 hb3
   clear hownw2 s0 s1 s2 s3 s4 s5 s6 s7 s8 s9 s10 s11 s12 s13 s14 s15 s16 s17 s18 s19 s20 s21 s22 s23 s24 s25 s26
   refine Ev.HearR.mk rfl ?_ ?_
   · refine Owns.rowsNew (B:=w.heap.size) (base:=w.heap.size+4) (e:=89) (n:=1) (c:=cw2) ?_ rfl (fun _=>rfl)
     have HX:Owns w2 (w.heap.size+4) 89 4 (Aw2) 1 cw2 (List.flatMap Ev.Key.row [⟨c,true,time,0⟩]):=by
      have:=HW.out
      simpa [Ev.Key.row] using this
     repeat (first|with_reducible exact HX|with_reducible refine Owns.drew ?_|((with_reducible refine Owns.setCell ?_ ?_ _);rotate_left;(intro g hg;have:=(HW.out.block g hg).1;simp;omega)))
   · repeat (first|with_reducible exact HV.out|with_reducible refine Below.drew ?_|((with_reducible refine Below.setCell ?_ ?_ _);rotate_left;(simp;try omega)))
theorem zrk (t0:0≤time) (t1:time≤4294967295) (d0:0≤d) (d1:d≤65535) (hD1:1≤(time-rt) % 4294967296) (hD2:(time-rt) % 4294967296<2147483648) :
 Calls Tryz.prog 97 #[.agg #[.bool true, .int .u32 rt, .int .u8 rc, .int .i64 rl, .bool true], .int .u32 time, .agg #[.int .u8 c, .bool true, .int .u8 v, .int .u16 d]] w (Ev.HearR w (⟨true,time,c,d,true⟩,[⟨c,true,time,0⟩,⟨c,false,time,d⟩])):=by
 have H0:=H9 (Ev.HS.start w ⟨true,rt,rc,rl,true⟩ #[.int .u8 c, .bool true, .int .u8 v, .int .u16 d])
 have hbase:w.heap.size+4≤w.heap.size+4:=Nat.le_refl _
 go_enter Tryz.func97,Tryz.ntmps97
 go_wp2_with (first|(at_builtin;refine zak rfl _ _ 78 rfl (w.heap.size+4) 89 4 16 _ Tryz.underlying78 Ev.info_key rfl (by decide) (none) 0 0 _ rfl H0.out.own [.int .u8 c, .bool true, .int .u32 time, .int .i64 0] rfl (by simp [Value.oneCell']) (by rw [Ev.HS.start_size];rfl) (by unfold maxLen;omega) (by omega) (by rw [Ev.HS.start_size];omega) ?_;intro Aw2 cw2 w2 hownw2 hgw2 hltw2;obtain ⟨s0,s1,s2,s3,s4,s5,s6,s7,s8,s9,s10,s11,s12,s13,s14,s15,s16,s17,s18,s19,s20,s21,s22,s23,s24,s25,s26⟩:=H0.out.seen_grown hgw2))
 have H2:=H9 ((H0.out.grown hgw2 hownw2).setR ⟨true,time,c,d,false⟩)
 have hbe:=H0.out.bel_grown hgw2
 clear s0 s1 s2 s3 s4 s5 s6 s7 s8 s9 s10 s11 s12 s13 s14 s15 s16 s17 s18 s19 s20 s21 s22 s23 s24 s25 s26
 refine (zek w _ ⟨true,time,c,d,false⟩ #[.int .u8 c, .bool true, .int .u8 v, .int .u16 d] Aw2 1 cw2 _ (by omega) H2.out).mono ?_
 rintro e w3 ⟨rfl,A3,c3,h3⟩
 obtain ⟨s0,s1,s2,s3,s4,s5,s6,s7,s8,s9,s10,s11,s12,s13,s14,s15,s16,s17,s18,s19,s20,s21,s22,s23,s24,s25,s26⟩:=h3.seen
 have hown3:=h3.own
 have hb3:=h3.bel
 clear h3 H2
 go_wp2
 go_region
 all_goals go_wp2
 refine bodyPost_ret (v := .tuple #[.agg #[.bool true, .int .u32 time, .int .u8 c, .int .i64 (d), .bool true], .slice A3 2 c3]) ?_ rfl ?_
 · simp [results,Tryz.results97,go_sem, *]
 · have HW:=H9 hown3
   have HV:=H9 hb3
   clear hown3 s0 s1 s2 s3 s4 s5 s6 s7 s8 s9 s10 s11 s12 s13 s14 s15 s16 s17 s18 s19 s20 s21 s22 s23 s24 s25 s26
   refine Ev.HearR.mk rfl ?_ ?_
   · refine Owns.rowsNew (B:=w.heap.size) (base:=w.heap.size+4) (e:=89) (n:=2) (c:=c3) ?_ rfl (fun _=>rfl)
     have HX:Owns w3 (w.heap.size+4) 89 4 (A3) 2 c3 (List.flatMap Ev.Key.row [⟨c,true,time,0⟩,⟨c,false,time,d⟩]):=by
      have:=HW.out
      simpa [Ev.Key.row] using this
     repeat (first|with_reducible exact HX|with_reducible refine Owns.drew ?_|((with_reducible refine Owns.setCell ?_ ?_ _);rotate_left;(intro g hg;have:=(HW.out.block g hg).1;simp;omega)))
   · repeat (first|with_reducible exact HV.out|with_reducible refine Below.drew ?_|((with_reducible refine Below.setCell ?_ ?_ _);rotate_left;(simp;try omega)))
theorem zos (t0:0≤time) (t1:time≤4294967295) (d0:0≤d) (d1:d≤65535) (hD1:1≤(time-rt) % 4294967296) (hD2:(time-rt) % 4294967296<2147483648) :
 Calls Tryz.prog 97 #[.agg #[.bool true, .int .u32 rt, .int .u8 rc, .int .i64 rl, .bool false], .int .u32 time, .agg #[.int .u8 c, .bool false, .int .u8 v, .int .u16 d]] w (Ev.HearR w (⟨true,time,c,d,false⟩,[⟨rc,false,rt,rl⟩,⟨c,true,time,0⟩])):=by
 have H0:=H9 (Ev.HS.start w ⟨true,rt,rc,rl,false⟩ #[.int .u8 c, .bool false, .int .u8 v, .int .u16 d])
 have hbase:w.heap.size+4≤w.heap.size+4:=Nat.le_refl _
 go_enter Tryz.func97,Tryz.ntmps97
 go_wp2_with fail
 refine (zek w _ ⟨true,rt,rc,rl,false⟩ #[.int .u8 c, .bool false, .int .u8 v, .int .u16 d] none 0 0 [] (by omega) H0.out).mono ?_
 rintro e w1 ⟨rfl,A1,c1,h1⟩
 obtain ⟨s0,s1,s2,s3,s4,s5,s6,s7,s8,s9,s10,s11,s12,s13,s14,s15,s16,s17,s18,s19,s20,s21,s22,s23,s24,s25,s26⟩:=h1.seen
 have H1:=H9 h1
 have hbase:=h1.b3.lt
 clear h1
 go_wp2_with (at_builtin;refine zak rfl _ _ 78 rfl (w.heap.size+4) 89 4 16 _ Tryz.underlying78 Ev.info_key rfl (by decide) (A1) 1 c1 _ rfl H1.out.own [.int .u8 c, .bool true, .int .u32 time, .int .i64 0] rfl (by simp [Value.oneCell']) rfl (by unfold maxLen;omega) (by omega) (by omega) ?_;intro Aw2 cw2 w2 hownw2 hgw2 hltw2;obtain ⟨s0,s1,s2,s3,s4,s5,s6,s7,s8,s9,s10,s11,s12,s13,s14,s15,s16,s17,s18,s19,s20,s21,s22,s23,s24,s25,s26⟩:=H1.out.seen_grown hgw2)
 have hb3:=H1.out.bel_grown hgw2
 go_region
 all_goals go_wp2
 refine bodyPost_ret (v := .tuple #[.agg #[.bool true, .int .u32 time, .int .u8 c, .int .i64 (d), .bool false], .slice Aw2 2 cw2]) ?_ rfl ?_
 · simp [results,Tryz.results97,go_sem, *]
 · have HW:=H9 hownw2
   have HV:=H9 hb3
   clear hownw2 s0 s1 s2 s3 s4 s5 s6 s7 s8 s9 s10 s11 s12 s13 s14 s15 s16 s17 s18 s19 s20 s21 s22 s23 s24 s25 s26
   refine Ev.HearR.mk rfl ?_ ?_
   · refine Owns.rowsNew (B:=w.heap.size) (base:=w.heap.size+4) (e:=89) (n:=2) (c:=cw2) ?_ rfl (fun _=>rfl)
     have HX:Owns w2 (w.heap.size+4) 89 4 (Aw2) 2 cw2 (List.flatMap Ev.Key.row [⟨rc,false,rt,rl⟩,⟨c,true,time,0⟩]):=by
      have:=HW.out
      simpa [Ev.Key.row] using this
     repeat (first|with_reducible exact HX|with_reducible refine Owns.drew ?_|((with_reducible refine Owns.setCell ?_ ?_ _);rotate_left;(intro g hg;have:=(HW.out.block g hg).1;simp;omega)))
   · repeat (first|with_reducible exact HV.out|with_reducible refine Below.drew ?_|((with_reducible refine Below.setCell ?_ ?_ _);rotate_left;(simp;try omega)))
theorem zot (t0:0≤time) (t1:time≤4294967295) (d0:0≤d) (d1:d≤65535) (hD1:1≤(time-rt) % 4294967296) (hD2:(time-rt) % 4294967296<2147483648) :
 Calls Tryz.prog 97 #[.agg #[.bool true, .int .u32 rt, .int .u8 rc, .int .i64 rl, .bool false], .int .u32 time, .agg #[.int .u8 c, .bool true, .int .u8 v, .int .u16 d]] w (Ev.HearR w (⟨true,time,c,d,true⟩,[⟨rc,false,rt,rl⟩,⟨c,true,time,0⟩,⟨c,false,time,d⟩])):=by
 have H0:=H9 (Ev.HS.start w ⟨true,rt,rc,rl,false⟩ #[.int .u8 c, .bool true, .int .u8 v, .int .u16 d])
 have hbase:w.heap.size+4≤w.heap.size+4:=Nat.le_refl _
 go_enter Tryz.func97,Tryz.ntmps97
 go_wp2_with fail
 refine (zek w _ ⟨true,rt,rc,rl,false⟩ #[.int .u8 c, .bool true, .int .u8 v, .int .u16 d] none 0 0 [] (by omega) H0.out).mono ?_
 rintro e w1 ⟨rfl,A1,c1,h1⟩
 obtain ⟨s0,s1,s2,s3,s4,s5,s6,s7,s8,s9,s10,s11,s12,s13,s14,s15,s16,s17,s18,s19,s20,s21,s22,s23,s24,s25,s26⟩:=h1.seen
 have H1:=H9 h1
 have hbase:=h1.b3.lt
 clear h1
 go_wp2_with (first|(at_builtin;refine zak rfl _ _ 78 rfl (w.heap.size+4) 89 4 16 _ Tryz.underlying78 Ev.info_key rfl (by decide) (A1) 1 c1 _ rfl H1.out.own [.int .u8 c, .bool true, .int .u32 time, .int .i64 0] rfl (by simp [Value.oneCell']) rfl (by unfold maxLen;omega) (by omega) (by omega) ?_;intro Aw2 cw2 w2 hownw2 hgw2 hltw2;obtain ⟨s0,s1,s2,s3,s4,s5,s6,s7,s8,s9,s10,s11,s12,s13,s14,s15,s16,s17,s18,s19,s20,s21,s22,s23,s24,s25,s26⟩:=H1.out.seen_grown hgw2))
 have H2:=H9 ((H1.out.grown hgw2 hownw2).setR ⟨true,time,c,d,false⟩)
 have hbe:=H1.out.bel_grown hgw2
 clear s0 s1 s2 s3 s4 s5 s6 s7 s8 s9 s10 s11 s12 s13 s14 s15 s16 s17 s18 s19 s20 s21 s22 s23 s24 s25 s26
 refine (zek w _ ⟨true,time,c,d,false⟩ #[.int .u8 c, .bool true, .int .u8 v, .int .u16 d] Aw2 2 cw2 _ (by omega) H2.out).mono ?_
 rintro e w3 ⟨rfl,A3,c3,h3⟩
 obtain ⟨s0,s1,s2,s3,s4,s5,s6,s7,s8,s9,s10,s11,s12,s13,s14,s15,s16,s17,s18,s19,s20,s21,s22,s23,s24,s25,s26⟩:=h3.seen
 have hown3:=h3.own
 have hb3:=h3.bel
 clear h3 H2
 go_wp2
 go_region
 all_goals go_wp2
 refine bodyPost_ret (v := .tuple #[.agg #[.bool true, .int .u32 time, .int .u8 c, .int .i64 (d), .bool true], .slice A3 3 c3]) ?_ rfl ?_
 · simp [results,Tryz.results97,go_sem, *]
 · have HW:=H9 hown3
   have HV:=H9 hb3
   clear hown3 s0 s1 s2 s3 s4 s5 s6 s7 s8 s9 s10 s11 s12 s13 s14 s15 s16 s17 s18 s19 s20 s21 s22 s23 s24 s25 s26
   refine Ev.HearR.mk rfl ?_ ?_
   · refine Owns.rowsNew (B:=w.heap.size) (base:=w.heap.size+4) (e:=89) (n:=3) (c:=c3) ?_ rfl (fun _=>rfl)
     have HX:Owns w3 (w.heap.size+4) 89 4 (A3) 3 c3 (List.flatMap Ev.Key.row [⟨rc,false,rt,rl⟩,⟨c,true,time,0⟩,⟨c,false,time,d⟩]):=by
      have:=HW.out
      simpa [Ev.Key.row] using this
     repeat (first|with_reducible exact HX|with_reducible refine Owns.drew ?_|((with_reducible refine Owns.setCell ?_ ?_ _);rotate_left;(intro g hg;have:=(HW.out.block g hg).1;simp;omega)))
   · repeat (first|with_reducible exact HV.out|with_reducible refine Below.drew ?_|((with_reducible refine Below.setCell ?_ ?_ _);rotate_left;(simp;try omega)))
end
section
variable (rt rc rl time c v d:Int) (w:World)
theorem zls  (t0:0≤time) (t1:time≤4294967295) (d0:0≤d) (d1:d≤65535) (l0 : -9223372036854775808≤rl) (l1:rl≤9223372036854775807) (hD:(time-rt) % 4294967296=0) :
 Calls Tryz.prog 97 #[.agg #[.bool true, .int .u32 rt, .int .u8 c, .int .i64 rl, .bool false], .int .u32 time, .agg #[.int .u8 c, .bool false, .int .u8 v, .int .u16 d]] w (Ev.HearR w (⟨true,rt,c,max rl d,false⟩,[])):=by
 go_enter Tryz.func97,Tryz.ntmps97
 go_wp2
 go_region
 all_goals go_wp2
 refine bodyPost_ret (v := .tuple #[.agg #[.bool true, .int .u32 rt, .int .u8 c, .int .i64 (max rl d), .bool false], .slice none 0 0]) ?_ rfl ?_
 · simp [results,Tryz.results97,go_sem]
 · refine Ev.HearR.mk rfl RowsNew.nil ?_
   repeat (first|exact Below.refl _ _|refine Below.drew ?_|refine Below.setCell ?_ (by simp) _|refine Below.alloc ?_ (by simp;try omega) _)
theorem zlt  (t0:0≤time) (t1:time≤4294967295) (d0:0≤d) (d1:d≤65535) (l0 : -9223372036854775808≤rl) (l1:rl≤9223372036854775807) (hD:(time-rt) % 4294967296=0) :
 Calls Tryz.prog 97 #[.agg #[.bool true, .int .u32 rt, .int .u8 c, .int .i64 rl, .bool false], .int .u32 time, .agg #[.int .u8 c, .bool true, .int .u8 v, .int .u16 d]] w (Ev.HearR w (⟨true,rt,c,max rl d,true⟩,[⟨c,false,rt,max rl d⟩])):=by
 have H0:=H9 (Ev.HS.start w ⟨true,rt,c,max rl d,false⟩ #[.int .u8 c, .bool true, .int .u8 v, .int .u16 d])
 go_enter Tryz.func97,Tryz.ntmps97
 go_wp2_with fail
 refine (zek w _ ⟨true,rt,c,max rl d,false⟩ #[.int .u8 c, .bool true, .int .u8 v, .int .u16 d] none 0 0 [] (by omega) H0.out).mono ?_
 rintro e w3 ⟨rfl,A3,c3,h3⟩
 obtain ⟨s0,s1,s2,s3,s4,s5,s6,s7,s8,s9,s10,s11,s12,s13,s14,s15,s16,s17,s18,s19,s20,s21,s22,s23,s24,s25,s26⟩:=h3.seen
 have hown3:=h3.own
 have hb3:=h3.bel
 clear h3
 go_wp2
 go_region
 all_goals go_wp2
 refine bodyPost_ret (v := .tuple #[.agg #[.bool true, .int .u32 rt, .int .u8 c, .int .i64 (max rl d), .bool true], .slice A3 1 c3]) ?_ rfl ?_
 · simp [results,Tryz.results97,go_sem, *]
 · have HW:=H9 hown3
   have HV:=H9 hb3
   clear hown3 s0 s1 s2 s3 s4 s5 s6 s7 s8 s9 s10 s11 s12 s13 s14 s15 s16 s17 s18 s19 s20 s21 s22 s23 s24 s25 s26
   refine Ev.HearR.mk rfl ?_ ?_
   · refine Owns.rowsNew (B:=w.heap.size) (base:=w.heap.size+4) (e:=89) (n:=1) (c:=c3) ?_ rfl (fun _=>rfl)
     have HX:Owns w3 (w.heap.size+4) 89 4 (A3) 1 c3 (List.flatMap Ev.Key.row [⟨c,false,rt,max rl d⟩]):=by
      have:=HW.out
      simpa [Ev.Key.row] using this
     repeat (first|with_reducible exact HX|with_reducible refine Owns.drew ?_|((with_reducible refine Owns.setCell ?_ ?_ _);rotate_left;(intro g hg;have:=(HW.out.block g hg).1;simp;omega)))
   · repeat (first|with_reducible exact HV.out|with_reducible refine Below.drew ?_|((with_reducible refine Below.setCell ?_ ?_ _);rotate_left;(simp;try omega)))
theorem zrl (re f:Bool)  (t0:0≤time) (t1:time≤4294967295) (d0:0≤d) (d1:d≤65535) (l0 : -9223372036854775808≤rl) (l1:rl≤9223372036854775807) (hD:2147483648≤(time-rt) % 4294967296) (hD0:((time-rt) % 4294967296==0)=false) (hD1:decide ((time-rt) % 4294967296<2147483648)=false) :
 Calls Tryz.prog 97 #[.agg #[.bool true, .int .u32 rt, .int .u8 rc, .int .i64 rl, .bool re], .int .u32 time, .agg #[.int .u8 c, .bool f, .int .u8 v, .int .u16 d]] w (Ev.HearR w (⟨true,rt,rc,rl,re⟩,[])):=by
 go_enter Tryz.func97,Tryz.ntmps97
 go_wp2
 refine bodyPost_ret (v := .tuple #[.agg #[.bool true, .int .u32 rt, .int .u8 rc, .int .i64 (rl), .bool re], .slice none 0 0]) ?_ rfl ?_
 · simp [results,Tryz.results97,go_sem]
 · refine Ev.HearR.mk rfl RowsNew.nil ?_
   repeat (first|exact Below.refl _ _|refine Below.drew ?_|refine Below.setCell ?_ (by simp) _|refine Below.alloc ?_ (by simp;try omega) _)
theorem zou (re f:Bool)  (t0:0≤time) (t1:time≤4294967295) (d0:0≤d) (d1:d≤65535) (l0 : -9223372036854775808≤rl) (l1:rl≤9223372036854775807) (hD:(time-rt) % 4294967296=0) (hc:(c==rc)=false) :
 Calls Tryz.prog 97 #[.agg #[.bool true, .int .u32 rt, .int .u8 rc, .int .i64 rl, .bool re], .int .u32 time, .agg #[.int .u8 c, .bool f, .int .u8 v, .int .u16 d]] w (Ev.HearR w (⟨true,rt,rc,rl,re⟩,[])):=by
 go_enter Tryz.func97,Tryz.ntmps97
 go_wp2
 refine bodyPost_ret (v := .tuple #[.agg #[.bool true, .int .u32 rt, .int .u8 rc, .int .i64 (rl), .bool re], .slice none 0 0]) ?_ rfl ?_
 · simp [results,Tryz.results97,go_sem]
 · refine Ev.HearR.mk rfl RowsNew.nil ?_
   repeat (first|exact Below.refl _ _|refine Below.drew ?_|refine Below.setCell ?_ (by simp) _|refine Below.alloc ?_ (by simp;try omega) _)
theorem zrm (f:Bool)  (t0:0≤time) (t1:time≤4294967295) (d0:0≤d) (d1:d≤65535) (l0 : -9223372036854775808≤rl) (l1:rl≤9223372036854775807) (hD:(time-rt) % 4294967296=0) :
 Calls Tryz.prog 97 #[.agg #[.bool true, .int .u32 rt, .int .u8 c, .int .i64 rl, .bool true], .int .u32 time, .agg #[.int .u8 c, .bool f, .int .u8 v, .int .u16 d]] w (Ev.HearR w (⟨true,rt,c,rl,true⟩,[])):=by
 go_enter Tryz.func97,Tryz.ntmps97
 go_wp2
 refine bodyPost_ret (v := .tuple #[.agg #[.bool true, .int .u32 rt, .int .u8 c, .int .i64 (rl), .bool true], .slice none 0 0]) ?_ rfl ?_
 · simp [results,Tryz.results97,go_sem]
 · refine Ev.HearR.mk rfl RowsNew.nil ?_
   repeat (first|exact Below.refl _ _|refine Below.drew ?_|refine Below.setCell ?_ (by simp) _|refine Below.alloc ?_ (by simp;try omega) _)
end
end Go.Proofs.YtahbecinkciahaaGreat
