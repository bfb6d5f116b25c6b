/- Layer 32: sounds that are the same. -/
import Derived.Test.YtahbecinkciahaaGreatSs9Q
import Derived.Test.YtahbecinkciahaaGreatSbRecvQ
import Derived.Test.YtahbecinkciahaaGreatSbSoundsQ
import Derived.Deep.CutBlock
import Derived.Test.YtahbecinkciahaaGreatEvRefHearQ
import Derived.Test.YtahbecinkciahaaGreatJtPnQ
import Derived.Deep.QuietTactic
import Derived.BigQuiet
import Derived.Test.YtahbecinkciahaaGreatSbDecsQ
import Derived.RegionTactic
import Derived.Test.YtahbecinkciahaaGreatJtValidQ
set_option linter.unusedVariables false
set_option linter.unusedSimpArgs false
set_option maxRecDepth 100000
set_option maxHeartbeats 12800000
namespace Go.Proofs.YtahbecinkciahaaGreat
attribute [local go_sem ↓] zae zaf
attribute [local go_sem] zad zag
open Go.RowKit
theorem zvn (w:World):Calls Tryz.prog 57 #[.slice none 0 0, .slice none 0 0] w fun e w'=>e = .returned (.bool true)∧Below w.heap.size w w':=by
 go_enter Tryz.func57,Tryz.ntmps57
 go_wp2
 go_loopw [5] (fun i wr=>i = .int .i64 0∧Below w.heap.size w wr) (fun i _=>0)
 case atStart=>exact ⟨rfl,Below.refl _ _⟩
 case round =>
  obtain ⟨rfl,hb⟩:=hrel
  go_wp2
  go_ret
  exact ⟨rfl,hb⟩
theorem TS.same {l1 l2:List TS} (h:l1.map TS.s=l2.map TS.s) {k:Nat} {a b:TS} (ha:l1[k]? = some a) (hb:l2[k]? = some b):a.s=b.s:=by
 have h1:=congrArg (fun l=>l[k]?) h
 simp only [List.getElem?_map,ha,hb,Option.map] at h1
 injection h1
theorem znr (A B:Option Addr) (l1 l2:List TS) (n c d:Nat) (hn:l1.length=n) (h9:n≤100000) (h:l1.map TS.s=l2.map TS.s) (hz:∀ a∈l1,a.s.zs.length≤140737488355328) (w:World) (hA:Sds w w.heap.size A l1) (hB:Sds w w.heap.size B l2):Calls Tryz.prog 14 #[.slice A n c, .slice B n d] w fun e w'=>e = .returned (.bool true)∧Below w.heap.size w w':=by
 have hn2:l2.length=n:=by have:=congrArg List.length h;simp at this;omega
 have HH:=H9 h
 have HA:=H9 hA
 have HB:=H9 hB
 have HZ:=H9 hz
 clear h hA hB hz
 go_enter Tryz.func14,Tryz.ntmps14
 go_wp2
 go_loopg [5] n (fun gk i wr => ∃ k:Nat,gk+k=n∧i = .int .i64 k∧Hid (Below w.heap.size w wr))
 case atStart=>exact ⟨0,rfl,rfl,H9 (Below.refl _ _)⟩
 case round =>
  obtain ⟨k,hgk,rfl,U⟩:=hrel
  have hi0:(0:Int)≤(k:Int):=by omega
  by_cases hk:k<n
  rotate_left
  · obtain rfl:k=n:=by omega
    have hi1:(k:Int)≤(k:Int):=Int.le_refl _
    go_wp2
    go_ret
    exact ⟨rfl,U.out⟩
  have hi1:(k:Int)<(n:Int):=by omega
  obtain ⟨a,ha⟩:∃ a,l1[k]? = some a:=⟨_,List.getElem?_eq_getElem (by omega)⟩
  obtain ⟨b,hb⟩:∃ b,l2[k]? = some b:=⟨_,List.getElem?_eq_getElem (by omega)⟩
  have hab:=TS.same HH.out ha hb
  have hza:=HZ.out a (List.mem_of_getElem? ha)
  obtain ⟨b1,o1,rfl,hb1,x0,x1,x2⟩:=ztt (HA.out.1.keep (fun p hp=>U.out.cell hp)) ha
  obtain ⟨b2,o2,rfl,hb2,y0,y1,y2⟩:=ztt (HB.out.1.keep (fun p hp=>U.out.cell hp)) hb
  have IA:=H9 (((HA.out.2 a (List.mem_of_getElem? ha)).keep (w':=wr) (fun p hp=>U.out.cell hp)).more U.out.size)
  have IB:=H9 (((HB.out.2 b (List.mem_of_getElem? hb)).keep (w':=wr) (fun p hp=>U.out.cell hp)).more U.out.size)
  obtain ⟨⟨at1,z1,k1⟩,S1,c1⟩:=a
  obtain ⟨⟨at2,z2,k2⟩,S2,c2⟩:=b
  injection hab with e1 e2 e3
  subst e1 e2 e3
  simp only at x0 x1 x2 y0 y1 y2 IA IB hza
  have k1:=H9 fun (W:World) hA hB=>zly S1 S2 z1 z1.length c1 c2 rfl W hA hB hza
  have k2:=H9 fun W=>zvn W
  clear ha hb hza hb1 hb2
  go_upto_region 6 with fail
  go_cut [55] (fun s55 wx=>s55 = .bool false∧Hid (Below wr.heap.size wr wx))
  case first =>
   go_region_held3 (fun w'=>Below wr.heap.size wr w'∧w'.cell? ⟨b1,o1+k*3,none⟩=some (.int .i64 at1)∧w'.cell? ⟨b1,o1+k*3+1,none⟩=some (.slice S1 z1.length c1)∧w'.cell? ⟨b1,o1+k*3+2,none⟩=some (.slice none 0 0)∧w'.cell? ⟨b2,o2+k*3,none⟩=some (.int .i64 at1)∧w'.cell? ⟨b2,o2+k*3+1,none⟩=some (.slice S2 z1.length c2)∧w'.cell? ⟨b2,o2+k*3+2,none⟩=some (.slice none 0 0))
    (first|assumption|((try go_split_ands);refine zav ?_ (fun hbX=>⟨zaa hbX x0,zaa hbX x1,zaa hbX x2,zaa hbX y0,zaa hbX y1,zaa hbX y2⟩);(with_reducible repeat first|assumption|exact Below.refl _ _|exact zai (by assumption) (by assumption)|refine Below.drew ?_|refine zaj ?_ _)))
    (first
     | (go_at_call 33;refine (k1.out _ (IA.out.later (by (try go_split_ands);first|assumption|exact Below.drew (Below.refl _ _))) (IB.out.later (by (try go_split_ands);first|assumption|exact Below.drew (Below.refl _ _)))).mono ?_;rintro e w7 ⟨rfl,qb⟩;have hbw:Below wr.heap.size wr w7:=zai qb (by (try go_split_ands);first|assumption|exact Below.drew (Below.refl _ _)))
     | (go_at_call 57;refine (k2.out _).mono ?_;rintro e w8 ⟨rfl,hbel2⟩;have hbw2:Below wr.heap.size wr w8:=zai hbel2 (by (try go_split_ands);assumption)))
   all_goals
    go_wp2_with fail
    go_meet
    exact ⟨rfl,H9 hbw2⟩
  case rest =>
   obtain ⟨rfl,HW⟩:=hcut
   have U2:=H9 (Bel.later (w:=w) U.out HW.out)
   clear x0 x1 x2 y0 y1 y2 IA IB k1 k2
   go_wp2
   go_roundg (gk-1)
   case measure=>omega
   case rel=>exact ⟨k+1,by omega,by go_num,U2⟩
theorem zsw {w:World} {p:Sb.Pt} {A:Option Addr} {l:List TW} {n c:Nat} {ZA:Option Addr} {zs:List Int} {zc:Nat} {X:Array Value} {R:Ending→World→Prop} (C:SC w p A l n c ZA zs zc) (hX:X=PA p A n c)
 (h:∀ (W:World) (a:Act) (gl gq:Nat) (A2:Option Addr) (c2:Nat) (l2:List TW),SS w W gl p A2 n c2 l2 none 0 0→Blk W gq 33 #[.int .i64 (Ev.quiet p.below zs)]→gl<gq→FrS w.heap.size gl gq ZA zc (Ev.quiet p.below zs==10) a→firstWp Tryz.prog sdB_code (bodyPost Tryz.prog Tryz.f23 R) a W):Calls Tryz.prog 23 #[.agg X, .slice ZA 160 zc] w R:=by
 have B0:=H9 ((PB.new w X hX).push (.cells (PA Sb.Pt.zero none 0 0) 48))
 have B1:=H9 (Blk.new1 w (.cells X 48) 48 (PA Sb.Pt.zero none 0 0))
 have U0:=H9 (((Bel.refl w).push (.cells X 48)).push (.cells (PA Sb.Pt.zero none 0 0) 48))
 have k1:=H9 fun (W:World) hW=>zea p C.wf A l n c (PA p A n c) rfl W C.q C.len C.n5 hW C.sq true C.v.symm
 have k2:=H9 fun (W:World) hW=>zdg p.jt A l n c W C.len C.n5 hW C.pay
 unfold CopyR at k2
 rw [C.len] at k2
 have k3:∀ W:World,IntsAt W W.heap.size .i16 ZA zs→Calls Tryz.prog 72 #[.agg #[.int .i64 p.below], .slice ZA 160 zc] W fun e w'=>e = .returned (.tuple #[.agg #[.int .i64 (Ev.quiet p.below zs)], .bool (Ev.quiet p.below zs==10)])∧Below W.heap.size W w':=fun W hW=>by
  have h:=zlp p.below ZA zs zc W C.wf.below.1 C.wf.below.2 hW C.zb (by have:=C.zl;omega)
  rwa [C.zl] at h
 obtain ⟨QN,hQN⟩:∃ q,q=Ev.quiet p.below zs:=⟨_,rfl⟩
 rw [← hQN] at h k3
 generalize (QN==10)=qb at h k3
 replace k3:=H9 k3
 clear hX hQN
 go_enter Tryz.func23,Tryz.ntmps23
 go_upto_region 1 with fail
 change Code.wp _ _ _ _ ((w.alloc (Obj.cells X 48)).alloc (Obj.cells (PA Sb.Pt.zero none 0 0) 48))
 obtain ⟨W,hW⟩:∃ W,W=(w.alloc (Obj.cells X 48)).alloc (Obj.cells (PA Sb.Pt.zero none 0 0) 48):=⟨_,rfl⟩
 rw [← hW] at B0 B1 U0 ⊢
 clear hW
 go_wp2_with (first|(refine zab rfl 48 (.tmp 2) rfl (w.heap.size) 0 rfl 48 (PL p A n c) B0.out 48 _ Tryz.underlying48 zah (show 0+48≤48 by decide) (PA p A n c) (by rfl) rfl ?_)|fail)
 refine (k1.out _ (C.av.later U0.out)).mono ?_
 rintro e w1 ⟨rfl,hb1⟩
 replace U0:=H9 (U0.out.later hb1)
 replace B0:=H9 (B0.out.later hb1)
 replace B1:=H9 (B1.out.later hb1)
 clear hb1 k1
 go_upto_region 3 with fail
 go_wp2_with (first|(refine zab rfl 40 (.tmp 29) rfl (w.heap.size) 14 rfl 48 (PL p A n c) B0.out 14 _ Tryz.underlying40 zaw (show 14+14≤48 by decide) (#[.int .i64 p.jt.least, .int .i64 p.jt.most, .int .i64 p.jt.now, .bool p.jt.on, .int .i64 p.jt.zero, .int .i64 p.jt.first, .int .i64 p.jt.high, .int .i64 p.jt.done, .int .i64 p.jt.spread, .int .i64 p.jt.trans, .slice A n c, .int .i64 p.jt.late, .int .i64 p.jt.twice, .int .i64 p.jt.played]) (by rfl) rfl ?_)|fail)
 have hL1:=B1.out.lt
 refine (k2.out _ (C.av.later U0.out)).mono ?_
 rintro e w2 ⟨A2,c2,l2,rfl,hm2,hQ2,hb1⟩
 replace U0:=H9 (U0.out.later hb1)
 replace B0:=H9 (B0.out.later hb1)
 replace B1:=H9 (B1.out.later hb1)
 clear hb1 k2
 go_upto_region 4 with (first|(refine zac rfl 40 (.tmp 32) (.tmp 31) rfl (w.heap.size) 14 rfl 48 (PL p A n c) B0.out (JW p.jt A2 n c2) rfl zaw (show 14+14≤48 by decide) rfl (PL p A2 n c2) rfl ?_;intro WF BF OF)|fail)
 have HQO:=H9 (hQ2.only OF (by omega))
 have HQL:=H9 (show l2.map TW.w=p.jt.q from hm2.trans C.q)
 replace B1:=H9 (OF.blk B1.out (by omega))
 replace U0:=H9 (OF.bel U0.out (Nat.le_refl _))
 have HM:Hid (PM WF [w.heap.size+1,w.heap.size] w.heap.size p A2 n c2 l2):=H9 ⟨BF,HQL.out,hQ2.len,HQO.out.capm.1,HQO.out.capm.2,QAv.of_own HQO.out (by intro x hx;simp at hx;omega)⟩
 clear hQ2 hm2 BF OF B0 HQO HQL
 have hW1:=U0.out.size
 have hW2:=B1.out.lt
 obtain ⟨gl,hgl⟩:∃ g,g=WF.heap.size:=⟨_,rfl⟩
 have hgg:w.heap.size+1<gl:=by omega
 have S:SS w (WF.alloc (Obj.cells #[.slice none 0 0] 69)) gl p A2 n c2 l2 none 0 0:=⟨(HM.out.add (x:=gl) (by omega)).push _,B1.out.push _,by rw [hgl];exact Blk.new WF _ _,U0.out.push _,hgg⟩
 have hmf:∀ (fn:Fn) (first cap:Array Value) (w:World),(Instr.makeFunc fn first cap).run Tryz.prog w = .ok (.func fn first cap) w:=fun _ _ _ _=>rfl
 obtain ⟨W3,hW3⟩:∃ W,W=WF.alloc (Obj.cells #[.slice none 0 0] 69):=⟨_,rfl⟩
 go_upto_region 6 with fail
 rw [← hgl]
 rw [← hW3] at S ⊢
 clear hW3 hgl hW1 hW2 HM B1 U0
 have x5:=S.cell 5 _ rfl
 go_wp2_with (first|(refine zab rfl 33 (.tmp 35) rfl (w.heap.size) 5 rfl 48 (PL p A2 n c2) S.m.box 1 _ Tryz.underlying33 zcj (show 5+1≤48 by decide) (#[.int .i64 p.below]) (by rfl) rfl ?_)|fail)
 refine (k3.out _ (C.z.later S.u)).mono ?_
 rintro e w4 ⟨rfl,hb1⟩
 replace S:=S.later hb1
 clear hb1 k3 x5
 have BQ:=H9 (Blk.new w4 33 #[.int .i64 QN])
 have hbl:=S.bl.lt
 replace S:=S.push (.cells #[.int .i64 QN] 33)
 obtain ⟨gq,hgq⟩:∃ g,g=w4.heap.size:=⟨_,rfl⟩
 obtain ⟨W5,hW5⟩:∃ W,W=w4.alloc (Obj.cells #[.int .i64 QN] 33):=⟨_,rfl⟩
 rw [← hgq,← hW5] at BQ
 rw [← hgq] at hbl
 go_upto_block 0 with fail
 rw [← hgq]
 rw [← hW5] at S ⊢
 clear hW5 hgq
 refine zas (by assumption) ?_
 exact h _ _ gl gq A2 c2 l2 S BQ.out hbl FrS.mk
theorem zqj {w W:World} {gl:Nat} {p:Sb.Pt} {A:Option Addr} {n c:Nat} {l:List TW} {KA:Option Addr} {kc:Nat} {ks:List TK} (S:SS w W gl p A n c l KA ks.length kc) (K:PkS W w.heap.size [gl,w.heap.size+1,w.heap.size] KA ks) (ht0:0≤p.time) (ht1:p.time≤4294967295) (a:Act) (ha:FrT w.heap.size gl a):firstWp Tryz.prog sdT_code (bodyPost Tryz.prog Tryz.f23 (SendR ({ p with time:=(p.time+160) % 4294967296 }, ks.map TK.k) w)) a W:=by
 obtain ⟨s,rfl,e2,e4,e7,_⟩:=ha
 rw [r139,e2,e4,e7]
 clear e2 e4 e7
 refine zau ?_
 intro _ _
 have hgg:=S.lt
 have x3:=S.cell 3 _ rfl
 have z3:=Blk.frozen S.m.box 3
 go_upto_region 32 with fail
 obtain ⟨WI,hV⟩:∃ V,V=W.setCell ⟨w.heap.size,3,none⟩ (.int .u32 ((p.time+160) % 4294967296)):=⟨_,rfl⟩
 rw [← hV]
 replace S:SS w WI gl { p with time:=(p.time+160) % 4294967296 } A n c l KA ks.length kc:=by rw [hV];exact S.set 3 _ rfl rfl
 replace K:PkS WI w.heap.size [gl,w.heap.size+1,w.heap.size] KA ks:=K.chg (T:=[w.heap.size]) (Chg.of_only (by rw [hV];exact OnlyB.setCell _ _ _ _) (by simp)) (by simp)
 clear hV x3 z3
 obtain ⟨q,hq⟩:∃ q:Sb.Pt,q = { p with time:=(p.time+160) % 4294967296 } := ⟨_,rfl⟩
 rw [← hq] at S
 have HQQ:=H9 hq
 clear hq
 replace S:=S.drew
 have K2:PkS WI.drew w.heap.size [gl,w.heap.size+1,w.heap.size] KA ks:=⟨K.rows,K.av,K.pay,K.new⟩
 clear K
 refine wp_region_held_drew (S:=fun w'=>Blk w' w.heap.size 48 (PL q A n c).toArray∧Blk w' gl 69 #[.slice KA ks.length kc]) (by kernel_rfl) ⟨S.m.box,S.bl⟩ (fun qH => ?_)
 refine tk1 (i:=0) (v := .agg (PA q A n c)) rfl (zap rfl 48 (.tmp 2) rfl w.heap.size 0 rfl 48 (PL q A n c) (fun w h=>h.1) 48 _ Tryz.underlying48 zah (Nat.le_refl 48) _ rfl rfl) qH ?_
 try simp only [ss9]
 refine tk1 (i:=1) (v := .slice KA ks.length kc) rfl (Or.inl ⟨by rfl,fun w h=>by have c2:=h.2.at 0 _ rfl;clear h;go_simp;try with_reducible rfl⟩) qH ?_
 try simp only [ss9]
 refine wpAnyH_ready (rs:=[2]) (by kernel_rfl) (by simp) ?_
 refine AllReadyH.cons (o:=_) rfl (fun K hK => ?_) AllReadyH.nil
 refine zan rfl 48 (.tmp 4) (.tmp 137) rfl (w.heap.size+1) 0 rfl 48 (PL Sb.Pt.zero none 0 0) S.b1 (PL q A n c) rfl zah (Nat.le_refl 48) rfl (PL q A n c) rfl ?_
 intro WH BH OH
 refine hK.out _ _ ⟨OH.blk qH.1 (by omega),OH.blk qH.2 (by omega)⟩ (fun hHeld2 => ?_)
 clear hK K
 try simp only [ss9]
 refine tk1 (i:=3) (v := .slice KA ks.length kc) rfl (Or.inl ⟨by rfl,fun w _=>by go_simp;try with_reducible rfl⟩) hHeld2 ?_
 try simp only [ss9]
 refine tk1 (i:=4) (v := .int .u8 0) rfl (Or.inl ⟨by rfl,fun w _=>by go_simp;try with_reducible rfl⟩) hHeld2 ?_
 try simp only [ss9]
 refine wpAnyH_done (by kernel_rfl) ?_ _
 go_wp2_with fail
 rw [← HQQ.out]
 have K3:=K2.chg (Chg.of_only OH (S:=[w.heap.size+1]) (by simp)) (by simp)
 refine bodyPost_ret (v := .tuple #[.agg (PA q A n c), .slice KA ks.length kc, .int .u8 0]) (zax Tryz.results23 rfl (PB.load BH) rfl rfl) rfl ⟨A,n,c,l,KA,kc,ks,rfl,rfl,S.m.q,S.m.len,S.m.cap,S.m.cm,(S.m.chg (T:=[w.heap.size+1]) (Chg.of_only OH (by simp)) (by simp) (by simp)).qa.wts,K3.rows,OH.bel S.u (by omega),K3.new⟩
theorem zws {w W:World} {p:Sb.Pt} {A:Option Addr} {l:List TW} {n c:Nat} {gl gq:Nat} {ZA:Option Addr} {zs:List Int} {zc:Nat} {A0:Option Addr} {l0:List TW} {n0 c0:Nat} (C:SC w p A0 l0 n0 c0 ZA zs zc) (S:SS w W gl p A n c l none 0 0) (BQ:Blk W gq 33 #[.int .i64 (Ev.quiet p.below zs)]) (hgq:gl<gq) (hon:p.tn.on=false) (hen:p.tn.ends=0) (hqu:Ev.quiet p.below zs=10) (hbe:¬p.below<10) (a:Act) (ha:FrS w.heap.size gl gq ZA zc (Ev.quiet p.below zs==10) a):firstWp Tryz.prog sdB_code (bodyPost Tryz.prog Tryz.f23 (SendR ({ p with below:=10,mrk:=true,time:=(p.time+160) % 4294967296 }, []) w)) a W:=by
 obtain ⟨s,rfl,e1,e2,e4,e7,e8,e9,e10,_⟩:=ha
 rw [r139,e1,e2,e4,e7,e8,e9,e10]
 clear e1 e2 e4 e7 e8 e9 e10
 rw [hqu] at BQ ⊢
 rw [show ((10:Int)==10)=true from rfl]
 clear hqu
 refine zlq ?_
 intro _ _
 have hgg:=S.lt
 have x8:=S.cell 8 _ rfl
 have x13:=S.cell 13 _ rfl
 rw [hon] at x8
 rw [hen] at x13
 have x5:=S.cell 5 _ rfl
 have hbi:¬p.below<(10:Int):=hbe
 go_upto_region 29 with fail
 clear x8 x13 x5
 go_upto_region 30 with (first|(refine zab rfl 33 (.tmp 9) rfl (gq) 0 rfl 33 ([.int .i64 10]) BQ 1 _ Tryz.underlying33 zcj (show 0+1≤1 by decide) (#[.int .i64 10]) (by rfl) rfl ?_)|(refine zac rfl 33 (.tmp 131) (.tmp 130) rfl (w.heap.size) 5 rfl 48 (PL p A n c) S.m.box ([.int .i64 10]) rfl zcj (show 5+1≤48 by decide) rfl (PL { p with below:=10 } A n c) rfl ?_;intro WG BG OG)|fail)
 replace S:=S.over OG BG rfl
 clear BG OG BQ
 have x4:=S.cell 4 _ rfl
 have z4:=Blk.frozen S.m.box 4
 go_upto_region 31 with fail
 obtain ⟨WH,hV⟩:∃ V,V=WG.setCell ⟨w.heap.size,4,none⟩ (.bool true):=⟨_,rfl⟩
 rw [← hV]
 have OV:OnlyB w.heap.size WG WH:=by rw [hV];exact OnlyB.setCell _ _ _ _
 replace S:SS w WH gl { p with below:=10,mrk:=true } A n c l none 0 0:=by rw [hV];exact S.set 4 _ rfl rfl
 clear hV OV x4 z4
 refine zas (by assumption) ?_
 exact zqj (ks:=[]) S PkS.nil C.wf.time.1 C.wf.time.2 _ FrT.mk
theorem zwt {w W:World} {p:Sb.Pt} {A:Option Addr} {l:List TW} {n c:Nat} {gl gq:Nat} {ZA:Option Addr} {zs:List Int} {zc:Nat} {A0:Option Addr} {l0:List TW} {n0 c0:Nat} (C:SC w p A0 l0 n0 c0 ZA zs zc) (S:SS w W gl p A n c l none 0 0) (BQ:Blk W gq 33 #[.int .i64 (Ev.quiet p.below zs)]) (hgq:gl<gq) (hon:p.tn.on=false) (hen:p.tn.ends=0) (hqu:Ev.quiet p.below zs=10) (hbe:p.below<10) (a:Act) (ha:FrS w.heap.size gl gq ZA zc (Ev.quiet p.below zs==10) a):firstWp Tryz.prog sdB_code (bodyPost Tryz.prog Tryz.f23 (SendR ({ (Sb.emit p 13 p.time false [Ev.lev zs]).1 with below:=10,mrk:=true,time:=(p.time+160) % 4294967296 }, [(Sb.emit p 13 p.time false [Ev.lev zs]).2]) w)) a W:=by
 obtain ⟨s,rfl,e1,e2,e4,e7,e8,e9,e10,_⟩:=ha
 rw [r139,e1,e2,e4,e7,e8,e9,e10]
 clear e1 e2 e4 e7 e8 e9 e10
 rw [hqu] at BQ ⊢
 rw [show ((10:Int)==10)=true from rfl]
 clear hqu
 have k5:∀ W:World,IntsAt W W.heap.size .i16 ZA zs→Calls Tryz.prog 75 #[.slice ZA 160 zc] W fun e w'=>e = .returned (.int .u8 (Ev.lev zs))∧W=w':=fun W hW=>by
  have h:=zim ZA zs zc W hW C.zb (by have:=C.zl;omega)
  rwa [C.zl] at h
 replace k5:=H9 k5
 obtain ⟨q9,hq9⟩:∃ q,q=(Sb.emit p 13 p.time false [Ev.lev zs]).1:=⟨_,rfl⟩
 obtain ⟨k9,hk9⟩:∃ k,k=(Sb.emit p 13 p.time false [Ev.lev zs]).2:=⟨_,rfl⟩
 rw [← hq9,← hk9]
 have HQ9:=H9 hq9
 have HK9:=H9 hk9
 have H9T:=H9 (show q9.time=p.time by rw [hq9];rfl)
 have H9P:=H9 (show k9.pl=[Ev.lev zs] by rw [hk9];rfl)
 clear hq9 hk9
 refine zlq ?_
 intro _ _
 have hgg:=S.lt
 have x8:=S.cell 8 _ rfl
 have x13:=S.cell 13 _ rfl
 rw [hon] at x8
 rw [hen] at x13
 have x5:=S.cell 5 _ rfl
 go_upto_region 28 with fail
 clear x8 x13 x5
 have x3:=S.cell 3 _ rfl
 refine wp_region_held_drew (S:=fun w'=>w'.cell? ⟨w.heap.size,3,none⟩=some (.int .u32 p.time)) (by kernel_rfl) x3 (fun qH => ?_)
 refine tk1 (i:=0) (v:=?_) rfl (Or.inl ⟨by rfl,?_⟩) qH ?_
 rotate_left
 · (intro w hSw;(try dsimp only at hSw);go_simp;try with_reducible rfl)
 try simp only [ss9]
 refine tk1 (i:=1) (v:=?_) rfl (Or.inl ⟨by rfl,?_⟩) qH ?_
 rotate_left
 · (intro w hSw;(try dsimp only at hSw);go_simp;try with_reducible rfl)
 try simp only [ss9]
 refine tk1 (i:=2) (v:=?_) rfl (Or.inl ⟨by rfl,?_⟩) qH ?_
 rotate_left
 · (intro w hSw;(try dsimp only at hSw);go_simp;try with_reducible rfl)
 try simp only [ss9]
 refine tk1 (i:=3) (v:=?_) rfl (Or.inl ⟨by rfl,?_⟩) qH ?_
 rotate_left
 · (intro w hSw;(try dsimp only at hSw);go_simp;try with_reducible rfl)
 try simp only [ss9]
 refine wpAnyH_ready (rs:=[4]) (by kernel_rfl) (by simp) ?_
 refine AllReadyH.cons (o:=_) rfl (fun K hK => ?_) ?_
 rotate_left
 · exact AllReadyH.nil
 go_simp
 refine (k5.out _ (C.z.later (Bel.drew S.u))).mono ?_
 rintro e w6 ⟨rfl,rfl⟩
 refine hK.out _ _ ?_ (fun qH => ?_)
 · (try dsimp only)
   exact x3
 clear hK K
 try simp only [ss9]
 refine wpAnyH_ready (rs:=[5]) (by kernel_rfl) (by simp) ?_
 refine AllReadyH.cons (o:=_) rfl (fun K hK => ?_) ?_
 rotate_left
 · exact AllReadyH.nil
 go_simp
 refine hK.out _ _ ?_ (fun qH => ?_)
 · (try dsimp only)
   exact zif x3 _
 clear hK K
 try simp only [ss9]
 have hql:=BQ.lt
 have HP9:Hid (IntsAv (W.alloc (Obj.cells #[.int .u8 (Ev.lev zs)] 5)).drew [gl,w.heap.size+1,w.heap.size] .u8 (some ⟨W.heap.size,0,none⟩) [Ev.lev zs]):=H9 ⟨IntsAt.lit0 W 5 .u8 [Ev.lev zs] [.int .u8 (Ev.lev zs)] rfl,fun _ b off e hb=>by injection e with e;injection e with e1 _;simp at hb;omega⟩
 replace S:=(S.push (Obj.cells #[.int .u8 (Ev.lev zs)] 5)).drew
 replace BQ:=H9 (Blk.dr (BQ.push (Obj.cells #[.int .u8 (Ev.lev zs)] 5)))
 clear x3
 obtain ⟨gz,hgz⟩:∃ g,g=W.heap.size:=⟨_,rfl⟩
 have hzw:w.heap.size≤gz:=by omega
 have hqz:gq<gz:=by omega
 obtain ⟨W7,hW7⟩:∃ V,V=(W.alloc (Obj.cells #[.int .u8 (Ev.lev zs)] 5)).drew:=⟨_,rfl⟩
 have hs7:gz<W7.heap.size:=by rw [hW7,hgz];simp
 rw [← hgz] at HP9 ⊢
 rw [← hW7] at S BQ HP9 qH ⊢
 clear hW7 hgz
 refine wpAnyH_ready (rs:=[6]) (by kernel_rfl) (by simp) ?_
 refine AllReadyH.cons (o:=_) rfl (fun K hK => ?_) ?_
 rotate_left
 · exact AllReadyH.nil
 go_simp
 refine (zms [gl,w.heap.size+1,w.heap.size] w.heap.size gl p C.wf A n c l 13 p.time false (some ⟨gz,0,none⟩) [Ev.lev zs] 1 _ S.m (by simp) (by simp) (by omega) S.bl (by simp)).mono ?_
 rintro e w8 ⟨rfl,A9,c9,M9,L9,O9,C9⟩
 rw [← HQ9.out] at M9
 rw [← HK9.out] at O9
 replace S:=S.emit M9 L9 C9
 have HO9:=H9 O9
 replace HP9:=H9 (HP9.out.chg C9 (by simp))
 replace BQ:=H9 (C9.blk BQ.out (by simp;omega))
 clear M9 L9 O9 C9
 refine hK.out _ _ ?_ (fun qH => ?_)
 · (try dsimp only)
   have:=S.cell 3 _ rfl;rw [H9T.out] at this;exact this
 clear hK K
 try simp only [ss9]
 clear qH
 refine wpAnyH_done (by kernel_rfl) ?_ _
 have K9:Hid (PkS w8 w.heap.size [gl,w.heap.size+1,w.heap.size] A9 [⟨k9,some ⟨gz,0,none⟩,1⟩]):=H9 (PkS.one HO9.out HP9.out H9P.out (by intro x hx;simp at hx;omega) (by omega) (fun _ b off e=>by injection e with e;injection e with e1 _;omega))
 clear HO9 HP9
 go_upto_region 30 with (first|(refine zab rfl 33 (.tmp 9) rfl (gq) 0 rfl 33 ([.int .i64 10]) BQ.out 1 _ Tryz.underlying33 zcj (show 0+1≤1 by decide) (#[.int .i64 10]) (by rfl) rfl ?_)|(refine zac rfl 33 (.tmp 131) (.tmp 130) rfl (w.heap.size) 5 rfl 48 (PL q9 A n c) S.m.box ([.int .i64 10]) rfl zcj (show 5+1≤48 by decide) rfl (PL { q9 with below:=10 } A n c) rfl ?_;intro WG BG OG)|fail)
 replace S:=S.over OG BG rfl
 replace K9:=H9 (K9.out.chg (Chg.of_only OG (S:=[w.heap.size]) (by simp)) (by simp))
 clear BG OG BQ
 have x4:=S.cell 4 _ rfl
 have z4:=Blk.frozen S.m.box 4
 go_upto_region 31 with fail
 obtain ⟨WH,hV⟩:∃ V,V=WG.setCell ⟨w.heap.size,4,none⟩ (.bool true):=⟨_,rfl⟩
 rw [← hV]
 have OV:OnlyB w.heap.size WG WH:=by rw [hV];exact OnlyB.setCell _ _ _ _
 replace S:SS w WH gl { q9 with below:=10,mrk:=true } A n c l A9 1 c9:=by rw [hV];exact S.set 4 _ rfl rfl
 replace K9:=H9 (K9.out.chg (Chg.of_only OV (S:=[w.heap.size]) (by simp)) (by simp))
 clear hV OV x4 z4
 refine zas (by assumption) ?_
 have ht:=C.wf.time
 rw [← H9T.out] at ht ⊢
 exact zqj (ks:=[⟨k9,some ⟨gz,0,none⟩,1⟩]) S K9.out ht.1 ht.2 _ FrT.mk
theorem zwu {w W:World} {p:Sb.Pt} {A:Option Addr} {l:List TW} {n c:Nat} {gl gq:Nat} {ZA:Option Addr} {zs:List Int} {zc:Nat} {A0:Option Addr} {l0:List TW} {n0 c0:Nat} (C:SC w p A0 l0 n0 c0 ZA zs zc) (S:SS w W gl p A n c l none 0 0) (BQ:Blk W gq 33 #[.int .i64 (Ev.quiet p.below zs)]) (hgq:gl<gq) (hon:p.tn.on=false) (hen:p.tn.ends=0) (hqu:¬Ev.quiet p.below zs=10) (a:Act) (ha:FrS w.heap.size gl gq ZA zc (Ev.quiet p.below zs==10) a):firstWp Tryz.prog sdB_code (bodyPost Tryz.prog Tryz.f23 (SendR ({ (Sb.emit { p with below:=Ev.quiet p.below zs } p.codec p.time p.mrk (Sb.enc p.codec (p.cv,p.ci) zs).1).1 with mrk:=false,cv:=(Sb.enc p.codec (p.cv,p.ci) zs).2.1,ci:=(Sb.enc p.codec (p.cv,p.ci) zs).2.2,time:=(p.time+160) % 4294967296 }, [(Sb.emit { p with below:=Ev.quiet p.below zs } p.codec p.time p.mrk (Sb.enc p.codec (p.cv,p.ci) zs).1).2]) w)) a W:=by
 obtain ⟨s,rfl,e1,e2,e4,e7,e8,e9,e10,_⟩:=ha
 rw [r139,e1,e2,e4,e7,e8,e9,e10]
 clear e1 e2 e4 e7 e8 e9 e10
 have hvb:speechB p.codec=true∧Dlt.valid p.cv p.ci=true:=by
  have hv:=C.v
  unfold Sb.Pt.valid at hv
  simp only [Bool.and_eq_true] at hv
  exact ⟨hv.1.1.1.1,hv.1.1.1.2⟩
 obtain ⟨FK,FC,FD,hE⟩:=encK p.codec p.cv p.ci hvb.1 hvb.2 ZA zc zs C.zb C.zl
 have hel:=(Sb.enc_in p.codec (p.cv,p.ci) zs hvb.2 C.zl).2.1
 generalize Sb.enc p.codec (p.cv,p.ci) zs=EE at *
 obtain ⟨bs,es⟩:=EE
 obtain ⟨QN,hQN⟩:∃ q,q=Ev.quiet p.below zs:=⟨_,rfl⟩
 have HW5:=H9 (show ({ p with below:=QN } : Sb.Pt).wf from ⟨C.wf.codec,C.wf.src,C.wf.seq,C.wf.time,by rw [hQN];show -9223372036854775808≤Ev.quiet p.below zs∧Ev.quiet p.below zs≤9223372036854775807;unfold Ev.quiet;split<;>omega,C.wf.tvol,C.wf.tcode,C.wf.tst,C.wf.seed,C.wf.pk,C.wf.oc⟩)
 rw [← hQN] at BQ hqu ⊢
 rw [show (QN==10)=false by rw [beq_eq_false_iff_ne];exact hqu]
 clear hqu hQN
 obtain ⟨q9,hq9⟩:∃ q,q=(Sb.emit { p with below:=QN } p.codec p.time p.mrk bs).1:=⟨_,rfl⟩
 obtain ⟨k9,hk9⟩:∃ k,k=(Sb.emit { p with below:=QN } p.codec p.time p.mrk bs).2:=⟨_,rfl⟩
 simp only at hel
 rw [← hq9,← hk9]
 have HQ9:=H9 hq9
 have HK9:=H9 hk9
 have H9T:=H9 (show q9.time=p.time by rw [hq9];rfl)
 have H9P:=H9 (show k9.pl=bs by rw [hk9];rfl)
 clear hq9 hk9 hvb
 refine zlq ?_
 intro _ _
 have hgg:=S.lt
 have x8:=S.cell 8 _ rfl
 have x13:=S.cell 13 _ rfl
 rw [hon] at x8
 rw [hen] at x13
 go_upto_region 8 with (first|(refine zab rfl 33 (.tmp 9) rfl (gq) 0 rfl 33 ([.int .i64 QN]) BQ 1 _ Tryz.underlying33 zcj (show 0+1≤1 by decide) (#[.int .i64 QN]) (by rfl) rfl ?_)|(refine zac rfl 33 (.tmp 42) (.tmp 41) rfl (w.heap.size) 5 rfl 48 (PL p A n c) S.m.box ([.int .i64 QN]) rfl zcj (show 5+1≤48 by decide) rfl (PL { p with below:=QN } A n c) rfl ?_;intro WG BG OG)|fail)
 clear x8 x13
 replace S:=S.over OG BG rfl
 clear BG OG BQ
 have x0d:WG.cell? ⟨w.heap.size,0,none⟩=some (.int .u8 p.codec):=S.cell 0 _ rfl
 have x6d:WG.cell? ⟨w.heap.size,6,none⟩=some (.int .i64 p.cv):=S.cell 6 _ rfl
 have x7d:WG.cell? ⟨w.heap.size,7,none⟩=some (.int .i64 p.ci):=S.cell 7 _ rfl
 simp only [Act.put]
 have hglt:=S.bl.lt
 have hqlt:=S.u.size
 refine zxj w.heap.size p.codec p.cv p.ci C.wf.codec.1 C.wf.codec.2 ZA zs zc bs es FK FC FD hE WG x0d x6d x7d (C.z.later S.u) (fun _ _ _ _ _ h=>h) ?_
 intro wx A8 c8 g8 u43 u44 u45 u46 u47 u48 u49 u50 u51 u52 u53 u54 u55 HI8 HD8 hg8 HB8
 have hwx:=HB8.out.size
 have HN8:=H9 HI8.out.2
 replace S:=S.later HB8.out
 clear x0d x6d x7d HB8
 have HP9:Hid (IntsAv wx [gl,w.heap.size+1,w.heap.size] .u8 A8 bs):=H9 (IntsAv.of_new HI8.out (by intro x hx;simp at hx;omega))
 replace hg8:=hg8.out
 have k6:=H9 fun (V:World) hM hL=>zms [gl,w.heap.size+1,w.heap.size] w.heap.size gl { p with below:=QN } HW5.out A n c l p.codec p.time p.mrk A8 bs c8 V hM (by simp) (by simp) (by omega) hL (by omega)
 have x0:=S.cell 0 _ rfl
 have x3:=S.cell 3 _ rfl
 have x4:=S.cell 4 _ rfl
 go_upto_region 11 with fail
 go_wp2_with fail
 refine (k6.out _ S.m S.bl).mono ?_
 rintro e w8 ⟨rfl,A9,c9,M9,L9,O9,C9⟩
 rw [← HQ9.out] at M9
 rw [← HK9.out] at O9
 replace S:=S.emit M9 L9 C9
 replace HP9:=H9 (HP9.out.chg C9 (by simp))
 replace HD8:=H9 (C9.blk HD8.out (by simp;omega))
 have K9:Hid (PkS w8 w.heap.size [gl,w.heap.size+1,w.heap.size] A9 [⟨k9,A8,c8⟩]):=H9 (PkS.one O9 HP9.out H9P.out (by intro x hx;simp at hx;omega) (by omega) (fun h0 b off e=>by have:=HN8.out h0 b off e;omega))
 clear M9 L9 O9 C9 x0 x3 x4 HI8 k6 HP9
 have x4:=S.cell 4 _ rfl
 have z4:=Blk.frozen S.m.box 4
 go_upto_region 13 with fail
 obtain ⟨WH,hV⟩:∃ V,V=w8.setCell ⟨w.heap.size,4,none⟩ (.bool false):=⟨_,rfl⟩
 rw [← hV]
 have OV:OnlyB w.heap.size w8 WH:=by rw [hV];exact OnlyB.setCell _ _ _ _
 replace S:SS w WH gl { q9 with mrk:=false } A n c l A9 1 c9:=by rw [hV];exact S.set 4 _ rfl rfl
 replace K9:=H9 (K9.out.chg (Chg.of_only OV (S:=[w.heap.size]) (by simp)) (by simp))
 replace HD8:=H9 (OV.blk HD8.out (by omega))
 clear hV OV x4 z4
 obtain ⟨es1,es2⟩:=es
 go_upto_region 31 with (first|(refine zab rfl 24 (.tmp 18) rfl (g8) 0 rfl 24 ([.int .i64 es1, .int .i64 es2]) HD8.out 2 _ Tryz.underlying24 zlw (show 0+2≤2 by decide) (#[.int .i64 es1, .int .i64 es2]) (by rfl) rfl ?_)|(refine zac rfl 24 (.tmp 71) (.tmp 70) rfl (w.heap.size) 6 rfl 48 (PL { q9 with mrk:=false } A n c) S.m.box ([.int .i64 es1, .int .i64 es2]) rfl zlw (show 6+2≤48 by decide) rfl (PL { q9 with mrk:=false,cv:=es1,ci:=es2 } A n c) rfl ?_;intro WJ BJ OJ)|fail)
 replace S:=S.over OJ BJ rfl
 replace K9:=H9 (K9.out.chg (Chg.of_only OJ (S:=[w.heap.size]) (by simp)) (by simp))
 clear BJ OJ HD8
 refine zas (by assumption) ?_
 have ht:=C.wf.time
 rw [← H9T.out] at ht ⊢
 exact zqj (ks:=[⟨k9,A8,c8⟩]) S K9.out ht.1 ht.2 _ FrT.mk
end Go.Proofs.YtahbecinkciahaaGreat
namespace Go.Proofs.YtahbecinkciahaaGreat
open Go.RowKit
theorem zsx {w:World} {p:Sb.Pt} {A:Option Addr} {l:List TW} {n c:Nat} {ZA:Option Addr} {zs:List Int} {zc:Nat} {X:Array Value} (C:SC w p A l n c ZA zs zc) (hX:X=PA p A n c) (hon:p.tn.on=false) (hen:p.tn.ends=0):Calls Tryz.prog 23 #[.agg X, .slice ZA 160 zc] w (SendR (Sb.send0 p zs) w):=by
 refine zsw C hX fun W a gl gq A2 c2 l2 S BQ hgq ha => ?_
 unfold Sb.send0 Sb.later
 rw [if_neg (by rw [hon,hen];decide)]
 by_cases hq:Ev.quiet p.below zs=10
 · rw [if_pos hq]
   by_cases hb:p.below<10
   · rw [if_pos hb]
     have h:=zwt C S BQ hgq hon hen hq hb a ha
     simp only [hq] at h ⊢
     exact h
   · rw [if_neg hb]
     have h:=zws C S BQ hgq hon hen hq hb a ha
     simp only [hq] at h ⊢
     exact h
 · rw [if_neg hq]
   exact zwu C S BQ hgq hon hen hq a ha
end Go.Proofs.YtahbecinkciahaaGreat
namespace Go.Proofs.YtahbecinkciahaaGreat
attribute [local go_sem ↓] zae zaf
attribute [local go_sem] zad zag
open Go.RowKit
def NewP (k src l m:Int) (w:World) (e:Ending) (w':World):Prop:=e = .returned (.tuple #[.agg (PA (Sb.new k src l m).1 none 0 0), .int .u8 (Sb.new k src l m).2])∧Below w.heap.size w w'
theorem zvo (k src l m:Int) (h0:0≤k) (h1:k≤255) (w:World):Calls Tryz.prog 19 #[.int .u8 k, .int .u32 src, .agg #[.int .i64 l, .int .i64 m]] w (NewP k src l m w):=by
 have BC:=H9 ((Blk.new w 37 #[.int .i64 l, .int .i64 m]).push (.cells (PA Sb.Pt.zero none 0 0) 48))
 have B1:=H9 (Blk.new1 w (.cells #[.int .i64 l, .int .i64 m] 37) 48 (PA Sb.Pt.zero none 0 0))
 have U0:=H9 (((Bel.refl w).push (.cells #[.int .i64 l, .int .i64 m] 37)).push (.cells (PA Sb.Pt.zero none 0 0) 48))
 have k1:=H9 fun W=>zcz k W h0 h1
 have k2:=H9 fun W=>zuo l m W
 unfold NewR at k2
 obtain ⟨v,hv⟩:∃ v,v=speechB k:=⟨_,rfl⟩
 rw [← hv] at k1
 have HV:=H9 hv
 clear hv
 go_enter Tryz.func19,Tryz.ntmps19
 go_upto_region 1 with fail
 change Code.wp _ _ _ _ ((w.alloc (Obj.cells #[.int .i64 l, .int .i64 m] 37)).alloc (Obj.cells (PA Sb.Pt.zero none 0 0) 48))
 obtain ⟨W,hW⟩:∃ W,W=(w.alloc (Obj.cells #[.int .i64 l, .int .i64 m] 37)).alloc (Obj.cells (PA Sb.Pt.zero none 0 0) 48):=⟨_,rfl⟩
 rw [← hW] at BC B1 U0 ⊢
 clear hW
 go_wp2_with fail
 refine (k1.out _).mono ?_
 rintro e w1 ⟨rfl,hb1⟩
 replace U0:=H9 (U0.out.later hb1)
 replace BC:=H9 (BC.out.later hb1)
 replace B1:=H9 (B1.out.later hb1)
 have hlt:=B1.out.lt
 clear hb1
 cases v
 · have HN:Hid (Sb.new k src l m=(Sb.Pt.zero,15)):=H9 (by unfold Sb.new;rw [← HV.out,if_pos rfl])
   go_wp2_with (first|(refine zac rfl 48 (.tmp 6) (.tmp 13) rfl (w.heap.size+1) 0 rfl 48 (PL Sb.Pt.zero none 0 0) B1.out (PL Sb.Pt.zero none 0 0) rfl zah (show 0+48≤48 by decide) rfl (PL Sb.Pt.zero none 0 0) rfl ?_;intro WH BH OH)|fail)
   refine bodyPost_ret (v := .tuple #[.agg (PA (Sb.new k src l m).1 none 0 0), .int .u8 (Sb.new k src l m).2]) (zdn Tryz.results19 rfl (by rw [HN.out];exact PB.load BH) (by rw [HN.out];rfl)) rfl ⟨rfl,OH.bel U0.out (by omega)⟩
 have c0:=BC.out.at 0 _ rfl
 have c1:=BC.out.at 1 _ rfl
 go_wp2_with fail
 refine (k2.out _).mono ?_
 rintro e w2 ⟨rfl,hb2⟩
 replace U0:=H9 (U0.out.later hb2)
 replace B1:=H9 (B1.out.later hb2)
 have HN:Hid (Sb.new k src l m=(if (Jb.new l m).2=0 then { Sb.Pt.zero with codec:=k,src:=src,mrk:=true,jt:=(Jb.new l m).1,seed:=src } else Sb.Pt.zero,(Jb.new l m).2)):=H9 (by
  unfold Sb.new Jb.new
  rw [← HV.out,if_neg (by decide)]
  by_cases hc:Jb.cfg l m
  · rw [if_pos hc,if_pos hc];rfl
  · rw [if_neg hc,if_neg hc];rfl)
 have hus:=U0.out.size
 clear hb2 c0 c1
 unfold JV
 generalize Jb.new l m=R at *
 obtain ⟨R1,R2⟩:=R
 simp only at HN
 have BJ:=H9 (Blk.new w2 40 (JW R1 none 0 0).toArray)
 obtain ⟨g1,hg1⟩:∃ g,g=w2.heap.size:=⟨_,rfl⟩
 obtain ⟨W3,hW3⟩:∃ W,W=w2.alloc (.cells (JW R1 none 0 0).toArray 40):=⟨_,rfl⟩
 have BB:=H9 (show Below w2.heap.size w2 W3 by rw [hW3];exact (Below.refl _ _).alloc (Nat.le_refl _) _)
 rw [← hg1,← hW3] at BJ
 go_upto_region 4 with fail
 rw [← hg1]
 change Code.wp _ _ _ _ (w2.alloc (Obj.cells (JW R1 none 0 0).toArray 40))
 rw [← hW3]
 replace U0:=H9 (U0.out.later BB.out)
 replace B1:=H9 (B1.out.later BB.out)
 clear hW3 hg1 BB
 by_cases hr:R2=0
 rotate_left
 · replace HN:=H9 (HN.out.trans (by rw [if_neg hr]))
   go_wp2_with (first|(refine zac rfl 48 (.tmp 6) (.tmp 21) rfl (w.heap.size+1) 0 rfl 48 (PL Sb.Pt.zero none 0 0) B1.out (PL Sb.Pt.zero none 0 0) rfl zah (show 0+48≤48 by decide) rfl (PL Sb.Pt.zero none 0 0) rfl ?_;intro WH BH OH)|fail)
   refine bodyPost_ret (v := .tuple #[.agg (PA (Sb.new k src l m).1 none 0 0), .int .u8 (Sb.new k src l m).2]) (zdn Tryz.results19 rfl (by rw [HN.out];exact PB.load BH) (by rw [HN.out];rfl)) rfl ⟨rfl,OH.bel U0.out (by omega)⟩
 subst hr
 replace HN:=H9 (HN.out.trans (by rw [if_pos rfl]))
 go_wp2_with (first|(refine zab rfl 40 (.tmp 8) rfl (g1) 0 rfl 40 (JW R1 none 0 0) BJ.out 14 _ Tryz.underlying40 zaw (show 0+14≤14 by decide) (#[.int .i64 R1.least, .int .i64 R1.most, .int .i64 R1.now, .bool R1.on, .int .i64 R1.zero, .int .i64 R1.first, .int .i64 R1.high, .int .i64 R1.done, .int .i64 R1.spread, .int .i64 R1.trans, .slice none 0 0, .int .i64 R1.late, .int .i64 R1.twice, .int .i64 R1.played]) (by rfl) rfl ?_)|(refine zac rfl 48 (.tmp 6) (.tmp 27) rfl (w.heap.size+1) 0 rfl 48 (PL Sb.Pt.zero none 0 0) B1.out (PL { Sb.Pt.zero with codec:=k,src:=src,mrk:=true,jt:=R1,seed:=src } none 0 0) rfl zah (show 0+48≤48 by decide) rfl (PL { Sb.Pt.zero with codec:=k,src:=src,mrk:=true,jt:=R1,seed:=src } none 0 0) rfl ?_;intro WH BH OH)|fail)
 refine bodyPost_ret (v := .tuple #[.agg (PA (Sb.new k src l m).1 none 0 0), .int .u8 (Sb.new k src l m).2]) (zdn Tryz.results19 rfl (by rw [HN.out];exact PB.load BH) (by rw [HN.out];rfl)) rfl ⟨rfl,OH.bel U0.out (by omega)⟩
theorem zsy {W:World} {n bc:Nat} {KA B:Option Addr} (h:Pks W n KA [⟨lvk,B,bc⟩]):∃ b o,KA=some ⟨b,o,none⟩∧b<n∧W.cell? ⟨b,o,none⟩=some (.bool true)∧W.cell? ⟨b,o+1,none⟩=some (.int .u8 0)∧W.cell? ⟨b,o+2,none⟩=some (.int .u16 0)∧W.cell? ⟨b,o+3,none⟩=some (.int .u32 0)∧W.cell? ⟨b,o+4,none⟩=some (.int .u32 7)∧W.cell? ⟨b,o+5,none⟩=some (.slice none 0 0)∧W.cell? ⟨b,o+6,none⟩=some (.bool false)∧W.cell? ⟨b,o+7,none⟩=some (.int .u16 0)∧W.cell? ⟨b,o+8,none⟩=some (.slice none 0 0)∧W.cell? ⟨b,o+9,none⟩=some (.slice B 160 bc)∧W.cell? ⟨b,o+10,none⟩=some (.int .i64 0):=by
 obtain ⟨b,o,e,hlt,hc⟩:=h.1 (by simp)
 have c:=fun j v hv=>hc 0 ⟨lvk,B,bc⟩ rfl j v hv
 simp only [Nat.zero_mul,Nat.add_zero] at c
 have c9:=c 9 (.slice B (Sb.flatL 206).length bc) rfl
 rw [Sb.flatL_len] at c9
 exact ⟨b,o,e,hlt,c 0 _ rfl,c 1 _ rfl,c 2 _ rfl,c 3 _ rfl,c 4 _ rfl,c 5 _ rfl,c 6 _ rfl,c 7 _ rfl,c 8 _ rfl,c9,c 10 _ rfl⟩
theorem zsz {W:World} {n:Nat} {B:Option Addr} (h:IntsAt W n .u8 B (Sb.flatL 206)):∃ b o,B=some ⟨b,o,none⟩∧W.cell? ⟨b,o+159,none⟩=some (.int .u8 206):=by
 obtain ⟨b,o,e,hlt,hc⟩:=h (by rw [Sb.flatL_len];omega)
 have c:=hc 159 (by rw [Sb.flatL_len];omega)
 have e2:(Sb.flatL 206).getD 159 0=206:=by decide +kernel
 rw [e2] at c
 exact ⟨b,o,e,c⟩
theorem Sds.one {W:World} {g c:Nat} {at_:Int} {S:Option Addr} {zs:List Int} (hb:Blk W g 86 #[.int .i64 at_, .slice S zs.length c, .slice none 0 0]) (hI:IntsAt W W.heap.size .i16 S zs):Sds W W.heap.size (some ⟨g,0,none⟩) [⟨⟨at_,zs,[]⟩,S,c⟩]:=by
 refine ⟨fun _=>⟨g,0,rfl,hb.lt,fun i a ha j v hv => ?_⟩,fun a ha => ?_⟩
 · obtain ⟨hi,rfl⟩:i=0∧(⟨⟨at_,zs,[]⟩,S,c⟩:TS)=a:=by
    cases i with
    | zero=>exact ⟨rfl,by simpa using ha⟩
    | succ i=>simp at ha
   subst hi
   have h2:j<3:=(List.getElem?_eq_some_iff.1 hv).1
   have:=hb.at j v (by simpa [TS.row] using hv)
   simpa using this
 · obtain rfl:=List.mem_singleton.1 ha
   exact hI
theorem zns (V:World) (ZA:Option Addr) (zc:Nat) (hZ:IntsAt V V.heap.size .i16 ZA (Sb.flatL 1000)):Calls Tryz.prog 23 #[.agg (PA Sb.lv0 none 0 0), .slice ZA 160 zc] V (SendR (Sb.send0 Sb.lv0 (Sb.flatL 1000)) V) :=
 zsx (l:=[]) ⟨Sb.lv_wf,Sb.jb40.2.1.symm,rfl,Nat.zero_le _,Nat.le_refl _,Nat.zero_le _,Wts.nil,(fun _ h=>by cases h),(fun _ h=>by cases h),hZ,(Sb.flatL_in (by omega) (by omega)),(Sb.flatL_len _),Sb.lv_valid⟩ rfl rfl rfl
theorem zwv:Sb.chkT Sb.lv0 100=0:=by
 unfold Sb.chkT
 rw [Sb.lv_valid,if_neg (by decide),if_neg (by decide)]
theorem zvp:Sb.chkT Sb.lv1 140=0:=by
 unfold Sb.chkT
 rw [Sb.lv1_valid,if_neg (by decide),if_neg (by decide)]
theorem znt (V:World) (B:Option Addr) (bc:Nat) (hI:IntsAt V V.heap.size .u8 B (Sb.flatL 206)):Calls Tryz.prog 11 #[.agg (PA Sb.lv0 none 0 0), .int .i64 100, .agg #[.bool true, .int .u8 0, .int .u16 0, .int .u32 0, .int .u32 7, .slice none 0 0, .bool false, .int .u16 0, .slice none 0 0, .slice B 160 bc, .int .i64 0]] V (RecvR (Sb.lv1,1,[]) V):=by
 have h:=zrx Sb.lv0 Sb.lv_wf none [] 0 0 (PA Sb.lv0 none 0 0) rfl V Sb.jb40.2.1.symm rfl (Nat.zero_le _) (Nat.le_refl _) (Nat.zero_le _) Wts.nil (fun _ h=>by cases h) 100 true 0 0 0 7 none 0 0 false 0 none 0 0 B (Sb.flatL 206) bc 0 (by omega) (by omega) (by decide) (by omega) (by omega) (by omega) (by omega) (by rw [Sb.flatL_len];omega) hI (by omega) zwv (fun a h=>by have e:Sb.lv0.jt.q=[]:=Sb.jb40.2.1;rw [e] at h;cases h) rfl ⟨true,0, -1⟩ 0 Sb.lv_follow ⟨40,200,100,true,140,0,0, -1,0,100,[⟨140,Sb.lvm⟩],0,0,0⟩ [] 1 (Prod.ext Sb.lv_put.1 Sb.lv_put.2)
 rw [Sb.flatL_len] at h
 exact h
theorem znu (V:World) (A:Option Addr) (l:List TW) (n c:Nat) (hq:l.map TW.w=Sb.lv1.jt.q) (hn:l.length=n) (hcap:n≤c) (hcm:c≤maxLen) (hA:Wts V V.heap.size A l):Calls Tryz.prog 15 #[.agg (PA Sb.lv1 A n c), .int .i64 140] V (PlayV Sb.lv1 140 V):=by
 have hl:n≤100000:=by
  have h:=congrArg List.length hq
  have e:Sb.lv1.jt.q.length=1:=rfl
  rw [e,List.length_map] at h
  omega
 have hm:∀ a∈l,a.w=⟨140,Sb.lvm⟩:=fun a ha=>by
  have h:a.w∈l.map TW.w:=List.mem_map_of_mem ha
  rw [hq] at h
  exact List.mem_singleton.1 h
 refine zrg Sb.lv1 Sb.lv1_wf A l n c (PA Sb.lv1 A n c) rfl V hq hn hl hcap hcm hA (fun a ha=>by rw [hm a ha];unfold I64;decide) 140 zvp (fun a ha => ?_)
 obtain rfl:=List.mem_singleton.1 ha
 refine ⟨by decide,by decide,?_,by show (Sb.flatL 206).length≤8000;rw [Sb.flatL_len];omega⟩
 intro z hz
 obtain rfl:=List.eq_of_mem_replicate hz
 decide
theorem zjc (w:World):Calls Tryz.prog 7 #[] w fun e w'=>e = .returned (.bool true)∧Below w.heap.size w w':=by
 have kN:=H9 fun W=>zvo 0 7 40 200 (by omega) (by omega) W
 unfold NewP at kN
 rw [Sb.lv_new] at kN
 dsimp only at kN
 go_enter Tryz.func7,Tryz.ntmps7
 go_wp2_with fail
 refine (zng _).mono ?_
 rintro e w1 ⟨rfl,hb1⟩
 go_wp2_with fail
 refine (kN.out _).mono ?_
 rintro e w2 ⟨rfl,hb2⟩
 have U2:=H9 (Bel.later (Bel.later (Bel.refl w) hb1) hb2)
 clear hb1 hb2
 have BZ:Blk (w2.alloc (Obj.cells #[.int .u8 0, .int .u32 0, .int .u16 0, .int .u32 0, .bool false, .int .i64 0, .int .i64 0, .int .i64 0, .bool false, .int .u8 0, .int .u8 0, .int .u32 0, .int .i64 0, .int .i64 0, .int .i64 0, .int .i64 0, .int .i64 0, .bool false, .int .i64 0, .int .i64 0, .int .i64 0, .int .i64 0, .int .i64 0, .int .i64 0, .slice none 0 0, .int .i64 0, .int .i64 0, .int .i64 0, .bool false, .int .i64 0, .int .i64 0, .int .i64 0, .bool false, .int .i64 0, .int .i64 0, .int .i64 0, .int .i64 0, .int .i64 0, .int .i64 0, .int .i64 0, .bool false, .int .u32 0, .int .u8 0, .int .i64 0, .bool false, .int .u32 0, .int .u32 0, .int .u32 0] 48)) w2.heap.size 48 (PL Sb.Pt.zero none 0 0).toArray:=Blk.new _ _ _
 have hs2:=U2.out.size
 go_upto_region 2 with (first|(refine zac rfl 48 (.tmp 1) (.tmp 16) rfl (w2.heap.size) 0 rfl 48 (PL Sb.Pt.zero none 0 0) BZ (PL Sb.lv0 none 0 0) rfl zah (show 0+48≤48 by decide) rfl (PL Sb.lv0 none 0 0) rfl ?_;intro WA BA OA)|fail)
 have UA:=H9 (OA.bel (U2.out.push (Obj.cells #[.int .u8 0, .int .u32 0, .int .u16 0, .int .u32 0, .bool false, .int .i64 0, .int .i64 0, .int .i64 0, .bool false, .int .u8 0, .int .u8 0, .int .u32 0, .int .i64 0, .int .i64 0, .int .i64 0, .int .i64 0, .int .i64 0, .bool false, .int .i64 0, .int .i64 0, .int .i64 0, .int .i64 0, .int .i64 0, .int .i64 0, .slice none 0 0, .int .i64 0, .int .i64 0, .int .i64 0, .bool false, .int .i64 0, .int .i64 0, .int .i64 0, .bool false, .int .i64 0, .int .i64 0, .int .i64 0, .int .i64 0, .int .i64 0, .int .i64 0, .int .i64 0, .bool false, .int .u32 0, .int .u8 0, .int .i64 0, .bool false, .int .u32 0, .int .u32 0, .int .u32 0] 48)) hs2)
 have HBA:=H9 BA
 obtain ⟨g1,hg1⟩:∃ g,g=w2.heap.size:=⟨_,rfl⟩
 rw [← hg1] at HBA ⊢
 clear BZ BA OA hg1 U2 hs2
 try simp only [Act.put]
 refine zwh g1 WA HBA.out zns (fun _ _ _ _ _ h=>h) ?_
 intro wx g3 KA kc B bc A2 n2 c2 u18 u19 u20 u21 u22 u23 u24 HQ HP HB
 replace UA:=H9 (UA.out.later HB.out)
 replace HBA:=H9 (PB.later HBA.out HB.out)
 obtain ⟨bK,oK,rfl,hlK,x0,x1,x2,x3,x4,x5,x6,x7,x8,x9,x10⟩:=zsy HP.out
 obtain ⟨bP,oP,rfl,y159⟩:=zsz (HP.out.2 _ (List.mem_singleton.2 rfl))
 have q3:=HQ.out.cell 3 _ rfl
 rw [Sb.lv_send.2] at q3
 have HI:=H9 (show IntsAt wx wx.heap.size .u8 (some ⟨bP,oP,none⟩) (Sb.flatL 206) from HP.out.2 _ (List.mem_singleton.2 rfl))
 clear HP HB
 go_upto_region 5 with fail
 clear q3 y159
 refine zwi g1 bK oK kc (some ⟨bP,oP,none⟩) bc wx HBA.out x0 x1 x2 x3 x4 x5 x6 x7 x8 x9 x10 HI.out (fun V hV=>znt V _ bc hV) (fun _ _ _ _ _ h=>h) ?_
 intro wy g6 SA sc A3 n3 c3 l3 u72 u73 u74 u75 u76 u77 u78 u79 u80 u81 HQ6 HQL hn3 hc3 hm3 HW HB
 replace UA:=H9 (UA.out.later HB.out)
 clear x0 x1 x2 x3 x4 x5 x6 x7 x8 x9 x10 HI HB HBA HQ
 go_wp2_with (first|(refine zab rfl 48 (.tmp 6) rfl (g6) 0 rfl 48 (PL Sb.lv1 A3 n3 c3) HQ6.out 48 _ Tryz.underlying48 zah (show 0+48≤48 by decide) (PA Sb.lv1 A3 n3 c3) (by rfl) rfl ?_)|fail)
 refine (znu _ A3 l3 n3 c3 HQL.out hn3 hc3 hm3 HW.out).mono ?_
 rintro e w9 ⟨A4,n4,c4,l4,SA2,sc2,m,ls,base,rfl,e1,e2,e3,e4,e5,hls,e7,hso,hb9⟩
 rw [Sb.lv_run] at hls
 obtain rfl:m=1:=by have h1:=congrArg List.length hls;have h2:=hso.len;simp at h1;omega
 have HLS:=H9 hls
 have HSD:=H9 hso.sds
 replace UA:=H9 (UA.out.later hb9)
 clear hls hso hb9 e1 e2 e3 e4 e5 e7 HQL HW hn3 hc3 hm3
 have BZ:Blk (w9.alloc (Obj.cells #[.int .u8 0, .int .u32 0, .int .u16 0, .int .u32 0, .bool false, .int .i64 0, .int .i64 0, .int .i64 0, .bool false, .int .u8 0, .int .u8 0, .int .u32 0, .int .i64 0, .int .i64 0, .int .i64 0, .int .i64 0, .int .i64 0, .bool false, .int .i64 0, .int .i64 0, .int .i64 0, .int .i64 0, .int .i64 0, .int .i64 0, .slice none 0 0, .int .i64 0, .int .i64 0, .int .i64 0, .bool false, .int .i64 0, .int .i64 0, .int .i64 0, .bool false, .int .i64 0, .int .i64 0, .int .i64 0, .int .i64 0, .int .i64 0, .int .i64 0, .int .i64 0, .bool false, .int .u32 0, .int .u8 0, .int .i64 0, .bool false, .int .u32 0, .int .u32 0, .int .u32 0] 48)) w9.heap.size 48 (PL Sb.Pt.zero none 0 0).toArray:=Blk.new _ _ _
 have hs2:=UA.out.size
 obtain ⟨q9,hq9⟩:∃ q,q=(Sb.run Sb.lv1 140).1:=⟨_,rfl⟩
 rw [← hq9]
 clear hq9
 go_upto_region 7 with (first|(refine zac rfl 48 (.tmp 10) (.tmp 85) rfl (w9.heap.size) 0 rfl 48 (PL Sb.Pt.zero none 0 0) BZ (PL q9 A4 n4 c4) rfl zah (show 0+48≤48 by decide) rfl (PL q9 A4 n4 c4) rfl ?_;intro WC BC OC)|fail)
 replace UA:=H9 (OC.bel (UA.out.push (Obj.cells #[.int .u8 0, .int .u32 0, .int .u16 0, .int .u32 0, .bool false, .int .i64 0, .int .i64 0, .int .i64 0, .bool false, .int .u8 0, .int .u8 0, .int .u32 0, .int .i64 0, .int .i64 0, .int .i64 0, .int .i64 0, .int .i64 0, .bool false, .int .i64 0, .int .i64 0, .int .i64 0, .int .i64 0, .int .i64 0, .int .i64 0, .slice none 0 0, .int .i64 0, .int .i64 0, .int .i64 0, .bool false, .int .i64 0, .int .i64 0, .int .i64 0, .bool false, .int .i64 0, .int .i64 0, .int .i64 0, .int .i64 0, .int .i64 0, .int .i64 0, .int .i64 0, .bool false, .int .u32 0, .int .u8 0, .int .i64 0, .bool false, .int .u32 0, .int .u32 0, .int .u32 0] 48)) hs2)
 have hszC:w9.heap.size≤WC.heap.size:=by rw [OC.2];simp
 replace HSD:=H9 ((HSD.out.keep (w':=WC) (fun p hp=>(OC.cell (show p.block≠w9.heap.size by omega)).trans (World.cell?_alloc_lt _ _ p hp))).more hszC)
 clear BZ BC OC hs2 hszC
 go_wp2_with fail
 refine (zhq 988 _).mono ?_
 rintro e wz ⟨FA,fc,rfl,hI,hbz⟩
 replace UA:=H9 (UA.out.later hbz)
 replace HSD:=H9 ((HSD.out.later hbz).push (.cells #[.int .i64 140, .slice FA 160 fc, .slice none 0 0] 86))
 have HI:=H9 (hI.1.push (.cells #[.int .i64 140, .slice FA 160 fc, .slice none 0 0] 86))
 have HSB:=H9 (Sds.one (at_:=140) (S:=FA) (zs:=Sb.flatL 988) (c:=fc) (by rw [Sb.flatL_len];exact Blk.new wz 86 #[.int .i64 140, .slice FA 160 fc, .slice none 0 0]) HI.out)
 replace UA:=H9 (UA.out.push (.cells #[.int .i64 140, .slice FA 160 fc, .slice none 0 0] 86))
 clear hI hbz HI
 go_wp2_with fail
 refine (znr SA2 (some ⟨wz.heap.size,0,none⟩) ls [⟨⟨140,Sb.flatL 988,[]⟩,FA,fc⟩] 1 sc2 1 (by have h1:=congrArg List.length HLS.out;simpa using h1) (by omega) HLS.out (fun a ha => ?_) _ HSD.out HSB.out).mono ?_
 · have h1:a.s∈ls.map TS.s:=List.mem_map_of_mem ha
   rw [HLS.out] at h1
   rw [List.mem_singleton.1 h1]
   show (Sb.flatL 988).length≤_
   rw [Sb.flatL_len];omega
 rintro e wv ⟨rfl,hbv⟩
 have UF:=UA.out.later hbv
 go_wp2_with fail
 go_ret
 exact ⟨rfl,UF⟩
end Go.Proofs.YtahbecinkciahaaGreat
namespace Go.Proofs.YtahbecinkciahaaGreat
open Go.RowKit
theorem znv (n:Int) (A:Option Addr) (len cap:Nat) (w:World) (h1:(n != 1)=true) (h2:(n != 2)=true) :
 Calls Tryz.prog 90 #[.int .u8 n, .slice A len cap] w fun e w'=>e = .returned (.tuple #[.slice none 0 0, .int .u8 2])∧w=w':=by
 go_enter Tryz.func90,Tryz.ntmps90
 go_wp2
 go_ret2
 exact ⟨rfl,rfl⟩
theorem zeq (n:Int) (A:Option Addr) (len cap:Nat) (w:World) (hn:n=1∨n=2) (h:8000<(len:Int)) :
 Calls Tryz.prog 90 #[.int .u8 n, .slice A len cap] w fun e w'=>e = .returned (.tuple #[.slice none 0 0, .int .u8 4])∧w=w':=by
 rcases hn with rfl|rfl
 all_goals
  go_enter Tryz.func90,Tryz.ntmps90
  go_wp2
  go_ret2
  exact ⟨rfl,rfl⟩
theorem zdw (f:Int→Int) (zs:List Int) (k:Nat) (h:k<zs.length):(zs.take (k+1)).map f=(zs.take k).map f ++ [f (zs.getD k 0)]:=by
 rw [List.take_succ_eq_append_getElem h,List.map_append,List.getD_eq_getElem?_getD,List.getElem?_eq_getElem h]
 rfl
theorem zqk (x:Int) (w:World) (h0:0≤x) (h1:x≤255) :
 Calls Tryz.prog 134 #[.int .u8 x] w fun e w'=>e = .returned (.int .i16 (Cmp.fromMuZ x))∧w=w':=by
 obtain ⟨n,rfl⟩:=Int.eq_ofNat_of_zero_le h0
 exact zjn n w (by omega)
theorem zta (x:Int) (w:World) (h0:0≤x) (h1:x≤255) :
 Calls Tryz.prog 135 #[.int .u8 x] w fun e w'=>e = .returned (.int .i16 (Cmp.fromAZ x))∧w=w':=by
 obtain ⟨n,rfl⟩:=Int.eq_ofNat_of_zero_le h0
 exact zmu n w (by omega)
def expMu (x:Int):Int:=((Cmp.expo (Cmp.magMu x):Nat):Int)
def expA (x:Int):Int:=((Cmp.expo (Cmp.magA x):Nat):Int)
def packOut (n:Int) (zs:List Int):List Int:=if n=1∧zs.length≤8000 then zs.map Cmp.muZ else if n=2∧zs.length≤8000 then zs.map Cmp.aZ else []
def unpackOut (n:Int) (zs:List Int):List Int:=if n=1∧zs.length≤8000 then zs.map Cmp.fromMuZ else if n=2∧zs.length≤8000 then zs.map Cmp.fromAZ else []
def packErr (n:Int) (len:Nat):Int:=if n≠1∧n≠2 then 2 else if 8000<len then 4 else 0
theorem zql (n:Int) (h1:n≠1) (h2:n≠2):(n==1)=false∧(n==2)=false∧(n != 1)=true∧(n != 2)=true:=by simp [h1,h2]
end Go.Proofs.YtahbecinkciahaaGreat
namespace Go.Proofs.YtahbecinkciahaaGreat.Sb
open Go.RowKit
def decE (c:Int) (bs:List Int) (n:Int):List Int×Int :=
 if c=0 then (bs.map Cmp.fromMuZ,0) else if c=8 then (bs.map Cmp.fromAZ,0) else ((Dlt.unpR bs n).1,(Dlt.unpR bs n).2.2.2)
def encE (c v i:Int) (zs:List Int):List Int×(Int×Int)×Int :=
 if c=0 then (zs.map Cmp.muZ,(v,i),0) else if c=8 then (zs.map Cmp.aZ,(v,i),0) else ((Dlt.packR v i zs).1,((Dlt.packR v i zs).2.1,(Dlt.packR v i zs).2.2.1),(Dlt.packR v i zs).2.2.2)
def tran (a b:Int) (bs:List Int) (v i:Int):List Int×(Int×Int)×Int :=
 if speechB a=false∨speechB b=false then ([],(0,0),15) else if a=96∧bs.length<4 then ([],(0,0),6) else
  if (decE a bs (2*((bs.length:Int)-4))).2≠0 then ([],(0,0),(decE a bs (2*((bs.length:Int)-4))).2) else
   if (encE b v i (decE a bs (2*((bs.length:Int)-4))).1).2.2≠0 then ([],(0,0),(encE b v i (decE a bs (2*((bs.length:Int)-4))).1).2.2) else encE b v i (decE a bs (2*((bs.length:Int)-4))).1
def muB (z:Int):Int:=Cmp.muZ (Cmp.fromMuZ z)
end Go.Proofs.YtahbecinkciahaaGreat.Sb
namespace Go.Proofs.YtahbecinkciahaaGreat
attribute [local go_sem ↓] zae zaf
attribute [local go_sem] zad zag
open Go.RowKit
theorem zdi (k:Int) (w:World):Calls Tryz.prog 37 #[.int .u8 k] w fun e w'=>e = .returned (.bool (speechB k))∧Below w.heap.size w w':=by
 by_cases h0:k=0
 · subst h0
   go_enter Tryz.func37,Tryz.ntmps37
   go_wp2_with fail
   go_ret
   exact ⟨rfl,Below.refl _ _⟩
 by_cases h8:k=8
 · subst h8
   go_enter Tryz.func37,Tryz.ntmps37
   go_wp2_with fail
   go_ret
   exact ⟨rfl,Below.refl _ _⟩
 by_cases h96:k=96
 · subst h96
   go_enter Tryz.func37,Tryz.ntmps37
   go_wp2_with fail
   go_ret
   exact ⟨rfl,Below.refl _ _⟩
 rw [zdm (by omega)]
 go_enter Tryz.func37,Tryz.ntmps37
 go_wp2_with fail
 go_ret
 exact ⟨by first|rfl|simp [h0,h8,h96],Below.refl _ _⟩
theorem zml (k:Int) (w:World):Calls Tryz.prog 88 #[.int .u8 k] w fun e w'=>e = .returned (.int .u8 (if k=0 then 1 else 2))∧Below w.heap.size w w':=by
 by_cases h0:k=0
 · subst h0
   go_enter Tryz.func88,Tryz.ntmps88
   go_wp2_with fail
   go_ret
   exact ⟨rfl,Below.refl _ _⟩
 rw [if_neg h0]
 go_enter Tryz.func88,Tryz.ntmps88
 go_wp2_with fail
 go_ret
 exact ⟨rfl,Below.refl _ _⟩
def RDecR (d:List Int×Int) (w:World) (e:Ending) (w':World):Prop:=∃ (A':Option Addr) (c':Nat),e = .returned (.tuple #[.slice A' d.1.length c', .int .u8 d.2])∧IntsAt w' w'.heap.size .i16 A' d.1∧Below w.heap.size w w'
def REncR (d:List Int×(Int×Int)×Int) (w:World) (e:Ending) (w':World):Prop:=∃ (A':Option Addr) (c':Nat),e = .returned (.tuple #[.slice A' d.1.length c', .agg #[.int .i64 d.2.1.1, .int .i64 d.2.1.2], .int .u8 d.2.2])∧IntsAt w' w'.heap.size .u8 A' d.1∧Below w.heap.size w w'
end Go.Proofs.YtahbecinkciahaaGreat
namespace Go.Proofs.YtahbecinkciahaaGreat
open Go.RowKit
theorem ztb (q:List Jb.Wt) (w:Jb.Wt):(Jb.ins q w).length=q.length+1:=by
 have h:=congrArg List.length (List.takeWhile_append_dropWhile (p:=fun x=>decide (Jb.bef x w)) (l:=q))
 unfold Jb.ins
 simp only [List.length_append,List.length_cons] at h ⊢
 omega
theorem ztc (k:Int) (pl:List Int) (h:pl.length≤8000):(Sb.decS k pl).length≤8000:=by
 unfold Sb.decS
 repeat' split
 · simpa using h
 · simpa using h
 · rw [Dlt.unpackL_len];decide
 · exact Nat.zero_le _
 · exact Nat.zero_le _
theorem ztd (k:Int) (pl:List Int) (s:Int) (h:pl.length≤8000):(Sb.dec k pl s).1.length≤8000:=by
 unfold Sb.dec
 split
 · split
   · unfold Ev.noise
     rw [if_neg (by decide)]
     simp
   · exact Nat.zero_le _
 · exact ztc k pl h
theorem zct:∀ (l:List Jb.Wt) (s:Int),(∀ a∈l,OkW a)→(Sb.sounds s l).2.length=l.length∧∀ a∈(Sb.sounds s l).2,a.zs.length≤8000∧a.ks.length≤100
 | [],s,_=>⟨rfl,fun _ h=>by cases h⟩
 | b :: l, s, h => by
   obtain ⟨h1,h2⟩:=zct l (Sb.dec b.m.ty b.m.pl s).2 (fun a ha=>h a (List.mem_cons_of_mem _ ha))
   refine ⟨by show (_::_).length=_;rw [List.length_cons,h1,List.length_cons],fun a ha => ?_⟩
   have ha:a∈_::_:=ha
   rcases List.mem_cons.1 ha with rfl|ha
   · exact ⟨ztd _ _ _ (h b (by simp)).len,Nat.zero_le _⟩
   · exact h2 a ha
def Small (q:Sb.Pt) (sd:List Sb.Sd):Prop:=q.jt.q.length≤1000000∧sd.length≤1000000∧∀ a∈sd,a.zs.length≤140737488355328∧a.ks.length≤140737488355328
theorem zww {s:Jb.Jt} (hq:s.q.length≤100000) (hO:∀ a∈s.q,OkW a) (now:Int):(Jb.run s now).1.q.length≤100000∧(Jb.run s now).2.1.length≤100000∧∀ a∈(Jb.run s now).2.1,OkW a:=by
 unfold Jb.run
 split
 · exact ⟨Nat.le_trans (List.dropWhile_sublist _).length_le hq,Nat.le_trans (List.takeWhile_sublist _).length_le hq,zce hO⟩
 · exact ⟨Nat.zero_le _,Nat.zero_le _,fun _ h=>by cases h⟩
theorem zjd {p:Sb.Pt} (hq:p.jt.q.length≤100000) (hO:∀ a∈p.jt.q,OkW a) (now:Int):(Sb.run p now).1.jt.q.length≤100000∧(Sb.run p now).2.length≤100000∧∀ a∈(Sb.run p now).2,a.zs.length≤8000∧a.ks.length≤100:=by
 obtain ⟨h1,h2,h3⟩:=zww hq hO now
 obtain ⟨h4,h5⟩:=zct (Jb.run p.jt now).2.1 p.seed h3
 exact ⟨h1,by show (Sb.sounds _ _).2.length≤_;rw [h4];exact h2,h5⟩
theorem zwx {s:Jb.Jt} (hq:s.q.length≤100000) (hO:∀ a∈s.q,OkW a) (now:Int) (m:Jb.Md):(Jb.put s now m).1.q.length≤100001∧(Jb.put s now m).2.1.length≤100000∧∀ a∈(Jb.put s now m).2.1,OkW a:=by
 unfold Jb.put
 split
 · refine ⟨?_,Nat.le_trans (List.takeWhile_sublist _).length_le hq,zce hO⟩
   have hr:(Jb.run0 s now).q.length≤100000:=Nat.le_trans (List.dropWhile_sublist _).length_le hq
   show (Jb.put0 (Jb.run0 s now) m).1.q.length≤100001
   unfold Jb.put0
   dsimp only
   repeat' split
   all_goals first
    | (show (Jb.run0 s now).q.length≤100001;omega)
    | (show (Jb.ins (Jb.run0 s now).q _).length≤100001;rw [ztb];omega)
 · exact ⟨Nat.zero_le _,Nat.zero_le _,fun _ h=>by cases h⟩
theorem zte (r:Ev.Rcv) (t:Int) (T:Ev.Tone):(Ev.hear r t T).2.length≤100:=by
 unfold Ev.hear
 repeat' split
 all_goals simp
theorem zcl {q:Sb.Pt} {sd:List Sb.Sd} (h:q.jt.q.length≤100001∧sd.length≤100001∧∀ a∈sd,a.zs.length≤8000∧a.ks.length≤100):Small q sd:=⟨by have:=h.1;omega,by have:=h.2.1;omega,fun a ha=>by have:=h.2.2 a ha;omega⟩
theorem znw {p:Sb.Pt} (hq:p.jt.q.length≤100000) (hO:∀ a∈p.jt.q,OkW a) (now:Int):Small (Sb.play p now).1 (Sb.play p now).2.1:=by
 unfold Sb.play
 split
 · obtain ⟨h1,h2,h3⟩:=zjd hq hO now
   exact zcl ⟨by dsimp only;omega,by dsimp only;omega,h3⟩
 · exact zcl ⟨Nat.zero_le _,Nat.zero_le _,fun _ h=>by cases h⟩
theorem znx {p:Sb.Pt} (hq:p.jt.q.length≤100000) (hO:∀ a∈p.jt.q,OkW a) (now:Int) (x:Sb.Arr):Small (Sb.recv p now x).1 (Sb.recv p now x).2.2.1:=by
 have hz:Small Sb.Pt.zero []:=zcl ⟨Nat.zero_le _,Nat.zero_le _,fun _ h=>by cases h⟩
 unfold Sb.recv
 split
 · exact hz
 split
 · exact hz
 show Small (Sb.recv0 p now x).1 (Sb.recv0 p now x).2.2
 unfold Sb.recv0
 dsimp only
 have hr:∀ q:Sb.Pt,q.jt=p.jt→(Sb.run q now).1.jt.q.length≤100000∧(Sb.run q now).2.length≤100000∧∀ a∈(Sb.run q now).2,a.zs.length≤8000∧a.ks.length≤100:=fun q hj=>zjd (by rw [hj];exact hq) (by rw [hj];exact hO) now
 split
 · obtain ⟨h1,h2,h3⟩:=hr p rfl
   exact zcl ⟨by dsimp only;omega,by dsimp only;omega,h3⟩
 split
 · obtain ⟨h1,h2,h3⟩:=hr { p with tk:=(Pk.follow p.tk x.sq).1 } rfl
   exact zcl ⟨by dsimp only;omega,by dsimp only;omega,h3⟩
 split
 · obtain ⟨h1,h2,h3⟩:=hr { p with tk:=(Pk.follow p.tk x.sq).1 } rfl
   refine zcl ⟨by dsimp only;omega,?_,fun a ha => ?_⟩
   · dsimp only
     rw [List.length_append]
     split<;>simp<;>omega
   · rcases List.mem_append.1 ha with ha|ha
     · exact h3 a ha
     · split at ha
       · cases ha
       · obtain rfl:=List.mem_singleton.1 ha
         exact ⟨Nat.zero_le _,zte _ _ _⟩
 · obtain ⟨h1,h2,h3⟩:=zwx hq hO now ⟨(Pk.follow p.tk x.sq).2.1,Sb.time p x,x.mrk,x.ty,x.pl⟩
   obtain ⟨h4,h5⟩:=zct _ p.seed h3
   exact zcl ⟨h1,by dsimp only;rw [h4];omega,h5⟩
theorem zje {p:Sb.Pt} (hq:p.jt.q.length≤100000) (so la de:Int):(Sb.report p so la de).2.1.jt.q.length≤1000000:=by
 unfold Sb.report
 split
 · exact Nat.zero_le _
 · show p.jt.q.length≤1000000;omega
end Go.Proofs.YtahbecinkciahaaGreat
namespace Go.Proofs.YtahbecinkciahaaGreat
attribute [local go_sem ↓] zae zaf
attribute [local go_sem] zad zag
open Go.RowKit
theorem zny (le mo nw:Int) (on:Bool) (ze fi hi dn sp tr:Int) (A:Option Addr) (l:List TW) (n qc:Nat) (la tw pd:Int) (w:World) (hn:l.length=n) (hl:n≤100000) (hA:Wts w w.heap.size A l) (hP:∀ a∈l,a.w.m.pl.length≤1000000000) (v:Bool) (hv:v=decide (Jb.okQ nw hi (l.map TW.w))):Calls Tryz.prog 128 #[.agg #[.int .i64 le, .int .i64 mo, .int .i64 nw, .bool on, .int .i64 ze, .int .i64 fi, .int .i64 hi, .int .i64 dn, .int .i64 sp, .int .i64 tr, .slice A n qc, .int .i64 la, .int .i64 tw, .int .i64 pd]] w fun e w'=>e = .returned (.bool v)∧Below w.heap.size w w':=by
 subst hn
 have HA:=H9 hA
 have HP:=H9 hP
 have HV:=H9 hv
 clear hA hP hv
 by_cases h200:l.length≤200
 rotate_left
 · have hv:v=false:=by rw [HV.out,decide_eq_false_iff_not];intro h;exact h200 (by simpa using h.1)
   subst hv
   have h201:(200:Int)<(l.length:Int):=by omega
   go_enter Tryz.func128,Tryz.ntmps128
   go_wp2_with fail
   go_ret
   exact ⟨by first|rfl|simp,(Below.refl _ _).alloc (Nat.le_refl _) _⟩
 have h201:(l.length:Int)≤(200:Int):=by omega
 go_enter Tryz.func128,Tryz.ntmps128
 go_wp2_with fail
 go_loopg [3] l.length (fun gk i wr => ∃ k:Nat,gk+k=l.length∧i = .int .i64 k∧Hid (∀ j,j<k→Jb.okAt nw hi (l.map TW.w) j)∧Hid (Blk wr w.heap.size 40 #[.int .i64 le, .int .i64 mo, .int .i64 nw, .bool on, .int .i64 ze, .int .i64 fi, .int .i64 hi, .int .i64 dn, .int .i64 sp, .int .i64 tr, .slice A l.length qc, .int .i64 la, .int .i64 tw, .int .i64 pd])∧Hid (Bel w wr))
 case atStart=>exact ⟨0,rfl,rfl,H9 (fun j h=>absurd h (by omega)),H9 (Blk.new w _ _),H9 ((Bel.refl w).push _)⟩
 case round =>
  obtain ⟨k,hgk,rfl,HT,BS,U⟩:=hrel
  obtain ⟨wo,hwo⟩:∃ W,W=wr:=⟨_,rfl⟩
  subst hwo
  have hi0:(0:Int)≤(k:Int):=by omega
  have hwl:=BS.out.lt
  have p2:=BS.out.at 2 _ rfl
  have p6:=BS.out.at 6 _ rfl
  have p10:=BS.out.at 10 _ rfl
  by_cases hk:k<l.length
  rotate_left
  · obtain rfl:k=l.length:=by omega
    have hi1:(l.length:Int)≤(l.length:Int):=Int.le_refl _
    have hv:v=true:=by rw [HV.out,decide_eq_true_iff];exact ⟨by simpa using h200,fun j hj=>HT.out j (by simpa using hj)⟩
    subst hv
    go_wp2_with fail
    go_ret
    exact ⟨by first|rfl|simp,U.out⟩
  have hi1:(k:Int)<(l.length:Int):=by omega
  obtain ⟨a,ha⟩:∃ a,l[k]? = some a:=⟨_,List.getElem?_eq_getElem hk⟩
  obtain ⟨b,off,rfl,hbB,e0,e1,e2,e3,e4,e5⟩:=zbs (HA.out.1.keep (fun p hp=>U.out.cell hp)) ha
  have hpa:=HP.out a (List.mem_of_getElem? ha)
  have hm:(l.map TW.w)[k]? = some a.w:=by rw [List.getElem?_map,ha];rfl
  have HN:Hid (¬Jb.okAt nw hi (l.map TW.w) k→v=false):=H9 (fun hnot=>by rw [HV.out,decide_eq_false_iff_not];intro h;exact hnot (h.2 k (by simpa using hk)))
  have HO:=H9 (zqd nw hi (l.map TW.w) k a.w hm)
  have HMM:=H9 hm
  obtain ⟨⟨at0,⟨sq0,ti0,mk0,ty0,pl0⟩⟩,B0,c0⟩:=a
  simp only at e0 e1 e2 e3 e4 e5 hpa HO HMM
  obtain ⟨fv,hfv⟩:∃ fv,fv=decide ((0≤sq0∧sq0≤281474976710656)∧(-281474976710656≤ti0∧ti0≤281474976710656)∧pl0.length≤1500):=⟨_,rfl⟩
  have k1:=H9 fun W=>zdh sq0 ti0 mk0 ty0 B0 pl0.length c0 W hpa fv hfv
  have HF:Hid (fv=decide (Jb.Md.ok ⟨sq0,ti0,mk0,ty0,pl0⟩)):=H9 hfv
  clear ha hm hfv
  have BX:=H9 (Blk.new wo 105 #[.int .i64 at0, .int .i64 sq0, .int .i64 ti0, .bool mk0, .int .u8 ty0, .slice B0 pl0.length c0])
  have BS1:=H9 (BS.out.push (.cells #[.int .i64 at0, .int .i64 sq0, .int .i64 ti0, .bool mk0, .int .u8 ty0, .slice B0 pl0.length c0] 105))
  have U1:=H9 (U.out.push (.cells #[.int .i64 at0, .int .i64 sq0, .int .i64 ti0, .bool mk0, .int .u8 ty0, .slice B0 pl0.length c0] 105))
  obtain ⟨wx,hwx⟩:∃ W,W=wo.alloc (.cells #[.int .i64 at0, .int .i64 sq0, .int .i64 ti0, .bool mk0, .int .u8 ty0, .slice B0 pl0.length c0] 105):=⟨_,rfl⟩
  rw [← hwx] at BX BS1 U1
  have HWX:=H9 hwx
  clear hwx
  have hxl:=BX.out.lt
  have hxs:=BS1.out.lt
  have f0:=BX.out.at 0 _ rfl
  have f1:=BX.out.at 1 _ rfl
  have f2:=BX.out.at 2 _ rfl
  have f3:=BX.out.at 3 _ rfl
  have f4:=BX.out.at 4 _ rfl
  have f5:=BX.out.at 5 _ rfl
  have g2:=BS1.out.at 2 _ rfl
  have g6:=BS1.out.at 6 _ rfl
  have g10:=BS1.out.at 10 _ rfl
  have hU:Below wx.heap.size wx wx:=Below.refl _ _
  cases fv
  · have hv:v=false:=HN.out (fun h=>by have h9:=(HO.out.1 h).1;obtain ⟨h1,h2,h3,h4⟩:=h9;have h2':nw<at0:=h2;have h3':at0≤562949953421312:=h3;have h4':sq0≤hi:=h4;have hf:=HF.out;rw [eq_comm,decide_eq_false_iff_not] at hf;exact hf h1)
    subst hv
    go_wp2_with fail
    rw [← HWX.out]
    refine wp_region_held_drew (S:=fun w'=>Below wx.heap.size wx w'∧w'.cell? ⟨wo.heap.size,0,none⟩=some (.int .i64 at0)∧w'.cell? ⟨wo.heap.size,1,none⟩=some (.int .i64 sq0)∧w'.cell? ⟨wo.heap.size,2,none⟩=some (.int .i64 ti0)∧w'.cell? ⟨wo.heap.size,3,none⟩=some (.bool mk0)∧w'.cell? ⟨wo.heap.size,4,none⟩=some (.int .u8 ty0)∧w'.cell? ⟨wo.heap.size,5,none⟩=some (.slice B0 pl0.length c0)∧w'.cell? ⟨w.heap.size,2,none⟩=some (.int .i64 nw)∧w'.cell? ⟨w.heap.size,6,none⟩=some (.int .i64 hi)∧w'.cell? ⟨w.heap.size,10,none⟩=some (.slice (some ⟨b,off,none⟩) l.length qc)) (by kernel_rfl) ?_ (fun qH => ?_)
    · (first|assumption|((try go_split_ands);refine zav ?_ (fun hbX=>⟨zaa hbX f0,zaa hbX f1,zaa hbX f2,zaa hbX f3,zaa hbX f4,zaa hbX f5,zaa hbX g2,zaa hbX g6,zaa hbX g10⟩);(with_reducible repeat first|assumption|exact zai (by assumption) (by assumption)|refine Below.drew ?_|refine zaj ?_ _)))
    iterate 2
     first
      | (refine tkN 39 (v := ?_) rfl rfl (Or.inl ⟨by rfl, ?_⟩) (by assumption) ?_
         rotate_left
         · (intro w hSw;(try dsimp only at hSw);go_simp;try with_reducible rfl))
      | refine tkN 39 (v:=undef) rfl rfl (Or.inr ⟨by rfl,rfl⟩) (by assumption) ?_
     try simp only [ss9]
    refine wpAnyH_ready (rs:=[2]) (by kernel_rfl) (by simp) ?_
    refine AllReadyH.cons (o:=_) rfl (fun K hK => ?_) ?_
    rotate_left
    · exact AllReadyH.nil
    go_simp
    (go_at_call 118;refine (k1.out _).mono ?_;rintro e w' ⟨rfl,qb⟩;have hbw:Below wx.heap.size wx w':=zai qb (by (try go_split_ands);assumption);obtain ⟨hcc,hff⟩:=zdc qb)
    refine hK.out _ _ ?_ (fun qH => ?_)
    · (try dsimp only)
      (first|assumption|((try go_split_ands);refine zav ?_ (fun hbX=>⟨zaa hbX f0,zaa hbX f1,zaa hbX f2,zaa hbX f3,zaa hbX f4,zaa hbX f5,zaa hbX g2,zaa hbX g6,zaa hbX g10⟩);(with_reducible repeat first|assumption|exact zai (by assumption) (by assumption)|refine Below.drew ?_|refine zaj ?_ _)))
    clear hK K
    try simp only [ss9]
    iterate 36
     first
      | (refine tkN 39 (v := ?_) rfl rfl (Or.inl ⟨by rfl, ?_⟩) (by assumption) ?_
         rotate_left
         · (intro w hSw;(try dsimp only at hSw);go_simp;try with_reducible rfl))
      | refine tkN 39 (v:=undef) rfl rfl (Or.inr ⟨by rfl,rfl⟩) (by assumption) ?_
     try simp only [ss9]
    refine wpAnyH_done (by kernel_rfl) ?_ _
    all_goals
     have UZ:=H9 (U1.out.later hbw)
     go_wp2_with fail
     go_ret
     exact ⟨by first|rfl|simp,UZ.out⟩
  have hok:Jb.Md.ok ⟨sq0,ti0,mk0,ty0,pl0⟩:=by have hf:=HF.out;rw [eq_comm,decide_eq_true_iff] at hf;exact hf
  have HOK:=H9 hok
  clear hok HF
  by_cases c1:at0≤nw
  · have hdc1:decide (at0≤nw)=true:=by simpa using c1
    have Dc1:=H9 hdc1
    clear hdc1
    have hv:v=false:=HN.out (fun h=>by have h9:=(HO.out.1 h).1;obtain ⟨h1,h2,h3,h4⟩:=h9;have h2':nw<at0:=h2;have h3':at0≤562949953421312:=h3;have h4':sq0≤hi:=h4;omega)
    subst hv
    go_wp2_with fail
    rw [← HWX.out]
    refine wp_region_held_drew (S:=fun w'=>Below wx.heap.size wx w'∧w'.cell? ⟨wo.heap.size,0,none⟩=some (.int .i64 at0)∧w'.cell? ⟨wo.heap.size,1,none⟩=some (.int .i64 sq0)∧w'.cell? ⟨wo.heap.size,2,none⟩=some (.int .i64 ti0)∧w'.cell? ⟨wo.heap.size,3,none⟩=some (.bool mk0)∧w'.cell? ⟨wo.heap.size,4,none⟩=some (.int .u8 ty0)∧w'.cell? ⟨wo.heap.size,5,none⟩=some (.slice B0 pl0.length c0)∧w'.cell? ⟨w.heap.size,2,none⟩=some (.int .i64 nw)∧w'.cell? ⟨w.heap.size,6,none⟩=some (.int .i64 hi)∧w'.cell? ⟨w.heap.size,10,none⟩=some (.slice (some ⟨b,off,none⟩) l.length qc)) (by kernel_rfl) ?_ (fun qH => ?_)
    · (first|assumption|((try go_split_ands);refine zav ?_ (fun hbX=>⟨zaa hbX f0,zaa hbX f1,zaa hbX f2,zaa hbX f3,zaa hbX f4,zaa hbX f5,zaa hbX g2,zaa hbX g6,zaa hbX g10⟩);(with_reducible repeat first|assumption|exact zai (by assumption) (by assumption)|refine Below.drew ?_|refine zaj ?_ _)))
    iterate 2
     first
      | (refine tkN 39 (v := ?_) rfl rfl (Or.inl ⟨by rfl, ?_⟩) (by assumption) ?_
         rotate_left
         · (intro w hSw;(try dsimp only at hSw);go_simp;try with_reducible rfl))
      | refine tkN 39 (v:=undef) rfl rfl (Or.inr ⟨by rfl,rfl⟩) (by assumption) ?_
     try simp only [List.getElem_toArray,List.getElem_cons_zero,List.getElem_cons_succ,Act.put,List.setIfInBounds_toArray,List.set_cons_zero,List.set_cons_succ,Dc1.out]
    refine wpAnyH_ready (rs:=[2]) (by kernel_rfl) (by simp) ?_
    refine AllReadyH.cons (o:=_) rfl (fun K hK => ?_) ?_
    rotate_left
    · exact AllReadyH.nil
    go_simp
    (go_at_call 118;refine (k1.out _).mono ?_;rintro e w' ⟨rfl,qb⟩;have hbw:Below wx.heap.size wx w':=zai qb (by (try go_split_ands);assumption);obtain ⟨hcc,hff⟩:=zdc qb)
    refine hK.out _ _ ?_ (fun qH => ?_)
    · (try dsimp only)
      (first|assumption|((try go_split_ands);refine zav ?_ (fun hbX=>⟨zaa hbX f0,zaa hbX f1,zaa hbX f2,zaa hbX f3,zaa hbX f4,zaa hbX f5,zaa hbX g2,zaa hbX g6,zaa hbX g10⟩);(with_reducible repeat first|assumption|exact zai (by assumption) (by assumption)|refine Below.drew ?_|refine zaj ?_ _)))
    clear hK K
    try simp only [List.getElem_toArray,List.getElem_cons_zero,List.getElem_cons_succ,Act.put,List.setIfInBounds_toArray,List.set_cons_zero,List.set_cons_succ,Dc1.out]
    iterate 36
     first
      | (refine tkN 39 (v := ?_) rfl rfl (Or.inl ⟨by rfl, ?_⟩) (by assumption) ?_
         rotate_left
         · (intro w hSw;(try dsimp only at hSw);go_simp;try with_reducible rfl))
      | refine tkN 39 (v:=undef) rfl rfl (Or.inr ⟨by rfl,rfl⟩) (by assumption) ?_
     try simp only [List.getElem_toArray,List.getElem_cons_zero,List.getElem_cons_succ,Act.put,List.setIfInBounds_toArray,List.set_cons_zero,List.set_cons_succ,Dc1.out]
    refine wpAnyH_done (by kernel_rfl) ?_ _
    all_goals
     have UZ:=H9 (U1.out.later hbw)
     go_wp2_with fail
     go_ret
     exact ⟨by first|rfl|simp,UZ.out⟩
  have c1':nw<at0:=by omega
  have hdc1:decide (at0≤nw)=false:=by rw [decide_eq_false_iff_not];omega
  have Dc1:=H9 hdc1
  clear c1 hdc1
  by_cases c2:562949953421312<at0
  · have hdc2:decide (562949953421312<at0)=true:=by simpa using c2
    have Dc2:=H9 hdc2
    clear hdc2
    have hv:v=false:=HN.out (fun h=>by have h9:=(HO.out.1 h).1;obtain ⟨h1,h2,h3,h4⟩:=h9;have h2':nw<at0:=h2;have h3':at0≤562949953421312:=h3;have h4':sq0≤hi:=h4;omega)
    subst hv
    go_wp2_with fail
    rw [← HWX.out]
    refine wp_region_held_drew (S:=fun w'=>Below wx.heap.size wx w'∧w'.cell? ⟨wo.heap.size,0,none⟩=some (.int .i64 at0)∧w'.cell? ⟨wo.heap.size,1,none⟩=some (.int .i64 sq0)∧w'.cell? ⟨wo.heap.size,2,none⟩=some (.int .i64 ti0)∧w'.cell? ⟨wo.heap.size,3,none⟩=some (.bool mk0)∧w'.cell? ⟨wo.heap.size,4,none⟩=some (.int .u8 ty0)∧w'.cell? ⟨wo.heap.size,5,none⟩=some (.slice B0 pl0.length c0)∧w'.cell? ⟨w.heap.size,2,none⟩=some (.int .i64 nw)∧w'.cell? ⟨w.heap.size,6,none⟩=some (.int .i64 hi)∧w'.cell? ⟨w.heap.size,10,none⟩=some (.slice (some ⟨b,off,none⟩) l.length qc)) (by kernel_rfl) ?_ (fun qH => ?_)
    · (first|assumption|((try go_split_ands);refine zav ?_ (fun hbX=>⟨zaa hbX f0,zaa hbX f1,zaa hbX f2,zaa hbX f3,zaa hbX f4,zaa hbX f5,zaa hbX g2,zaa hbX g6,zaa hbX g10⟩);(with_reducible repeat first|assumption|exact zai (by assumption) (by assumption)|refine Below.drew ?_|refine zaj ?_ _)))
    iterate 2
     first
      | (refine tkN 39 (v := ?_) rfl rfl (Or.inl ⟨by rfl, ?_⟩) (by assumption) ?_
         rotate_left
         · (intro w hSw;(try dsimp only at hSw);go_simp;try with_reducible rfl))
      | refine tkN 39 (v:=undef) rfl rfl (Or.inr ⟨by rfl,rfl⟩) (by assumption) ?_
     try simp only [List.getElem_toArray,List.getElem_cons_zero,List.getElem_cons_succ,Act.put,List.setIfInBounds_toArray,List.set_cons_zero,List.set_cons_succ,Dc1.out,Dc2.out]
    refine wpAnyH_ready (rs:=[2]) (by kernel_rfl) (by simp) ?_
    refine AllReadyH.cons (o:=_) rfl (fun K hK => ?_) ?_
    rotate_left
    · exact AllReadyH.nil
    go_simp
    (go_at_call 118;refine (k1.out _).mono ?_;rintro e w' ⟨rfl,qb⟩;have hbw:Below wx.heap.size wx w':=zai qb (by (try go_split_ands);assumption);obtain ⟨hcc,hff⟩:=zdc qb)
    refine hK.out _ _ ?_ (fun qH => ?_)
    · (try dsimp only)
      (first|assumption|((try go_split_ands);refine zav ?_ (fun hbX=>⟨zaa hbX f0,zaa hbX f1,zaa hbX f2,zaa hbX f3,zaa hbX f4,zaa hbX f5,zaa hbX g2,zaa hbX g6,zaa hbX g10⟩);(with_reducible repeat first|assumption|exact zai (by assumption) (by assumption)|refine Below.drew ?_|refine zaj ?_ _)))
    clear hK K
    try simp only [List.getElem_toArray,List.getElem_cons_zero,List.getElem_cons_succ,Act.put,List.setIfInBounds_toArray,List.set_cons_zero,List.set_cons_succ,Dc1.out,Dc2.out]
    iterate 36
     first
      | (refine tkN 39 (v := ?_) rfl rfl (Or.inl ⟨by rfl, ?_⟩) (by assumption) ?_
         rotate_left
         · (intro w hSw;(try dsimp only at hSw);go_simp;try with_reducible rfl))
      | refine tkN 39 (v:=undef) rfl rfl (Or.inr ⟨by rfl,rfl⟩) (by assumption) ?_
     try simp only [List.getElem_toArray,List.getElem_cons_zero,List.getElem_cons_succ,Act.put,List.setIfInBounds_toArray,List.set_cons_zero,List.set_cons_succ,Dc1.out,Dc2.out]
    refine wpAnyH_done (by kernel_rfl) ?_ _
    all_goals
     have UZ:=H9 (U1.out.later hbw)
     go_wp2_with fail
     go_ret
     exact ⟨by first|rfl|simp,UZ.out⟩
  have c2':at0≤562949953421312:=by omega
  have hdc2:decide (562949953421312<at0)=false:=by rw [decide_eq_false_iff_not];omega
  have Dc2:=H9 hdc2
  clear c2 hdc2
  by_cases c3:hi<sq0
  · have hdc3:decide (hi<sq0)=true:=by simpa using c3
    have Dc3:=H9 hdc3
    clear hdc3
    have hv:v=false:=HN.out (fun h=>by have h9:=(HO.out.1 h).1;obtain ⟨h1,h2,h3,h4⟩:=h9;have h2':nw<at0:=h2;have h3':at0≤562949953421312:=h3;have h4':sq0≤hi:=h4;omega)
    subst hv
    go_wp2_with fail
    rw [← HWX.out]
    refine wp_region_held_drew (S:=fun w'=>Below wx.heap.size wx w'∧w'.cell? ⟨wo.heap.size,0,none⟩=some (.int .i64 at0)∧w'.cell? ⟨wo.heap.size,1,none⟩=some (.int .i64 sq0)∧w'.cell? ⟨wo.heap.size,2,none⟩=some (.int .i64 ti0)∧w'.cell? ⟨wo.heap.size,3,none⟩=some (.bool mk0)∧w'.cell? ⟨wo.heap.size,4,none⟩=some (.int .u8 ty0)∧w'.cell? ⟨wo.heap.size,5,none⟩=some (.slice B0 pl0.length c0)∧w'.cell? ⟨w.heap.size,2,none⟩=some (.int .i64 nw)∧w'.cell? ⟨w.heap.size,6,none⟩=some (.int .i64 hi)∧w'.cell? ⟨w.heap.size,10,none⟩=some (.slice (some ⟨b,off,none⟩) l.length qc)) (by kernel_rfl) ?_ (fun qH => ?_)
    · (first|assumption|((try go_split_ands);refine zav ?_ (fun hbX=>⟨zaa hbX f0,zaa hbX f1,zaa hbX f2,zaa hbX f3,zaa hbX f4,zaa hbX f5,zaa hbX g2,zaa hbX g6,zaa hbX g10⟩);(with_reducible repeat first|assumption|exact zai (by assumption) (by assumption)|refine Below.drew ?_|refine zaj ?_ _)))
    iterate 2
     first
      | (refine tkN 39 (v := ?_) rfl rfl (Or.inl ⟨by rfl, ?_⟩) (by assumption) ?_
         rotate_left
         · (intro w hSw;(try dsimp only at hSw);go_simp;try with_reducible rfl))
      | refine tkN 39 (v:=undef) rfl rfl (Or.inr ⟨by rfl,rfl⟩) (by assumption) ?_
     try simp only [List.getElem_toArray,List.getElem_cons_zero,List.getElem_cons_succ,Act.put,List.setIfInBounds_toArray,List.set_cons_zero,List.set_cons_succ,Dc1.out,Dc2.out,Dc3.out]
    refine wpAnyH_ready (rs:=[2]) (by kernel_rfl) (by simp) ?_
    refine AllReadyH.cons (o:=_) rfl (fun K hK => ?_) ?_
    rotate_left
    · exact AllReadyH.nil
    go_simp
    (go_at_call 118;refine (k1.out _).mono ?_;rintro e w' ⟨rfl,qb⟩;have hbw:Below wx.heap.size wx w':=zai qb (by (try go_split_ands);assumption);obtain ⟨hcc,hff⟩:=zdc qb)
    refine hK.out _ _ ?_ (fun qH => ?_)
    · (try dsimp only)
      (first|assumption|((try go_split_ands);refine zav ?_ (fun hbX=>⟨zaa hbX f0,zaa hbX f1,zaa hbX f2,zaa hbX f3,zaa hbX f4,zaa hbX f5,zaa hbX g2,zaa hbX g6,zaa hbX g10⟩);(with_reducible repeat first|assumption|exact zai (by assumption) (by assumption)|refine Below.drew ?_|refine zaj ?_ _)))
    clear hK K
    try simp only [List.getElem_toArray,List.getElem_cons_zero,List.getElem_cons_succ,Act.put,List.setIfInBounds_toArray,List.set_cons_zero,List.set_cons_succ,Dc1.out,Dc2.out,Dc3.out]
    iterate 36
     first
      | (refine tkN 39 (v := ?_) rfl rfl (Or.inl ⟨by rfl, ?_⟩) (by assumption) ?_
         rotate_left
         · (intro w hSw;(try dsimp only at hSw);go_simp;try with_reducible rfl))
      | refine tkN 39 (v:=undef) rfl rfl (Or.inr ⟨by rfl,rfl⟩) (by assumption) ?_
     try simp only [List.getElem_toArray,List.getElem_cons_zero,List.getElem_cons_succ,Act.put,List.setIfInBounds_toArray,List.set_cons_zero,List.set_cons_succ,Dc1.out,Dc2.out,Dc3.out]
    refine wpAnyH_done (by kernel_rfl) ?_ _
    all_goals
     have UZ:=H9 (U1.out.later hbw)
     go_wp2_with fail
     go_ret
     exact ⟨by first|rfl|simp,UZ.out⟩
  have c3':sq0≤hi:=by omega
  have hdc3:decide (hi<sq0)=false:=by rw [decide_eq_false_iff_not];omega
  have Dc3:=H9 hdc3
  clear c3 hdc3
  by_cases hk0:k=0
  · have HK0:=H9 hk0
    have hd1:decide ((0:Int)<(k:Int))=false:=by rw [decide_eq_false_iff_not];omega
    have HD1:=H9 hd1
    have hd1n:decide (0<k)=false:=by rw [decide_eq_false_iff_not];omega
    have HD1N:=H9 hd1n
    clear hd1 hd1n
    have hd3:(k:Int)≤0:=by omega
    clear hk0
    go_wp2_with fail
    rw [← HWX.out]
    refine wp_region_held_drew (S:=fun w'=>Below wx.heap.size wx w'∧w'.cell? ⟨wo.heap.size,0,none⟩=some (.int .i64 at0)∧w'.cell? ⟨wo.heap.size,1,none⟩=some (.int .i64 sq0)∧w'.cell? ⟨wo.heap.size,2,none⟩=some (.int .i64 ti0)∧w'.cell? ⟨wo.heap.size,3,none⟩=some (.bool mk0)∧w'.cell? ⟨wo.heap.size,4,none⟩=some (.int .u8 ty0)∧w'.cell? ⟨wo.heap.size,5,none⟩=some (.slice B0 pl0.length c0)∧w'.cell? ⟨w.heap.size,2,none⟩=some (.int .i64 nw)∧w'.cell? ⟨w.heap.size,6,none⟩=some (.int .i64 hi)∧w'.cell? ⟨w.heap.size,10,none⟩=some (.slice (some ⟨b,off,none⟩) l.length qc)) (by kernel_rfl) ?_ (fun qH => ?_)
    · (first|assumption|((try go_split_ands);refine zav ?_ (fun hbX=>⟨zaa hbX f0,zaa hbX f1,zaa hbX f2,zaa hbX f3,zaa hbX f4,zaa hbX f5,zaa hbX g2,zaa hbX g6,zaa hbX g10⟩);(with_reducible repeat first|assumption|exact zai (by assumption) (by assumption)|refine Below.drew ?_|refine zaj ?_ _)))
    iterate 2
     first
      | (refine tkN 39 (v := ?_) rfl rfl (Or.inl ⟨by rfl, ?_⟩) (by assumption) ?_
         rotate_left
         · (intro w hSw;(try dsimp only at hSw);go_simp;try with_reducible rfl))
      | refine tkN 39 (v:=undef) rfl rfl (Or.inr ⟨by rfl,rfl⟩) (by assumption) ?_
     try simp only [List.getElem_toArray,List.getElem_cons_zero,List.getElem_cons_succ,Act.put,List.setIfInBounds_toArray,List.set_cons_zero,List.set_cons_succ,Dc1.out,Dc2.out,Dc3.out,HD1.out,HD1N.out]
    refine wpAnyH_ready (rs:=[2]) (by kernel_rfl) (by simp) ?_
    refine AllReadyH.cons (o:=_) rfl (fun K hK => ?_) ?_
    rotate_left
    · exact AllReadyH.nil
    go_simp
    (go_at_call 118;refine (k1.out _).mono ?_;rintro e w' ⟨rfl,qb⟩;have hbw:Below wx.heap.size wx w':=zai qb (by (try go_split_ands);assumption);obtain ⟨hcc,hff⟩:=zdc qb)
    refine hK.out _ _ ?_ (fun qH => ?_)
    · (try dsimp only)
      (first|assumption|((try go_split_ands);refine zav ?_ (fun hbX=>⟨zaa hbX f0,zaa hbX f1,zaa hbX f2,zaa hbX f3,zaa hbX f4,zaa hbX f5,zaa hbX g2,zaa hbX g6,zaa hbX g10⟩);(with_reducible repeat first|assumption|exact zai (by assumption) (by assumption)|refine Below.drew ?_|refine zaj ?_ _)))
    clear hK K
    try simp only [List.getElem_toArray,List.getElem_cons_zero,List.getElem_cons_succ,Act.put,List.setIfInBounds_toArray,List.set_cons_zero,List.set_cons_succ,Dc1.out,Dc2.out,Dc3.out,HD1.out,HD1N.out]
    iterate 36
     first
      | (refine tkN 39 (v := ?_) rfl rfl (Or.inl ⟨by rfl, ?_⟩) (by assumption) ?_
         rotate_left
         · (intro w hSw;(try dsimp only at hSw);go_simp;try with_reducible rfl))
      | refine tkN 39 (v:=undef) rfl rfl (Or.inr ⟨by rfl,rfl⟩) (by assumption) ?_
     try simp only [List.getElem_toArray,List.getElem_cons_zero,List.getElem_cons_succ,Act.put,List.setIfInBounds_toArray,List.set_cons_zero,List.set_cons_succ,Dc1.out,Dc2.out,Dc3.out,HD1.out,HD1N.out]
    refine wpAnyH_done (by kernel_rfl) ?_ _
    all_goals
     have HBF:Hid (0<k→Jb.bef ((l.map TW.w).getD (k-1) Jb.Wt.zero) ⟨at0,⟨sq0,ti0,mk0,ty0,pl0⟩⟩):=H9 (fun h=>by have h8:=HK0.out;omega)
     obtain ⟨g0,hg0⟩:∃ g0,g0=gk:=⟨_,rfl⟩
     subst hg0
     have BXZ:=H9 (BX.out.later hbw)
     have BSZ:=H9 (BS1.out.later hbw)
     have UZ:=H9 (U1.out.later hbw)
     clear hcc hff hbw qb f0 f1 f2 f3 f4 f5 g2 g6 g10 hU
     go_wp2_with fail
     go_loopg [5] k (fun gj j wr => ∃ y:Nat,gj+y=k∧j = .int .i64 y∧Hid (∀ i,i<y→((l.map TW.w).getD i Jb.Wt.zero).m.sq≠sq0)∧Hid (Blk wr w.heap.size 40 #[.int .i64 le, .int .i64 mo, .int .i64 nw, .bool on, .int .i64 ze, .int .i64 fi, .int .i64 hi, .int .i64 dn, .int .i64 sp, .int .i64 tr, .slice (some ⟨b,off,none⟩) l.length qc, .int .i64 la, .int .i64 tw, .int .i64 pd])∧Hid (Blk wr wo.heap.size 105 #[.int .i64 at0, .int .i64 sq0, .int .i64 ti0, .bool mk0, .int .u8 ty0, .slice B0 pl0.length c0])∧Hid (Bel w wr))
     case atStart=>exact ⟨0,by omega,rfl,H9 (fun i h=>absurd h (by omega)),BSZ,BXZ,UZ⟩
     case round =>
      obtain ⟨y,hhm,rfl,HD,BS2,BX2,U2⟩:=hrel
      have hm0:(0:Int)≤(y:Int):=by omega
      have u1:=BX2.out.at 1 _ rfl
      have u10:=BS2.out.at 10 _ rfl
      by_cases hmk:y<k
      rotate_left
      · obtain rfl:y=k:=by omega
        have hmm:(y:Int)≤(y:Int):=Int.le_refl _
        go_wp2_with fail
        go_roundg (g0-1)
        case measure=>omega
        case rel =>
         refine ⟨y+1,by omega,by go_num,H9 (fun j hj => ?_),BS2,U2⟩
         by_cases hj2:j<y
         · exact HT.out j hj2
         · obtain rfl:j=y:=by omega
           refine HO.out.2 ⟨⟨HOK.out,c1',c2',c3'⟩,?_,HBF.out⟩
           rw [List.any_eq_false]
           intro x hx
           obtain ⟨yy,hy,rfl⟩:=List.mem_map.1 hx
           obtain ⟨i,hi',rfl⟩:=List.getElem_of_mem hy
           have hik:i<j:=by simp at hi';omega
           have h9:=HD.out i hik
           rw [Jb.getD_eq (by simp;omega)] at h9
           rw [List.getElem_take]
           simpa using h9
      have hmk1:(y:Int)<(k:Int):=by omega
      have hml:(y:Int)<(l.length:Int):=by omega
      obtain ⟨a8,ha8⟩:∃ a,l[y]? = some a:=⟨_,List.getElem?_eq_getElem (by omega)⟩
      obtain ⟨b8,off8,he8,hb8,z0,z1,z2,z3,z4,z5⟩:=zbs (HA.out.1.keep (fun p hp=>U2.out.cell hp)) ha8
      injection he8 with he8
      injection he8 with he8a he8b
      subst he8a he8b
      have hm8:(l.map TW.w)[y]? = some a8.w:=by rw [List.getElem?_map,ha8];rfl
      have HM8:=H9 hm8
      obtain ⟨sq8,hsq8⟩:∃ x,x=a8.w.m.sq:=⟨_,rfl⟩
      rw [← hsq8] at z1
      have HSQ8:=H9 hsq8
      clear ha8 hm8 hsq8 z0 z2 z3 z4 z5
      by_cases heq:sq8=sq0
      · have hee:(sq8==sq0)=true:=by simpa using heq
        have hv:v=false:=HN.out (fun h=>by
         have h9:=(HO.out.1 h).2.1
         rw [List.any_eq_false] at h9
         exact h9 sq8 (List.mem_map.2 ⟨a8.w,List.mem_of_getElem? (i:=y) (by rw [List.getElem?_take,if_pos (by omega)];exact HM8.out),HSQ8.out.symm⟩) hee)
        subst hv
        clear heq
        go_wp2_with fail
        go_quiet (fail)
        go_wp2_with fail
        go_ret
        exact ⟨by first|rfl|simp,U2.out.drewN _⟩
      have hee:(sq8==sq0)=false:=by simpa using heq
      have HNE:=H9 heq
      clear heq
      go_wp2_with fail
      go_quiet (fail)
      go_wp2_with fail
      go_roundg (gk-1)
      case measure=>omega
      case rel =>
       refine ⟨y+1,by omega,by go_num,H9 (fun i hi2 => ?_),H9 (BS2.out.drewN _),H9 (BX2.out.drewN _),H9 (U2.out.drewN _)⟩
       by_cases hi3:i<y
       · exact HD.out i hi3
       · obtain rfl:i=y:=by omega
         have h9:=HM8.out
         rw [List.getD_eq_getElem?_getD,h9]
         show a8.w.m.sq≠sq0
         rw [← HSQ8.out]
         exact HNE.out
  obtain ⟨m,hkm⟩:∃ m,k=m+1:=⟨k-1,by omega⟩
  have hkp:(0:Int)<(k:Int):=by omega
  have hkd:decide ((0:Int)<(k:Int))=true:=by rw [decide_eq_true_iff];exact hkp
  have HKD:=H9 hkd
  have hkdn:decide (0<k)=true:=by rw [decide_eq_true_iff];omega
  have HKDN:=H9 hkdn
  clear hk0 hkd hkdn
  obtain ⟨a9,ha9⟩:∃ a,l[m]? = some a:=⟨_,List.getElem?_eq_getElem (by omega)⟩
  obtain ⟨b9,off9,he9,hbB9,q0,q1,q2,q3,q4,q5⟩:=zbs (HA.out.1.keep (fun p hp=>U1.out.cell hp)) ha9
  injection he9 with he9
  injection he9 with he9a he9b
  subst he9a he9b
  have hm9:(l.map TW.w)[m]? = some a9.w:=by rw [List.getElem?_map,ha9];rfl
  have HM9:=H9 hm9
  obtain ⟨⟨at9,⟨sq9,ti9,mk9,ty9,pl9⟩⟩,B9,c9⟩:=a9
  simp only at q0 q1 q2 q3 q4 q5 HM9
  clear ha9 hm9
  obtain ⟨bv,hbv⟩:∃ bv,bv=decide (at9<at0∨(at9=at0∧sq9<sq0)):=⟨_,rfl⟩
  have k2:=H9 fun W=>zdb at9 sq9 ti9 ty9 at0 sq0 ti0 ty0 mk9 mk0 B9 B0 pl9.length c9 pl0.length c0 W bv hbv
  have hgd:(l.map TW.w).getD (k-1) Jb.Wt.zero=⟨at9,⟨sq9,ti9,mk9,ty9,pl9⟩⟩:=by rw [hkm,Nat.add_sub_cancel];simp [List.getD_eq_getElem?_getD,HM9.out]
  have HGD:=H9 hgd
  have HBV:=H9 hbv
  have hm1:(m:Int)<(l.length:Int):=by omega
  have hm0:(0:Int)≤(m:Int):=by omega
  have hw2:IntKind.i64.wrap ((k:Int)-1)=(m:Int):=by rw [zat _ (by omega) (by omega)];omega
  have hw3:(k:Int)-1=(m:Int):=by omega
  have hw4:IntKind.i64.wrap (m:Int)=(m:Int):=zat _ (by omega) (by omega)
  have hm2:m<l.length:=by omega
  have hmk9:m+1=k:=hkm.symm
  have HKM:=H9 hkm
  clear hgd hbv hkm hmk9
  cases bv
  · have hv:v=false:=HN.out (fun h=>by
     have h9:=(HO.out.1 h).2.2 (by have h7:=HKM.out;omega)
     rw [HGD.out] at h9
     have h8:=HBV.out
     rw [eq_comm,decide_eq_false_iff_not] at h8
     exact h8 h9)
    subst hv
    go_wp2_with fail
    rw [← HWX.out]
    refine wp_region_held_drew (S:=fun w'=>Below wx.heap.size wx w'∧w'.cell? ⟨wo.heap.size,0,none⟩=some (.int .i64 at0)∧w'.cell? ⟨wo.heap.size,1,none⟩=some (.int .i64 sq0)∧w'.cell? ⟨wo.heap.size,2,none⟩=some (.int .i64 ti0)∧w'.cell? ⟨wo.heap.size,3,none⟩=some (.bool mk0)∧w'.cell? ⟨wo.heap.size,4,none⟩=some (.int .u8 ty0)∧w'.cell? ⟨wo.heap.size,5,none⟩=some (.slice B0 pl0.length c0)∧w'.cell? ⟨w.heap.size,2,none⟩=some (.int .i64 nw)∧w'.cell? ⟨w.heap.size,6,none⟩=some (.int .i64 hi)∧w'.cell? ⟨w.heap.size,10,none⟩=some (.slice (some ⟨b,off,none⟩) l.length qc)∧w'.cell? ⟨b,off+m*6,none⟩=some (.int .i64 at9)∧w'.cell? ⟨b,off+m*6+1,none⟩=some (.int .i64 sq9)∧w'.cell? ⟨b,off+m*6+2,none⟩=some (.int .i64 ti9)∧w'.cell? ⟨b,off+m*6+3,none⟩=some (.bool mk9)∧w'.cell? ⟨b,off+m*6+4,none⟩=some (.int .u8 ty9)∧w'.cell? ⟨b,off+m*6+5,none⟩=some (.slice B9 pl9.length c9)) (by kernel_rfl) ?_ (fun qH => ?_)
    · (first|assumption|((try go_split_ands);refine zav ?_ (fun hbX=>⟨zaa hbX f0,zaa hbX f1,zaa hbX f2,zaa hbX f3,zaa hbX f4,zaa hbX f5,zaa hbX g2,zaa hbX g6,zaa hbX g10,zaa hbX q0,zaa hbX q1,zaa hbX q2,zaa hbX q3,zaa hbX q4,zaa hbX q5⟩);(with_reducible repeat first|assumption|exact zai (by assumption) (by assumption)|refine Below.drew ?_|refine zaj ?_ _)))
    iterate 2
     first
      | (refine tkN 39 (v := ?_) rfl rfl (Or.inl ⟨by rfl, ?_⟩) (by assumption) ?_
         rotate_left
         · (intro w hSw;(try dsimp only at hSw);go_simp;try with_reducible rfl))
      | refine tkN 39 (v:=undef) rfl rfl (Or.inr ⟨by rfl,rfl⟩) (by assumption) ?_
     try simp only [List.getElem_toArray,List.getElem_cons_zero,List.getElem_cons_succ,Act.put,List.setIfInBounds_toArray,List.set_cons_zero,List.set_cons_succ,Dc1.out,Dc2.out,Dc3.out,HKD.out,HKDN.out]
    refine wpAnyH_ready (rs:=[2]) (by kernel_rfl) (by simp) ?_
    refine AllReadyH.cons (o:=_) rfl (fun K hK => ?_) ?_
    rotate_left
    · exact AllReadyH.nil
    go_simp
    (go_at_call 118;refine (k1.out _).mono ?_;rintro e w' ⟨rfl,qb⟩;have hbw:Below wx.heap.size wx w':=zai qb (by (try go_split_ands);assumption);obtain ⟨hcc,hff⟩:=zdc qb)
    refine hK.out _ _ ?_ (fun qH => ?_)
    · (try dsimp only)
      (first|assumption|((try go_split_ands);refine zav ?_ (fun hbX=>⟨zaa hbX f0,zaa hbX f1,zaa hbX f2,zaa hbX f3,zaa hbX f4,zaa hbX f5,zaa hbX g2,zaa hbX g6,zaa hbX g10,zaa hbX q0,zaa hbX q1,zaa hbX q2,zaa hbX q3,zaa hbX q4,zaa hbX q5⟩);(with_reducible repeat first|assumption|exact zai (by assumption) (by assumption)|refine Below.drew ?_|refine zaj ?_ _)))
    clear hK K
    try simp only [List.getElem_toArray,List.getElem_cons_zero,List.getElem_cons_succ,Act.put,List.setIfInBounds_toArray,List.set_cons_zero,List.set_cons_succ,Dc1.out,Dc2.out,Dc3.out,HKD.out,HKDN.out]
    iterate 32
     first
      | (refine tkN 39 (v := ?_) rfl rfl (Or.inl ⟨by rfl, ?_⟩) (by assumption) ?_
         rotate_left
         · (intro w hSw;(try dsimp only at hSw);go_simp;try with_reducible rfl))
      | refine tkN 39 (v:=undef) rfl rfl (Or.inr ⟨by rfl,rfl⟩) (by assumption) ?_
     try simp only [List.getElem_toArray,List.getElem_cons_zero,List.getElem_cons_succ,Act.put,List.setIfInBounds_toArray,List.set_cons_zero,List.set_cons_succ,Dc1.out,Dc2.out,Dc3.out,HKD.out,HKDN.out]
    refine wpAnyH_ready (rs:=[35]) (by kernel_rfl) (by simp) ?_
    refine AllReadyH.cons (o:=_) rfl (fun K hK => ?_) ?_
    rotate_left
    · exact AllReadyH.nil
    go_simp
    (go_at_call 156;refine (k2.out _).mono ?_;rintro e w' ⟨rfl,hbel2⟩;have hbw2:Below wx.heap.size wx w':=zai hbel2 (by (try go_split_ands);assumption);obtain ⟨hcc2,hff2⟩:=zdc hbel2)
    refine hK.out _ _ ?_ (fun qH => ?_)
    · (try dsimp only)
      (first|assumption|((try go_split_ands);refine zav ?_ (fun hbX=>⟨zaa hbX f0,zaa hbX f1,zaa hbX f2,zaa hbX f3,zaa hbX f4,zaa hbX f5,zaa hbX g2,zaa hbX g6,zaa hbX g10,zaa hbX q0,zaa hbX q1,zaa hbX q2,zaa hbX q3,zaa hbX q4,zaa hbX q5⟩);(with_reducible repeat first|assumption|exact zai (by assumption) (by assumption)|refine Below.drew ?_|refine zaj ?_ _)))
    clear hK K
    try simp only [List.getElem_toArray,List.getElem_cons_zero,List.getElem_cons_succ,Act.put,List.setIfInBounds_toArray,List.set_cons_zero,List.set_cons_succ,Dc1.out,Dc2.out,Dc3.out,HKD.out,HKDN.out]
    iterate 3
     first
      | (refine tkN 39 (v := ?_) rfl rfl (Or.inl ⟨by rfl, ?_⟩) (by assumption) ?_
         rotate_left
         · (intro w hSw;(try dsimp only at hSw);go_simp;try with_reducible rfl))
      | refine tkN 39 (v:=undef) rfl rfl (Or.inr ⟨by rfl,rfl⟩) (by assumption) ?_
     try simp only [List.getElem_toArray,List.getElem_cons_zero,List.getElem_cons_succ,Act.put,List.setIfInBounds_toArray,List.set_cons_zero,List.set_cons_succ,Dc1.out,Dc2.out,Dc3.out,HKD.out,HKDN.out]
    refine wpAnyH_done (by kernel_rfl) ?_ _
    all_goals
     have UZ:=H9 (U1.out.later hbw2)
     go_wp2_with fail
     go_ret
     exact ⟨by first|rfl|simp,UZ.out⟩
  go_wp2_with fail
  rw [← HWX.out]
  refine wp_region_held_drew (S:=fun w'=>Below wx.heap.size wx w'∧w'.cell? ⟨wo.heap.size,0,none⟩=some (.int .i64 at0)∧w'.cell? ⟨wo.heap.size,1,none⟩=some (.int .i64 sq0)∧w'.cell? ⟨wo.heap.size,2,none⟩=some (.int .i64 ti0)∧w'.cell? ⟨wo.heap.size,3,none⟩=some (.bool mk0)∧w'.cell? ⟨wo.heap.size,4,none⟩=some (.int .u8 ty0)∧w'.cell? ⟨wo.heap.size,5,none⟩=some (.slice B0 pl0.length c0)∧w'.cell? ⟨w.heap.size,2,none⟩=some (.int .i64 nw)∧w'.cell? ⟨w.heap.size,6,none⟩=some (.int .i64 hi)∧w'.cell? ⟨w.heap.size,10,none⟩=some (.slice (some ⟨b,off,none⟩) l.length qc)∧w'.cell? ⟨b,off+m*6,none⟩=some (.int .i64 at9)∧w'.cell? ⟨b,off+m*6+1,none⟩=some (.int .i64 sq9)∧w'.cell? ⟨b,off+m*6+2,none⟩=some (.int .i64 ti9)∧w'.cell? ⟨b,off+m*6+3,none⟩=some (.bool mk9)∧w'.cell? ⟨b,off+m*6+4,none⟩=some (.int .u8 ty9)∧w'.cell? ⟨b,off+m*6+5,none⟩=some (.slice B9 pl9.length c9)) (by kernel_rfl) ?_ (fun qH => ?_)
  · (first|assumption|((try go_split_ands);refine zav ?_ (fun hbX=>⟨zaa hbX f0,zaa hbX f1,zaa hbX f2,zaa hbX f3,zaa hbX f4,zaa hbX f5,zaa hbX g2,zaa hbX g6,zaa hbX g10,zaa hbX q0,zaa hbX q1,zaa hbX q2,zaa hbX q3,zaa hbX q4,zaa hbX q5⟩);(with_reducible repeat first|assumption|exact zai (by assumption) (by assumption)|refine Below.drew ?_|refine zaj ?_ _)))
  iterate 2
   first
    | (refine tkN 39 (v := ?_) rfl rfl (Or.inl ⟨by rfl, ?_⟩) (by assumption) ?_
       rotate_left
       · (intro w hSw;(try dsimp only at hSw);go_simp;try with_reducible rfl))
    | refine tkN 39 (v:=undef) rfl rfl (Or.inr ⟨by rfl,rfl⟩) (by assumption) ?_
   try simp only [List.getElem_toArray,List.getElem_cons_zero,List.getElem_cons_succ,Act.put,List.setIfInBounds_toArray,List.set_cons_zero,List.set_cons_succ,Dc1.out,Dc2.out,Dc3.out,HKD.out,HKDN.out]
  refine wpAnyH_ready (rs:=[2]) (by kernel_rfl) (by simp) ?_
  refine AllReadyH.cons (o:=_) rfl (fun K hK => ?_) ?_
  rotate_left
  · exact AllReadyH.nil
  go_simp
  (go_at_call 118;refine (k1.out _).mono ?_;rintro e w' ⟨rfl,qb⟩;have hbw:Below wx.heap.size wx w':=zai qb (by (try go_split_ands);assumption);obtain ⟨hcc,hff⟩:=zdc qb)
  refine hK.out _ _ ?_ (fun qH => ?_)
  · (try dsimp only)
    (first|assumption|((try go_split_ands);refine zav ?_ (fun hbX=>⟨zaa hbX f0,zaa hbX f1,zaa hbX f2,zaa hbX f3,zaa hbX f4,zaa hbX f5,zaa hbX g2,zaa hbX g6,zaa hbX g10,zaa hbX q0,zaa hbX q1,zaa hbX q2,zaa hbX q3,zaa hbX q4,zaa hbX q5⟩);(with_reducible repeat first|assumption|exact zai (by assumption) (by assumption)|refine Below.drew ?_|refine zaj ?_ _)))
  clear hK K
  try simp only [List.getElem_toArray,List.getElem_cons_zero,List.getElem_cons_succ,Act.put,List.setIfInBounds_toArray,List.set_cons_zero,List.set_cons_succ,Dc1.out,Dc2.out,Dc3.out,HKD.out,HKDN.out]
  iterate 32
   first
    | (refine tkN 39 (v := ?_) rfl rfl (Or.inl ⟨by rfl, ?_⟩) (by assumption) ?_
       rotate_left
       · (intro w hSw;(try dsimp only at hSw);go_simp;try with_reducible rfl))
    | refine tkN 39 (v:=undef) rfl rfl (Or.inr ⟨by rfl,rfl⟩) (by assumption) ?_
   try simp only [List.getElem_toArray,List.getElem_cons_zero,List.getElem_cons_succ,Act.put,List.setIfInBounds_toArray,List.set_cons_zero,List.set_cons_succ,Dc1.out,Dc2.out,Dc3.out,HKD.out,HKDN.out]
  refine wpAnyH_ready (rs:=[35]) (by kernel_rfl) (by simp) ?_
  refine AllReadyH.cons (o:=_) rfl (fun K hK => ?_) ?_
  rotate_left
  · exact AllReadyH.nil
  go_simp
  (go_at_call 156;refine (k2.out _).mono ?_;rintro e w' ⟨rfl,hbel2⟩;have hbw2:Below wx.heap.size wx w':=zai hbel2 (by (try go_split_ands);assumption);obtain ⟨hcc2,hff2⟩:=zdc hbel2)
  refine hK.out _ _ ?_ (fun qH => ?_)
  · (try dsimp only)
    (first|assumption|((try go_split_ands);refine zav ?_ (fun hbX=>⟨zaa hbX f0,zaa hbX f1,zaa hbX f2,zaa hbX f3,zaa hbX f4,zaa hbX f5,zaa hbX g2,zaa hbX g6,zaa hbX g10,zaa hbX q0,zaa hbX q1,zaa hbX q2,zaa hbX q3,zaa hbX q4,zaa hbX q5⟩);(with_reducible repeat first|assumption|exact zai (by assumption) (by assumption)|refine Below.drew ?_|refine zaj ?_ _)))
  clear hK K
  try simp only [List.getElem_toArray,List.getElem_cons_zero,List.getElem_cons_succ,Act.put,List.setIfInBounds_toArray,List.set_cons_zero,List.set_cons_succ,Dc1.out,Dc2.out,Dc3.out,HKD.out,HKDN.out]
  iterate 3
   first
    | (refine tkN 39 (v := ?_) rfl rfl (Or.inl ⟨by rfl, ?_⟩) (by assumption) ?_
       rotate_left
       · (intro w hSw;(try dsimp only at hSw);go_simp;try with_reducible rfl))
    | refine tkN 39 (v:=undef) rfl rfl (Or.inr ⟨by rfl,rfl⟩) (by assumption) ?_
   try simp only [List.getElem_toArray,List.getElem_cons_zero,List.getElem_cons_succ,Act.put,List.setIfInBounds_toArray,List.set_cons_zero,List.set_cons_succ,Dc1.out,Dc2.out,Dc3.out,HKD.out,HKDN.out]
  refine wpAnyH_done (by kernel_rfl) ?_ _
  all_goals
   have HBF:Hid (0<k→Jb.bef ((l.map TW.w).getD (k-1) Jb.Wt.zero) ⟨at0,⟨sq0,ti0,mk0,ty0,pl0⟩⟩):=H9 (fun _=>by rw [HGD.out];have h8:=HBV.out;rw [eq_comm,decide_eq_true_iff] at h8;exact h8)
   obtain ⟨g0,hg0⟩:∃ g0,g0=gk:=⟨_,rfl⟩
   subst hg0
   have BXZ:=H9 (BX.out.later hbw2)
   have BSZ:=H9 (BS1.out.later hbw2)
   have UZ:=H9 (U1.out.later hbw2)
   clear hm0 hm1 hm2 hw2 hw3 hw4
   clear hcc hff hbw qb f0 f1 f2 f3 f4 f5 g2 g6 g10 hU
   clear hcc2 hff2 hbw2 hbel2 q0 q1 q2 q3 q4 q5
   go_wp2_with fail
   go_loopg [5] k (fun gj j wr => ∃ y:Nat,gj+y=k∧j = .int .i64 y∧Hid (∀ i,i<y→((l.map TW.w).getD i Jb.Wt.zero).m.sq≠sq0)∧Hid (Blk wr w.heap.size 40 #[.int .i64 le, .int .i64 mo, .int .i64 nw, .bool on, .int .i64 ze, .int .i64 fi, .int .i64 hi, .int .i64 dn, .int .i64 sp, .int .i64 tr, .slice (some ⟨b,off,none⟩) l.length qc, .int .i64 la, .int .i64 tw, .int .i64 pd])∧Hid (Blk wr wo.heap.size 105 #[.int .i64 at0, .int .i64 sq0, .int .i64 ti0, .bool mk0, .int .u8 ty0, .slice B0 pl0.length c0])∧Hid (Bel w wr))
   case atStart=>exact ⟨0,by omega,rfl,H9 (fun i h=>absurd h (by omega)),BSZ,BXZ,UZ⟩
   case round =>
    obtain ⟨y,hhm,rfl,HD,BS2,BX2,U2⟩:=hrel
    have hm0:(0:Int)≤(y:Int):=by omega
    have u1:=BX2.out.at 1 _ rfl
    have u10:=BS2.out.at 10 _ rfl
    by_cases hmk:y<k
    rotate_left
    · obtain rfl:y=k:=by omega
      have hmm:(y:Int)≤(y:Int):=Int.le_refl _
      go_wp2_with fail
      go_roundg (g0-1)
      case measure=>omega
      case rel =>
       refine ⟨y+1,by omega,by go_num,H9 (fun j hj => ?_),BS2,U2⟩
       by_cases hj2:j<y
       · exact HT.out j hj2
       · obtain rfl:j=y:=by omega
         refine HO.out.2 ⟨⟨HOK.out,c1',c2',c3'⟩,?_,HBF.out⟩
         rw [List.any_eq_false]
         intro x hx
         obtain ⟨yy,hy,rfl⟩:=List.mem_map.1 hx
         obtain ⟨i,hi',rfl⟩:=List.getElem_of_mem hy
         have hik:i<j:=by simp at hi';omega
         have h9:=HD.out i hik
         rw [Jb.getD_eq (by simp;omega)] at h9
         rw [List.getElem_take]
         simpa using h9
    have hmk1:(y:Int)<(k:Int):=by omega
    have hml:(y:Int)<(l.length:Int):=by omega
    obtain ⟨a8,ha8⟩:∃ a,l[y]? = some a:=⟨_,List.getElem?_eq_getElem (by omega)⟩
    obtain ⟨b8,off8,he8,hb8,z0,z1,z2,z3,z4,z5⟩:=zbs (HA.out.1.keep (fun p hp=>U2.out.cell hp)) ha8
    injection he8 with he8
    injection he8 with he8a he8b
    subst he8a he8b
    have hm8:(l.map TW.w)[y]? = some a8.w:=by rw [List.getElem?_map,ha8];rfl
    have HM8:=H9 hm8
    obtain ⟨sq8,hsq8⟩:∃ x,x=a8.w.m.sq:=⟨_,rfl⟩
    rw [← hsq8] at z1
    have HSQ8:=H9 hsq8
    clear ha8 hm8 hsq8 z0 z2 z3 z4 z5
    by_cases heq:sq8=sq0
    · have hee:(sq8==sq0)=true:=by simpa using heq
      have hv:v=false:=HN.out (fun h=>by
       have h9:=(HO.out.1 h).2.1
       rw [List.any_eq_false] at h9
       exact h9 sq8 (List.mem_map.2 ⟨a8.w,List.mem_of_getElem? (i:=y) (by rw [List.getElem?_take,if_pos (by omega)];exact HM8.out),HSQ8.out.symm⟩) hee)
      subst hv
      clear heq
      go_wp2_with fail
      go_quiet (fail)
      go_wp2_with fail
      go_ret
      exact ⟨by first|rfl|simp,U2.out.drewN _⟩
    have hee:(sq8==sq0)=false:=by simpa using heq
    have HNE:=H9 heq
    clear heq
    go_wp2_with fail
    go_quiet (fail)
    go_wp2_with fail
    go_roundg (gk-1)
    case measure=>omega
    case rel =>
     refine ⟨y+1,by omega,by go_num,H9 (fun i hi2 => ?_),H9 (BS2.out.drewN _),H9 (BX2.out.drewN _),H9 (U2.out.drewN _)⟩
     by_cases hi3:i<y
     · exact HD.out i hi3
     · obtain rfl:i=y:=by omega
       have h9:=HM8.out
       rw [List.getD_eq_getElem?_getD,h9]
       show a8.w.m.sq≠sq0
       rw [← HSQ8.out]
       exact HNE.out
theorem zgx (le mo nw:Int) (on:Bool) (ze fi hi dn sp tr:Int) (A:Option Addr) (l:List TW) (n qc:Nat) (la tw pd:Int) (w:World) (hn:l.length=n) (hl:n≤100000) (hA:Wts w w.heap.size A l) (hP:∀ a∈l,a.w.m.pl.length≤1000000000) (v:Bool) (hv:v=Jb.valid ⟨le,mo,nw,on,ze,fi,hi,dn,sp,tr,l.map TW.w,la,tw,pd⟩):Calls Tryz.prog 69 #[.agg #[.int .i64 le, .int .i64 mo, .int .i64 nw, .bool on, .int .i64 ze, .int .i64 fi, .int .i64 hi, .int .i64 dn, .int .i64 sp, .int .i64 tr, .slice A n qc, .int .i64 la, .int .i64 tw, .int .i64 pd]] w fun e w'=>e = .returned (.bool v)∧Below w.heap.size w w':=by
 subst hn
 have HV:=H9 hv
 clear hv
 obtain ⟨cv,hcv⟩:∃ cv,cv=decide (1≤le∧le≤mo∧mo≤1000):=⟨_,rfl⟩
 have k0:=H9 fun W=>zkj le mo W cv hcv
 have HC:Hid (cv=decide (Jb.cfg le mo)):=H9 hcv
 clear hcv
 obtain ⟨b0,hb0⟩:∃ b,b=decide ((0:Int)≤nw∧nw≤281474976710656):=⟨_,rfl⟩
 have k1:=H9 fun W=>zaz nw (0) 281474976710656 W b0 hb0
 have HB0:=H9 hb0
 clear hb0
 obtain ⟨b1,hb1⟩:∃ b,b=decide ((-1125899906842624:Int)≤ze∧ze≤1125899906842624):=⟨_,rfl⟩
 have k2:=H9 fun W=>zaz ze (-1125899906842624) 1125899906842624 W b1 hb1
 have HB1:=H9 hb1
 clear hb1
 obtain ⟨b2,hb2⟩:∃ b,b=decide ((-1125899906842624:Int)≤tr∧tr≤1125899906842624):=⟨_,rfl⟩
 have k3:=H9 fun W=>zaz tr (-1125899906842624) 1125899906842624 W b2 hb2
 have HB2:=H9 hb2
 clear hb2
 obtain ⟨b3,hb3⟩:∃ b,b=decide ((-281474976710656:Int)≤fi∧fi≤281474976710656):=⟨_,rfl⟩
 have k4:=H9 fun W=>zaz fi (-281474976710656) 281474976710656 W b3 hb3
 have HB3:=H9 hb3
 clear hb3
 obtain ⟨b4,hb4⟩:∃ b,b=decide ((-1:Int)≤hi∧hi≤281474976710656):=⟨_,rfl⟩
 have k5:=H9 fun W=>zaz hi (-1) 281474976710656 W b4 hb4
 have HB4:=H9 hb4
 clear hb4
 obtain ⟨b5,hb5⟩:∃ b,b=decide ((-1:Int)≤dn∧dn≤281474976710656):=⟨_,rfl⟩
 have k6:=H9 fun W=>zaz dn (-1) 281474976710656 W b5 hb5
 have HB5:=H9 hb5
 clear hb5
 obtain ⟨b6,hb6⟩:∃ b,b=decide ((0:Int)≤sp∧sp≤72057594037927936):=⟨_,rfl⟩
 have k7:=H9 fun W=>zaz sp (0) 72057594037927936 W b6 hb6
 have HB6:=H9 hb6
 clear hb6
 obtain ⟨b7,hb7⟩:∃ b,b=decide ((0:Int)≤la∧la≤281474976710656):=⟨_,rfl⟩
 have k8:=H9 fun W=>zaz la (0) 281474976710656 W b7 hb7
 have HB7:=H9 hb7
 clear hb7
 obtain ⟨b8,hb8⟩:∃ b,b=decide ((0:Int)≤tw∧tw≤281474976710656):=⟨_,rfl⟩
 have k9:=H9 fun W=>zaz tw (0) 281474976710656 W b8 hb8
 have HB8:=H9 hb8
 clear hb8
 obtain ⟨b9,hb9⟩:∃ b,b=decide ((0:Int)≤pd∧pd≤281474976710656):=⟨_,rfl⟩
 have k10:=H9 fun W=>zaz pd (0) 281474976710656 W b9 hb9
 have HB9:=H9 hb9
 clear hb9
 have kq:=H9 fun (W:World) (hW:Bel w W)=>zny le mo nw on ze fi hi dn sp tr A l l.length qc la tw pd W rfl hl ((hA.below hW).more hW.size) hP (decide (Jb.okQ nw hi (l.map TW.w))) rfl
 have U0:=H9 ((Bel.refl w).push (.cells #[.int .i64 le, .int .i64 mo, .int .i64 nw, .bool on, .int .i64 ze, .int .i64 fi, .int .i64 hi, .int .i64 dn, .int .i64 sp, .int .i64 tr, .slice A l.length qc, .int .i64 la, .int .i64 tw, .int .i64 pd] 40))
 have BS:=H9 (Blk.new w 40 #[.int .i64 le, .int .i64 mo, .int .i64 nw, .bool on, .int .i64 ze, .int .i64 fi, .int .i64 hi, .int .i64 dn, .int .i64 sp, .int .i64 tr, .slice A l.length qc, .int .i64 la, .int .i64 tw, .int .i64 pd])
 clear hA hP
 go_enter Tryz.func69,Tryz.ntmps69
 go_wp2_with fail
 refine (k0.out _).mono ?_
 rintro e w1 ⟨rfl,hb1⟩
 have U1:=H9 (U0.out.later hb1)
 have BS1:=H9 (BS.out.later hb1)
 clear hb1 U0 BS
 have s0:=(BS1.out).at 0 _ rfl
 have s1:=(BS1.out).at 1 _ rfl
 have s2:=(BS1.out).at 2 _ rfl
 have s3:=(BS1.out).at 3 _ rfl
 have s4:=(BS1.out).at 4 _ rfl
 have s5:=(BS1.out).at 5 _ rfl
 have s6:=(BS1.out).at 6 _ rfl
 have s7:=(BS1.out).at 7 _ rfl
 have s8:=(BS1.out).at 8 _ rfl
 have s9:=(BS1.out).at 9 _ rfl
 have s10:=(BS1.out).at 10 _ rfl
 have s11:=(BS1.out).at 11 _ rfl
 have s12:=(BS1.out).at 12 _ rfl
 have s13:=(BS1.out).at 13 _ rfl
 cases cv
 · have hv:v=false:=by rw [HV.out];exact zty (fun h=>by have h2:=HC.out;rw [eq_comm,decide_eq_false_iff_not] at h2;exact h2 h)
   subst hv
   go_wp2_with fail
   go_ret
   exact ⟨by first|rfl|simp,U1.out⟩
 go_wp2_with fail
 refine (k1.out _).mono ?_
 rintro e w2 ⟨rfl,rfl⟩
 cases b0
 · have hv:v=false:=by rw [HV.out];exact zcs (fun h=>by obtain ⟨h0,h1,h2,h3,h4,h5,h6⟩:=h;have h9:=HB0.out;rw [eq_comm,decide_eq_false_iff_not] at h9;exact h9 h0)
   subst hv
   go_wp2_with fail
   go_ret
   exact ⟨by first|rfl|simp,U1.out⟩
 go_wp2_with fail
 refine (k2.out _).mono ?_
 rintro e w2 ⟨rfl,rfl⟩
 cases b1
 · have hv:v=false:=by rw [HV.out];exact zcs (fun h=>by obtain ⟨h0,h1,h2,h3,h4,h5,h6⟩:=h;have h9:=HB1.out;rw [eq_comm,decide_eq_false_iff_not] at h9;exact h9 h1)
   subst hv
   go_wp2_with fail
   go_ret
   exact ⟨by first|rfl|simp,U1.out⟩
 go_wp2_with fail
 refine (k3.out _).mono ?_
 rintro e w2 ⟨rfl,rfl⟩
 cases b2
 · have hv:v=false:=by rw [HV.out];exact zcs (fun h=>by obtain ⟨h0,h1,h2,h3,h4,h5,h6⟩:=h;have h9:=HB2.out;rw [eq_comm,decide_eq_false_iff_not] at h9;exact h9 h2)
   subst hv
   go_wp2_with fail
   go_ret
   exact ⟨by first|rfl|simp,U1.out⟩
 go_wp2_with fail
 refine (k4.out _).mono ?_
 rintro e w2 ⟨rfl,rfl⟩
 cases b3
 · have hv:v=false:=by rw [HV.out];exact zcs (fun h=>by obtain ⟨h0,h1,h2,h3,h4,h5,h6⟩:=h;have h9:=HB3.out;rw [eq_comm,decide_eq_false_iff_not] at h9;exact h9 h3)
   subst hv
   go_wp2_with fail
   go_ret
   exact ⟨by first|rfl|simp,U1.out⟩
 go_wp2_with fail
 refine (k5.out _).mono ?_
 rintro e w2 ⟨rfl,rfl⟩
 cases b4
 · have hv:v=false:=by rw [HV.out];exact zcs (fun h=>by obtain ⟨h0,h1,h2,h3,h4,h5,h6⟩:=h;have h9:=HB4.out;rw [eq_comm,decide_eq_false_iff_not] at h9;exact h9 h4)
   subst hv
   go_wp2_with fail
   go_ret
   exact ⟨by first|rfl|simp,U1.out⟩
 go_wp2_with fail
 refine (k6.out _).mono ?_
 rintro e w2 ⟨rfl,rfl⟩
 cases b5
 · have hv:v=false:=by rw [HV.out];exact zcs (fun h=>by obtain ⟨h0,h1,h2,h3,h4,h5,h6⟩:=h;have h9:=HB5.out;rw [eq_comm,decide_eq_false_iff_not] at h9;exact h9 h5)
   subst hv
   go_wp2_with fail
   go_ret
   exact ⟨by first|rfl|simp,U1.out⟩
 go_wp2_with fail
 refine (k7.out _).mono ?_
 rintro e w2 ⟨rfl,rfl⟩
 cases b6
 · have hv:v=false:=by rw [HV.out];exact zcs (fun h=>by obtain ⟨h0,h1,h2,h3,h4,h5,h6⟩:=h;have h9:=HB6.out;rw [eq_comm,decide_eq_false_iff_not] at h9;exact h9 h6)
   subst hv
   go_wp2_with fail
   go_ret
   exact ⟨by first|rfl|simp,U1.out⟩
 go_wp2_with fail
 refine (k8.out _).mono ?_
 rintro e w2 ⟨rfl,rfl⟩
 cases b7
 · have hv:v=false:=by rw [HV.out];exact zck (fun h=>by obtain ⟨h7,h8,h6⟩:=h;have h9:=HB7.out;rw [eq_comm,decide_eq_false_iff_not] at h9;exact h9 h7)
   subst hv
   go_wp2_with fail
   go_ret
   exact ⟨by first|rfl|simp,U1.out⟩
 go_wp2_with fail
 refine (k9.out _).mono ?_
 rintro e w2 ⟨rfl,rfl⟩
 cases b8
 · have hv:v=false:=by rw [HV.out];exact zck (fun h=>by obtain ⟨h7,h8,h6⟩:=h;have h9:=HB8.out;rw [eq_comm,decide_eq_false_iff_not] at h9;exact h9 h8)
   subst hv
   go_wp2_with fail
   go_ret
   exact ⟨by first|rfl|simp,U1.out⟩
 go_wp2_with fail
 refine (k10.out _).mono ?_
 rintro e w2 ⟨rfl,rfl⟩
 cases b9
 · have hv:v=false:=by rw [HV.out];exact zck (fun h=>by obtain ⟨h7,h8,h6⟩:=h;have h9:=HB9.out;rw [eq_comm,decide_eq_false_iff_not] at h9;exact h9 h6)
   subst hv
   go_wp2_with fail
   go_ret
   exact ⟨by first|rfl|simp,U1.out⟩
 have HX:Hid (Jb.Jt.nums ⟨le,mo,nw,on,ze,fi,hi,dn,sp,tr,l.map TW.w,la,tw,pd⟩):=H9 ⟨(by have h9:=HB0.out;rw [eq_comm,decide_eq_true_iff] at h9;exact h9),(by have h9:=HB1.out;rw [eq_comm,decide_eq_true_iff] at h9;exact h9),(by have h9:=HB2.out;rw [eq_comm,decide_eq_true_iff] at h9;exact h9),(by have h9:=HB3.out;rw [eq_comm,decide_eq_true_iff] at h9;exact h9),(by have h9:=HB4.out;rw [eq_comm,decide_eq_true_iff] at h9;exact h9),(by have h9:=HB5.out;rw [eq_comm,decide_eq_true_iff] at h9;exact h9),(by have h9:=HB6.out;rw [eq_comm,decide_eq_true_iff] at h9;exact h9)⟩
 have HCN:Hid (Jb.Jt.cnts ⟨le,mo,nw,on,ze,fi,hi,dn,sp,tr,l.map TW.w,la,tw,pd⟩):=H9 ⟨(by have h9:=HB7.out;rw [eq_comm,decide_eq_true_iff] at h9;exact h9),(by have h9:=HB8.out;rw [eq_comm,decide_eq_true_iff] at h9;exact h9),(by have h9:=HB9.out;rw [eq_comm,decide_eq_true_iff] at h9;exact h9)⟩
 have HCF:Hid (Jb.cfg le mo):=H9 (by have h2:=HC.out;rw [eq_comm,decide_eq_true_iff] at h2;exact h2)
 clear HC HB0 k1 HB1 k2 HB2 k3 HB3 k4 HB4 k5 HB5 k6 HB6 k7 HB7 k8 HB8 k9 HB9 k10 k0
 cases on
 rotate_left
 · have hv:v=decide (Jb.okQ nw hi (l.map TW.w)):=by rw [HV.out];exact zmd HX.out HCF.out HCN.out (Or.inl rfl)
   have HV2:=H9 hv
   clear hv
   go_wp2_with fail
   refine (kq.out _ U1.out).mono ?_
   rintro e w2 ⟨rfl,hb2⟩
   have UF:=H9 (U1.out.later hb2)
   clear hb2
   go_wp2_with fail
   go_ret
   exact ⟨ziz HV2.out.symm,UF.out⟩
 by_cases y1:l.length=0
 rotate_left
 · have hv:v=false:=by rw [HV.out];refine zee (fun h => ?_);rcases h with h|⟨y1,y2,y3⟩;exact absurd h (by simp);simp only [List.length_map] at y1 y2 y3;omega
   subst hv
   have y1n:¬l=[]:=by intro h;rw [h] at y1;exact y1 rfl
   have y1':((l.length:Int) != 0)=true:=by simpa using y1
   go_wp2_with fail
   go_ret
   exact ⟨by first|rfl|simp,U1.out⟩
 obtain rfl:l=[]:=List.eq_nil_of_length_eq_zero y1
 simp only [List.length_nil] at s10
 clear y1
 by_cases y2:hi = -1
 rotate_left
 · have hv:v=false:=by rw [HV.out];refine zee (fun h => ?_);rcases h with h|⟨y1,y2,y3⟩;exact absurd h (by simp);simp only [List.length_map] at y1 y2 y3;omega
   subst hv
   have y2':(hi != -1)=true:=by simpa using y2
   go_wp2_with fail
   go_ret
   exact ⟨by first|rfl|simp,U1.out⟩
 by_cases y3:dn = -1
 rotate_left
 · have hv:v=false:=by rw [HV.out];refine zee (fun h => ?_);rcases h with h|⟨y1,y2,y3⟩;exact absurd h (by simp);simp only [List.length_map] at y1 y2 y3;omega
   subst hv
   have y3':(dn != -1)=true:=by simpa using y3
   have y2':(hi != -1)=false:=by simpa using y2
   go_wp2_with fail
   go_ret
   exact ⟨by first|rfl|simp,U1.out⟩
 have hrest:Jb.Jt.rest ⟨le,mo,nw,false,ze,fi,hi,dn,sp,tr,[].map TW.w,la,tw,pd⟩:=Or.inr ⟨rfl,y2,y3⟩
 have HRS:=H9 hrest
 have y3':(dn != -1)=false:=by simpa using y3
 have y2':(hi != -1)=false:=by simpa using y2
 clear y2 y3 hrest
 have hv:v=decide (Jb.okQ nw hi (([]:List TW).map TW.w)):=by rw [HV.out];exact zmd HX.out HCF.out HCN.out (HRS.out)
 have HV2:=H9 hv
 clear hv
 go_wp2_with fail
 refine (kq.out _ U1.out).mono ?_
 rintro e w2 ⟨rfl,hb2⟩
 have UF:=H9 (U1.out.later hb2)
 clear hb2
 go_wp2_with fail
 go_ret
 exact ⟨ziz HV2.out.symm,UF.out⟩
theorem zvq (sq ti:Int) (mk:Bool) (ty:Int) (pl:List Int) (A B:Option Addr) (c d:Nat) (w:World) (hA:IntsAt w w.heap.size .u8 A pl) (hB:IntsAt w w.heap.size .u8 B pl):Calls Tryz.prog 158 #[.agg #[.int .i64 sq, .int .i64 ti, .bool mk, .int .u8 ty, .slice A pl.length c], .agg #[.int .i64 sq, .int .i64 ti, .bool mk, .int .u8 ty, .slice B pl.length d]] w fun e w'=>e = .returned (.bool true)∧Below w.heap.size w w':=by
 have hb:Bel w ((w.alloc (.cells #[.int .i64 sq, .int .i64 ti, .bool mk, .int .u8 ty, .slice A pl.length c] 103)).alloc (.cells #[.int .i64 sq, .int .i64 ti, .bool mk, .int .u8 ty, .slice B pl.length d] 103)):=((Bel.refl w).push _).push _
 have v1:=zco (P:=Tryz.prog) (hA.below hb) 22 9 5 Tryz.underlying22 Tryz.underlying5 Tryz.underlying9 pl.length c rfl
 have v2:=zco (P:=Tryz.prog) (hB.below hb) 22 9 5 Tryz.underlying22 Tryz.underlying5 Tryz.underlying9 pl.length d rfl
 have U:=H9 hb
 clear hb hA hB
 go_enter Tryz.func158,Tryz.ntmps158
 go_wp2_with fail
 go_ret
 exact ⟨by first|rfl|simp,U.out⟩
theorem zvr (A B:Option Addr) (l1 l2:List TW) (n c d:Nat) (w:World) (hn:l1.length=n) (heq:l1.map TW.w=l2.map TW.w) (hl:n≤1000000) (hA:Wts w w.heap.size A l1) (hB:Wts w w.heap.size B l2):Calls Tryz.prog 122 #[.slice A n c, .slice B n d] w fun e w'=>e = .returned (.bool true)∧Below w.heap.size w w':=by
 subst hn
 have hl2:l2.length=l1.length:=by have:=congrArg List.length heq;simpa using this.symm
 have HL2:=H9 hl2
 have HEQ:=H9 heq
 have HA:=H9 hA
 have HB:=H9 hB
 clear hl2 heq hA hB
 go_enter Tryz.func122,Tryz.ntmps122
 go_wp2_with fail
 go_loopg [5] l1.length (fun gk i wr => ∃ k:Nat,gk+k=l1.length∧i = .int .i64 k∧Hid (Bel w wr))
 case atStart=>exact ⟨0,rfl,rfl,H9 (Bel.refl w)⟩
 case round =>
  obtain ⟨k,hgk,rfl,U⟩:=hrel
  have hi0:(0:Int)≤(k:Int):=by omega
  by_cases hk:k<l1.length
  rotate_left
  · obtain rfl:k=l1.length:=by omega
    have hi1:(l1.length:Int)≤(l1.length:Int):=Int.le_refl _
    go_wp2_with fail
    go_ret
    exact ⟨by first|rfl|simp,U.out⟩
  have hi1:(k:Int)<(l1.length:Int):=by omega
  obtain ⟨a,ha⟩:∃ a,l1[k]? = some a:=⟨_,List.getElem?_eq_getElem hk⟩
  obtain ⟨a2,ha2⟩:∃ a,l2[k]? = some a:=⟨_,List.getElem?_eq_getElem (by have:=HL2.out;omega)⟩
  have hww:a.w=a2.w:=by
   have h1:(l1.map TW.w)[k]? = some a.w:=by rw [List.getElem?_map,ha];rfl
   have h2:(l2.map TW.w)[k]? = some a2.w:=by rw [List.getElem?_map,ha2];rfl
   rw [HEQ.out,h2] at h1
   injection h1 with h1
   exact h1.symm
  obtain ⟨b,off,rfl,hbB,e0,e1,e2,e3,e4,e5⟩:=zbs (HA.out.1.keep (fun p hp=>U.out.cell hp)) ha
  obtain ⟨b',off',rfl,hbB',q0,q1,q2,q3,q4,q5⟩:=zbs (HB.out.1.keep (fun p hp=>U.out.cell hp)) ha2
  have p1:=(HA.out.2 a (List.mem_of_getElem? ha)).keep (w':=wr) (fun p hp=>U.out.cell hp)
  have p2:=(HB.out.2 a2 (List.mem_of_getElem? ha2)).keep (w':=wr) (fun p hp=>U.out.cell hp)
  rw [← hww] at q0 q1 q2 q3 q4 q5 p2
  obtain ⟨⟨at0,⟨sq0,ti0,mk0,ty0,pl0⟩⟩,B0,c0⟩:=a
  obtain ⟨x2,B2,c2⟩:=a2
  simp only at e0 e1 e2 e3 e4 e5 q0 q1 q2 q3 q4 q5 p1 p2
  have hbs:=U.out.size
  have k1:=H9 fun (W:World) (hW:Below wr.heap.size wr W)=>zvq sq0 ti0 mk0 ty0 pl0 B0 B2 c0 c2 W (((p1.more hbs).below hW).more hW.size) (((p2.more hbs).below hW).more hW.size)
  have hU:Below wr.heap.size wr wr:=Below.refl _ _
  have hb1:b<wr.heap.size:=by omega
  have hb2:b'<wr.heap.size:=by omega
  clear ha ha2 hww p1 p2
  go_wp2_with fail
  first
   | go_region_held3 (fun w'=>Below wr.heap.size wr w'∧w'.cell? ⟨b,off+k*6,none⟩=some (.int .i64 at0)∧w'.cell? ⟨b,off+k*6+1,none⟩=some (.int .i64 sq0)∧w'.cell? ⟨b,off+k*6+1+1,none⟩=some (.int .i64 ti0)∧w'.cell? ⟨b,off+k*6+1+2,none⟩=some (.bool mk0)∧w'.cell? ⟨b,off+k*6+1+3,none⟩=some (.int .u8 ty0)∧w'.cell? ⟨b,off+k*6+1+4,none⟩=some (.slice B0 pl0.length c0)∧w'.cell? ⟨b',off'+k*6,none⟩=some (.int .i64 at0)∧w'.cell? ⟨b',off'+k*6+1,none⟩=some (.int .i64 sq0)∧w'.cell? ⟨b',off'+k*6+1+1,none⟩=some (.int .i64 ti0)∧w'.cell? ⟨b',off'+k*6+1+2,none⟩=some (.bool mk0)∧w'.cell? ⟨b',off'+k*6+1+3,none⟩=some (.int .u8 ty0)∧w'.cell? ⟨b',off'+k*6+1+4,none⟩=some (.slice B2 pl0.length c2))
    (first|assumption|((try go_split_ands);refine zav ?_ (fun hbX=>⟨zaa hbX e0,zaa hbX e1,zaa hbX e2,zaa hbX e3,zaa hbX e4,zaa hbX e5,zaa hbX q0,zaa hbX q1,zaa hbX q2,zaa hbX q3,zaa hbX q4,zaa hbX q5⟩);(with_reducible repeat first|assumption|exact zai (by assumption) (by assumption)|refine Below.drew ?_|refine zaj ?_ _)))
    (first|(go_at_call 158;refine (k1.out _ (by (try go_split_ands);assumption)).mono ?_;rintro e w' ⟨rfl,qb⟩;have hbw:Below wr.heap.size wr w':=zai qb (by (try go_split_ands);assumption);obtain ⟨hcc,hff⟩:=zdc qb))
   | fail
  all_goals
   have UZ:=H9 (U.out.later hbw)
   clear hcc hff hbw qb e0 e1 e2 e3 e4 e5 q0 q1 q2 q3 q4 q5
   go_wp2_with fail
   go_roundg (gk-1)
   case measure=>omega
   case rel=>exact ⟨k+1,by omega,by go_num,UZ⟩
theorem zqm (s:Jb.Jt) (A B:Option Addr) (l1 l2:List TW) (n c d:Nat) (w:World) (hn:l1.length=n) (heq:l1.map TW.w=l2.map TW.w) (hl:n≤1000000) (hA:Wts w w.heap.size A l1) (hB:Wts w w.heap.size B l2):Calls Tryz.prog 56 #[.agg #[.int .i64 s.least, .int .i64 s.most, .int .i64 s.now, .bool s.on, .int .i64 s.zero, .int .i64 s.first, .int .i64 s.high, .int .i64 s.done, .int .i64 s.spread, .int .i64 s.trans, .slice A n c, .int .i64 s.late, .int .i64 s.twice, .int .i64 s.played], .agg #[.int .i64 s.least, .int .i64 s.most, .int .i64 s.now, .bool s.on, .int .i64 s.zero, .int .i64 s.first, .int .i64 s.high, .int .i64 s.done, .int .i64 s.spread, .int .i64 s.trans, .slice B n d, .int .i64 s.late, .int .i64 s.twice, .int .i64 s.played]] w fun e w'=>e = .returned (.bool true)∧Below w.heap.size w w':=by
 have U:=H9 (((Bel.refl w).push (.cells #[.int .i64 s.least, .int .i64 s.most, .int .i64 s.now, .bool s.on, .int .i64 s.zero, .int .i64 s.first, .int .i64 s.high, .int .i64 s.done, .int .i64 s.spread, .int .i64 s.trans, .slice A n c, .int .i64 s.late, .int .i64 s.twice, .int .i64 s.played] 40)).push (.cells #[.int .i64 s.least, .int .i64 s.most, .int .i64 s.now, .bool s.on, .int .i64 s.zero, .int .i64 s.first, .int .i64 s.high, .int .i64 s.done, .int .i64 s.spread, .int .i64 s.trans, .slice B n d, .int .i64 s.late, .int .i64 s.twice, .int .i64 s.played] 40))
 have k1:=H9 (zvr A B l1 l2 n c d _ hn heq hl ((hA.below U.out).more U.out.size) ((hB.below U.out).more U.out.size))
 clear hA hB heq hn
 go_enter Tryz.func56,Tryz.ntmps56
 go_wp2_with fail
 refine k1.out.mono ?_
 rintro e w1 ⟨rfl,hb1⟩
 have U1:=H9 (U.out.later hb1)
 clear hb1
 go_wp2_with fail
 go_ret
 exact ⟨by first|rfl|simp,U1.out⟩
end Go.Proofs.YtahbecinkciahaaGreat
namespace Go.Proofs.YtahbecinkciahaaGreat
open Go.RowKit
theorem ztf (s:Jb.Jt) (A:Option Addr) (l:List TW) (n c:Nat) (w:World) (hq:l.map TW.w=s.q) (hn:l.length=n) (hl:n≤100000) (hA:Wts w w.heap.size A l) (hP:∀ a∈l,a.w.m.pl.length≤1000000000) (v:Bool) (hv:v=Jb.valid s):Calls Tryz.prog 69 #[.agg #[.int .i64 s.least, .int .i64 s.most, .int .i64 s.now, .bool s.on, .int .i64 s.zero, .int .i64 s.first, .int .i64 s.high, .int .i64 s.done, .int .i64 s.spread, .int .i64 s.trans, .slice A n c, .int .i64 s.late, .int .i64 s.twice, .int .i64 s.played]] w fun e w'=>e = .returned (.bool v)∧Below w.heap.size w w':=by
 refine zgx s.least s.most s.now s.on s.zero s.first s.high s.done s.spread s.trans A l n c s.late s.twice s.played w hn hl hA hP v ?_
 rw [hq];exact hv
end Go.Proofs.YtahbecinkciahaaGreat
namespace Go.Proofs.YtahbecinkciahaaGreat
attribute [local go_sem ↓] zae zaf
attribute [local go_sem] zad zag
open Go.RowKit
theorem zkk (v i:Int) (w:World):Calls Tryz.prog 67 #[.agg #[.int .i64 v, .int .i64 i]] w fun e w'=>e = .returned (.bool (Dlt.valid v i))∧Below w.heap.size w w':=by
 refine (zmz v i w).mono ?_
 rintro e w' ⟨rfl,rfl⟩
 exact ⟨rfl,(Below.refl _ _).alloc (Nat.le_refl _) _⟩
def tkB (t:Pk.Tr):Bool:=decide (0≤t.high∧t.high≤281474976710656 ∧ -1≤t.jump∧t.jump≤65535)
theorem znz (t:Pk.Tr) (w:World):Calls Tryz.prog 70 #[.agg #[.bool t.on, .int .i64 t.high, .int .i64 t.jump]] w fun e w'=>e = .returned (.bool (tkB t))∧Below w.heap.size w w':=by
 unfold tkB
 by_cases h:0≤t.high∧t.high≤281474976710656 ∧ -1≤t.jump∧t.jump≤65535
 · rw [decide_eq_true h]
   exact zdx t.high t.jump w t.on h.1 h.2.1 h.2.2.1 h.2.2.2
 · rw [decide_eq_false h]
   exact zjl t.high t.jump w t.on h
theorem zcm (p:Sb.Pt) (A:Option Addr) (l:List TW) (n c:Nat) (X:Array Value) (hX:X=PA p A n c) (w:World) (hq:l.map TW.w=p.jt.q) (hn:l.length=n) (hl:n≤100000) (hA:Wts w w.heap.size A l) (hP:∀ a∈l,a.w.m.pl.length≤1000000000) (v:Bool) (hv:v=p.valid):Calls Tryz.prog 22 #[.agg X] w fun e w'=>e = .returned (.bool v)∧Below w.heap.size w w':=by
 have PB0:=H9 (PB.new w X hX)
 have U0:=H9 ((Bel.refl w).push (.cells X 48))
 have HA:=H9 hA
 have HV:=H9 hv
 obtain ⟨v1,hv1⟩:∃ v,v=speechB p.codec:=⟨_,rfl⟩
 obtain ⟨v2,hv2⟩:∃ v,v=Dlt.valid p.cv p.ci:=⟨_,rfl⟩
 obtain ⟨v3,hv3⟩:∃ v,v=Jb.valid p.jt:=⟨_,rfl⟩
 obtain ⟨v4,hv4⟩:∃ v,v=p.tn.valid:=⟨_,rfl⟩
 obtain ⟨v5,hv5⟩:∃ v,v=tkB p.tk:=⟨_,rfl⟩
 have k1:=H9 fun W=>zdi p.codec W
 have k2:=H9 fun W=>zkk p.cv p.ci W
 have k3:=H9 fun (W:World) hW=>ztf p.jt A l n c W hq hn hl hW hP v3 hv3
 have k4:∀ W,Calls Tryz.prog 68 #[.agg #[.bool p.tn.on, .int .u8 p.tn.code, .int .u8 p.tn.vol, .int .u32 p.tn.start, .int .i64 p.tn.len, .int .i64 p.tn.ends]] W fun e w'=>e = .returned (.bool p.tn.valid)∧Below W.heap.size W w':=fun W=>by
  refine (zet p.tn.on p.tn.code p.tn.vol p.tn.start p.tn.len p.tn.ends W).mono ?_
  rintro e w' ⟨rfl,h⟩
  exact ⟨rfl,by first|exact h|(subst h;exact Below.refl _ _)|(subst h;exact (Below.refl _ _).alloc (Nat.le_refl _) _)⟩
 have k5:=H9 fun W=>znz p.tk W
 rw [← hv1] at k1
 rw [← hv2] at k2
 rw [← hv4] at k4
 rw [← hv5] at k5
 replace k4:=H9 k4
 have H1:=H9 hv1
 have H2:=H9 hv2
 have H3:=H9 hv3
 have H4:=H9 hv4
 have H5:=H9 hv5
 clear hX hA hv hP hq hv1 hv2 hv3 hv4 hv5
 go_enter Tryz.func22,Tryz.ntmps22
 go_upto_region 1 with fail
 obtain ⟨W,hW⟩:∃ W,W=w.alloc (Obj.cells X 48):=⟨_,rfl⟩
 rw [← hW] at PB0 U0 ⊢
 clear hW
 obtain ⟨g,hg⟩:∃ g,g=w.heap.size:=⟨_,rfl⟩
 rw [← hg] at PB0 ⊢
 clear hg
 have c0:=PB0.out.cell 0 _ rfl
 go_wp2_with fail
 refine (k1.out _).mono ?_
 rintro e wq ⟨rfl,hb1⟩
 replace U0:=H9 (U0.out.later hb1)
 replace PB0:=H9 (PB0.out.later hb1)
 clear hb1 k1
 clear c0
 cases v1
 · obtain rfl:v=false:=by rw [HV.out];unfold Sb.Pt.valid;rw [← H1.out];rfl
   go_wp2_with fail
   go_ret
   exact ⟨rfl,U0.out⟩
 obtain ⟨x6,x7⟩:=PB0.out.cd
 go_wp2_with fail
 refine (k2.out _).mono ?_
 rintro e wq ⟨rfl,hb1⟩
 replace U0:=H9 (U0.out.later hb1)
 replace PB0:=H9 (PB0.out.later hb1)
 clear hb1 k2
 clear x6 x7
 cases v2
 · obtain rfl:v=false:=by rw [HV.out];unfold Sb.Pt.valid;rw [← H2.out];simp
   go_wp2_with fail
   go_ret
   exact ⟨rfl,U0.out⟩
 obtain ⟨x8,x9,x10,x11,x12,x13⟩:=PB0.out.tn
 go_wp2_with fail
 refine (k4.out _).mono ?_
 rintro e wq ⟨rfl,hb1⟩
 replace U0:=H9 (U0.out.later hb1)
 replace PB0:=H9 (PB0.out.later hb1)
 clear hb1 k4
 clear x8 x9 x10 x11 x12 x13
 cases v4
 · obtain rfl:v=false:=by rw [HV.out];unfold Sb.Pt.valid;rw [← H4.out];simp
   go_wp2_with fail
   go_ret
   exact ⟨rfl,U0.out⟩
 obtain ⟨x14,x15,x16,x17,x18,x19,x20,x21,x22,x23,x24,x25,x26,x27⟩:=PB0.out.jt
 go_wp2_with fail
 refine (k3.out _ (HA.out.later U0.out)).mono ?_
 rintro e wq ⟨rfl,hb1⟩
 replace U0:=H9 (U0.out.later hb1)
 replace PB0:=H9 (PB0.out.later hb1)
 clear hb1 k3
 clear x14 x15 x16 x17 x18 x19 x20 x21 x22 x23 x24 x25 x26 x27 HA
 cases v3
 · obtain rfl:v=false:=by rw [HV.out];unfold Sb.Pt.valid;rw [← H3.out];simp
   go_wp2_with fail
   go_ret
   exact ⟨rfl,U0.out⟩
 have HV2:Hid (v=decide p.near):=H9 (by rw [HV.out];unfold Sb.Pt.valid;rw [← H1.out,← H2.out,← H3.out,← H4.out];rfl)
 obtain ⟨x28,x29,x30⟩:=PB0.out.tk
 go_wp2_with fail
 refine (k5.out _).mono ?_
 rintro e wq ⟨rfl,hb1⟩
 replace U0:=H9 (U0.out.later hb1)
 replace PB0:=H9 (PB0.out.later hb1)
 clear hb1 k5
 clear x28 x29 x30
 obtain ⟨x28,x29,x30⟩:=PB0.out.tk
 have x31:=PB0.out.cell 31 _ rfl
 cases v5
 · obtain rfl:v=false:=by
    rw [HV2.out,decide_eq_false_iff_not]
    have h5:=H5.out.symm
    unfold tkB at h5
    rw [decide_eq_false_iff_not] at h5
    unfold Sb.Pt.near;omega
   go_wp2_with fail
   go_ret
   exact ⟨rfl,U0.out⟩
 have h5:=H5.out.symm
 unfold tkB at h5
 rw [decide_eq_true_iff] at h5
 obtain ⟨t0,t1,t2,t3⟩:=h5
 have T:=H9 (show 0≤p.tk.high ∧ -1≤p.tk.jump∧p.tk.jump≤65535 from ⟨t0,t2,t3⟩)
 clear t0 t1 t2 t3
 by_cases u1:p.tk.high≤140737488355328
 rotate_left
 · obtain rfl:v=false:=by rw [HV2.out,decide_eq_false_iff_not];unfold Sb.Pt.near;omega
   have d:=decide_eq_false u1
   replace u1:=Int.not_le.1 u1
   go_wp2_with fail
   go_ret
   exact ⟨rfl,U0.out⟩
 by_cases u2 : -140737488355328≤p.ht
 rotate_left
 · obtain rfl:v=false:=by rw [HV2.out,decide_eq_false_iff_not];unfold Sb.Pt.near;omega
   have d:=decide_eq_false u2
   replace u2:=Int.not_le.1 u2
   go_wp2_with fail
   go_ret
   exact ⟨rfl,U0.out⟩
 by_cases u3:p.ht≤140737488355328
 rotate_left
 · obtain rfl:v=false:=by rw [HV2.out,decide_eq_false_iff_not];unfold Sb.Pt.near;omega
   have d:=decide_eq_false u3
   replace u3:=Int.not_le.1 u3
   go_wp2_with fail
   go_ret
   exact ⟨rfl,U0.out⟩
 obtain rfl:v=true:=by rw [HV2.out,decide_eq_true_iff];have:=T.out;unfold Sb.Pt.near;omega
 go_wp2_with fail
 go_ret
 exact ⟨rfl,U0.out⟩
theorem zqn {w:World} {p:Sb.Pt} {A:Option Addr} {l:List TW} {n c:Nat} {x:Rx} {now:Int} {X:Array Value} {R:Ending→World→Prop} (C:VC w p A l n c x now) (hX:X=PA p A n c) (hv:p.valid=true) (hn:¬now<p.jt.now)
 (h:∀ (W:World) (a:Act),RS w W p A n c x→Fr 199 [(1, .int .i64 now),(3, .pointer (some ⟨w.heap.size,0,none⟩)),(5, .pointer (some ⟨w.heap.size+1,0,none⟩)),(6, .pointer (some ⟨w.heap.size+1+1,0,none⟩))] a→firstWp Tryz.prog rv5_code (bodyPost Tryz.prog Tryz.f12 R) a W):Calls Tryz.prog 12 #[.agg X, .int .i64 now, .agg x.row] w R:=by
 have S:=RS.new (w:=w) x X hX
 have hv2:=hv.symm
 have k1:=H9 fun (W:World) hW=>zcm p A l n c (PA p A n c) rfl W C.pc.q C.pc.len C.pc.n5 hW (fun a h=>Nat.le_trans (C.pc.pay a h) (by decide)) true hv2
 have hn1:¬(281474976710656:Int)<now:=Int.not_lt.2 C.rc.n1
 have hpl:¬(1500:Int)<(x.pl.length:Int):=by have:=C.rc.h15;omega
 clear hX hv hv2
 go_enter Tryz.func12,Tryz.ntmps12
 go_upto_region 1 with fail
 change Code.wp _ _ _ _ (((w.alloc (Obj.cells X 48)).alloc (Obj.cells x.row 51)).alloc (Obj.cells (PA Sb.Pt.zero none 0 0) 48))
 obtain ⟨W,hW⟩:∃ W,W=((w.alloc (Obj.cells X 48)).alloc (Obj.cells x.row 51)).alloc (Obj.cells (PA Sb.Pt.zero none 0 0) 48):=⟨_,rfl⟩
 rw [← hW] at S ⊢
 clear hW
 go_wp2_with (first|(refine zab rfl 48 (.tmp 3) rfl (w.heap.size) 0 rfl 48 (PL p A n c) S.b0 48 _ Tryz.underlying48 zah (show 0+48≤48 by decide) (PA p A n c) (by rfl) rfl ?_)|fail)
 refine (k1.out _ (C.pc.av.later S.u)).mono ?_
 rintro e w1 ⟨rfl,hb1⟩
 replace S:=S.later hb1
 clear hb1 k1
 have x16:=S.cell 16 _ rfl
 have y9:=S.c9
 go_upto_region 5 with fail
 refine zas (by assumption) ?_
 exact h _ _ S (Fr.mk rfl ⟨rfl,rfl,rfl,rfl,trivial⟩)
theorem zer {w:World} {p:Sb.Pt} {A:Option Addr} {l:List TW} {n c:Nat} {x:Rx} {now:Int} {X:Array Value} (C:PC w p A l n c) (hX:X=PA p A n c) (er:Int) (he:(er=2∧(Sb.chkT p now=2∨1500<x.pl.length))∨(er=9∧Sb.chkT p now=9∧¬1500<x.pl.length)):Calls Tryz.prog 12 #[.agg X, .int .i64 now, .agg x.row] w (RecvX (Sb.Pt.zero,0,[],er) w):=by
 have S:=RS.new (w:=w) x X hX
 obtain ⟨v,hv⟩:∃ v,v=p.valid:=⟨_,rfl⟩
 have k1:=H9 fun (W:World) hW=>zcm p A l n c (PA p A n c) rfl W C.q C.len C.n5 hW (fun a h=>Nat.le_trans (C.pay a h) (by decide)) v hv
 have hcv:Sb.chkT p now=if v=false∨281474976710656<now then 2 else if now<p.jt.now then 9 else 0:=by rw [hv];rfl
 have HC:=H9 hcv
 clear hcv hv
 have HE:=H9 he
 clear he hX
 go_enter Tryz.func12,Tryz.ntmps12
 go_upto_region 1 with fail
 change Code.wp _ _ _ _ (((w.alloc (Obj.cells X 48)).alloc (Obj.cells x.row 51)).alloc (Obj.cells (PA Sb.Pt.zero none 0 0) 48))
 obtain ⟨W,hW⟩:∃ W,W=((w.alloc (Obj.cells X 48)).alloc (Obj.cells x.row 51)).alloc (Obj.cells (PA Sb.Pt.zero none 0 0) 48):=⟨_,rfl⟩
 rw [← hW] at S ⊢
 clear hW
 go_wp2_with (first|(refine zab rfl 48 (.tmp 3) rfl (w.heap.size) 0 rfl 48 (PL p A n c) S.b0 48 _ Tryz.underlying48 zah (show 0+48≤48 by decide) (PA p A n c) (by rfl) rfl ?_)|fail)
 refine (k1.out _ (C.av.later S.u)).mono ?_
 rintro e w1 ⟨rfl,hb1⟩
 replace S:=S.later hb1
 clear hb1 k1
 have hL:=S.lt
 have x16:=S.cell 16 _ rfl
 have y9:=S.c9
 have hpn:(0:Int)≤(x.pl.length:Int):=by omega
 cases v
 · obtain rfl:er=2:=by
    rcases HE.out with h|⟨_,h,_⟩
    · exact h.1
    · rw [HC.out,if_pos (.inl rfl)] at h;cases h
   go_wp2_with (first|(refine zac rfl 48 (.tmp 6) (.tmp 43) rfl (w.heap.size+1+1) 0 rfl 48 (PL Sb.Pt.zero none 0 0) S.b2 (PL Sb.Pt.zero none 0 0) rfl zah (show 0+48≤48 by decide) rfl (PL Sb.Pt.zero none 0 0) rfl ?_;intro WH BH OH)|fail)
   exact bodyPost_ret (v := .tuple #[.agg (PA Sb.Pt.zero none 0 0), .int .u8 0, .slice none 0 0, .int .u8 2]) (zar Tryz.results12 rfl (PB.load (p:=Sb.Pt.zero) (A:=none) (n:=0) (c:=0) BH) rfl rfl rfl) rfl (RecvX.zero rfl (OH.bel S.u (by omega)))
 by_cases h1:281474976710656<now
 · obtain rfl:er=2:=by
    rcases HE.out with h|⟨_,h,_⟩
    · exact h.1
    · rw [HC.out,if_pos (.inr h1)] at h;cases h
   go_wp2_with (first|(refine zac rfl 48 (.tmp 6) (.tmp 43) rfl (w.heap.size+1+1) 0 rfl 48 (PL Sb.Pt.zero none 0 0) S.b2 (PL Sb.Pt.zero none 0 0) rfl zah (show 0+48≤48 by decide) rfl (PL Sb.Pt.zero none 0 0) rfl ?_;intro WH BH OH)|fail)
   exact bodyPost_ret (v := .tuple #[.agg (PA Sb.Pt.zero none 0 0), .int .u8 0, .slice none 0 0, .int .u8 2]) (zar Tryz.results12 rfl (PB.load (p:=Sb.Pt.zero) (A:=none) (n:=0) (c:=0) BH) rfl rfl rfl) rfl (RecvX.zero rfl (OH.bel S.u (by omega)))
 by_cases h2:1500<(x.pl.length:Int)
 · obtain rfl:er=2:=by
    rcases HE.out with h|⟨_,_,h⟩
    · exact h.1
    · omega
   go_wp2_with (first|(refine zac rfl 48 (.tmp 6) (.tmp 43) rfl (w.heap.size+1+1) 0 rfl 48 (PL Sb.Pt.zero none 0 0) S.b2 (PL Sb.Pt.zero none 0 0) rfl zah (show 0+48≤48 by decide) rfl (PL Sb.Pt.zero none 0 0) rfl ?_;intro WH BH OH)|fail)
   exact bodyPost_ret (v := .tuple #[.agg (PA Sb.Pt.zero none 0 0), .int .u8 0, .slice none 0 0, .int .u8 2]) (zar Tryz.results12 rfl (PB.load (p:=Sb.Pt.zero) (A:=none) (n:=0) (c:=0) BH) rfl rfl rfl) rfl (RecvX.zero rfl (OH.bel S.u (by omega)))
 have h3:now<p.jt.now:=by
  rcases HE.out with ⟨_,h|h⟩|⟨_,h,_⟩
  · rw [HC.out,if_neg (by rintro (h|h);cases h;exact h1 h)] at h
    split at h<;>cases h
  · omega
  · rw [HC.out,if_neg (by rintro (h|h);cases h;exact h1 h)] at h
    by_cases h4:now<p.jt.now
    · exact h4
    · rw [if_neg h4] at h;cases h
 obtain rfl:er=9:=by
  rcases HE.out with ⟨_,h|h⟩|⟨h,_,_⟩
  · rw [HC.out,if_neg (by rintro (h|h);cases h;exact h1 h),if_pos h3] at h;cases h
  · omega
  · exact h
 go_wp2_with (first|(refine zac rfl 48 (.tmp 6) (.tmp 49) rfl (w.heap.size+1+1) 0 rfl 48 (PL Sb.Pt.zero none 0 0) S.b2 (PL Sb.Pt.zero none 0 0) rfl zah (show 0+48≤48 by decide) rfl (PL Sb.Pt.zero none 0 0) rfl ?_;intro WH BH OH)|fail)
 exact bodyPost_ret (v := .tuple #[.agg (PA Sb.Pt.zero none 0 0), .int .u8 0, .slice none 0 0, .int .u8 9]) (zar Tryz.results12 rfl (PB.load (p:=Sb.Pt.zero) (A:=none) (n:=0) (c:=0) BH) rfl rfl rfl) rfl (RecvX.zero rfl (OH.bel S.u (by omega)))
theorem zfq {w:World} {p:Sb.Pt} {A:Option Addr} {l:List TW} {n c:Nat} {x:Rx} {now:Int} {X:Array Value} (C:PC w p A l n c) (hX:X=PA p A n c) (er:Int) (he:(er=2∧(Sb.chkT p now=2∨1500<x.pl.length))∨(er=9∧Sb.chkT p now=9∧¬1500<x.pl.length)):Calls Tryz.prog 11 #[.agg X, .int .i64 now, .agg x.row] w (RecvX (Sb.Pt.zero,0,[],er) w):=by
 have S:=RS.new (w:=w) x X hX
 obtain ⟨v,hv⟩:∃ v,v=Sb.chkT p now:=⟨_,rfl⟩
 have k1:=H9 fun (W:World) hW=>zbv p C.wf A l n c (PA p A n c) rfl W C.q C.len C.n5 hW C.sq now
 rw [← hv] at k1 he
 have HE:=H9 he
 clear he hX hv
 go_enter Tryz.func11,Tryz.ntmps11
 go_upto_region 1 with fail
 change Code.wp _ _ _ _ (((w.alloc (Obj.cells X 48)).alloc (Obj.cells x.row 51)).alloc (Obj.cells (PA Sb.Pt.zero none 0 0) 48))
 obtain ⟨W,hW⟩:∃ W,W=((w.alloc (Obj.cells X 48)).alloc (Obj.cells x.row 51)).alloc (Obj.cells (PA Sb.Pt.zero none 0 0) 48):=⟨_,rfl⟩
 rw [← hW] at S ⊢
 clear hW
 go_wp2_with (first|(refine zab rfl 48 (.tmp 3) rfl (w.heap.size) 0 rfl 48 (PL p A n c) S.b0 48 _ Tryz.underlying48 zah (show 0+48≤48 by decide) (PA p A n c) (by rfl) rfl ?_)|fail)
 refine (k1.out _ (C.av.later S.u)).mono ?_
 rintro e w1 ⟨rfl,hb1⟩
 replace S:=S.later hb1
 clear hb1 k1
 have hL:=S.lt
 have y9:=S.c9
 have hpn:(0:Int)≤(x.pl.length:Int):=by omega
 by_cases h2:v=2
 · subst h2
   obtain rfl:er=2:=by
    rcases HE.out with h|⟨_,h,_⟩
    · exact h.1
    · cases h
   go_wp2_with (first|(refine zac rfl 48 (.tmp 6) (.tmp 34) rfl (w.heap.size+1+1) 0 rfl 48 (PL Sb.Pt.zero none 0 0) S.b2 (PL Sb.Pt.zero none 0 0) rfl zah (show 0+48≤48 by decide) rfl (PL Sb.Pt.zero none 0 0) rfl ?_;intro WH BH OH)|fail)
   exact bodyPost_ret (v := .tuple #[.agg (PA Sb.Pt.zero none 0 0), .int .u8 0, .slice none 0 0, .int .u8 2]) (zar Tryz.results11 rfl (PB.load (p:=Sb.Pt.zero) (A:=none) (n:=0) (c:=0) BH) rfl rfl rfl) rfl (RecvX.zero rfl (OH.bel S.u (by omega)))
 by_cases h1:1500<(x.pl.length:Int)
 · obtain rfl:er=2:=by
    rcases HE.out with h|⟨_,_,h⟩
    · exact h.1
    · omega
   have h3:(v==2)=false:=by simpa using h2
   go_wp2_with (first|(refine zac rfl 48 (.tmp 6) (.tmp 34) rfl (w.heap.size+1+1) 0 rfl 48 (PL Sb.Pt.zero none 0 0) S.b2 (PL Sb.Pt.zero none 0 0) rfl zah (show 0+48≤48 by decide) rfl (PL Sb.Pt.zero none 0 0) rfl ?_;intro WH BH OH)|fail)
   exact bodyPost_ret (v := .tuple #[.agg (PA Sb.Pt.zero none 0 0), .int .u8 0, .slice none 0 0, .int .u8 2]) (zar Tryz.results11 rfl (PB.load (p:=Sb.Pt.zero) (A:=none) (n:=0) (c:=0) BH) rfl rfl rfl) rfl (RecvX.zero rfl (OH.bel S.u (by omega)))
 obtain ⟨rfl,rfl⟩:er=9∧v=9:=by
  rcases HE.out with ⟨_,h|h⟩|⟨h,h3,_⟩
  · exact absurd h h2
  · omega
  · exact ⟨h,h3⟩
 go_wp2_with (first|(refine zac rfl 48 (.tmp 6) (.tmp 37) rfl (w.heap.size+1+1) 0 rfl 48 (PL Sb.Pt.zero none 0 0) S.b2 (PL Sb.Pt.zero none 0 0) rfl zah (show 0+48≤48 by decide) rfl (PL Sb.Pt.zero none 0 0) rfl ?_;intro WH BH OH)|fail)
 exact bodyPost_ret (v := .tuple #[.agg (PA Sb.Pt.zero none 0 0), .int .u8 0, .slice none 0 0, .int .u8 9]) (zar Tryz.results11 rfl (PB.load (p:=Sb.Pt.zero) (A:=none) (n:=0) (c:=0) BH) rfl rfl rfl) rfl (RecvX.zero rfl (OH.bel S.u (by omega)))
end Go.Proofs.YtahbecinkciahaaGreat
namespace Go.Proofs.YtahbecinkciahaaGreat
attribute [local go_sem] zad zag
open Go.RowKit
section
variable (l s n:Int) (w:World)
theorem zoa (m:Nat) (h0:0≤l) (h1:l≤255) (s0:0≤s) (s1:s≤4294967295) (hm:m≤8000) :
 Calls Tryz.prog 121 #[.int .u8 l, .int .u32 s, .int .i64 m] w (NoiseN (Ev.amp (l / 6).toNat) s m w):=by
 have k1:=H9 fun W=>zhl l W h0 h1
 have ha:=Ev.amp_bd (l / 6).toNat
 obtain ⟨a0,a1⟩:=ha
 generalize Ev.amp (l / 6).toNat=a at *
 go_enter Tryz.func121,Tryz.ntmps121
 go_wp2_with (go_at_call 157;refine (k1.out _).mono ?_;rintro e w1 ⟨rfl,rfl⟩)
 go_loopw [10,11,12] (fun sd o i wr => ∃ (k:Nat) (A':Option Addr) (c':Nat),k≤m∧i = .int .i64 k∧sd = .int .u64 (Ev.seed s k)∧o = .slice A' k c'∧Owns wr w.heap.size 93 1 A' k c' ((List.range k).map fun j=>Value.int .i16 (Ev.nsamp a s j))∧Below w.heap.size w wr) (fun _ _ i _=>m-(intOf i).toNat)
 case atStart=>exact ⟨0,none,0,Nat.zero_le _,rfl,rfl,rfl,Owns.nil,Below.refl _ _⟩
 case round =>
  obtain ⟨k,A',c',hk,rfl,rfl,rfl,ho,hb⟩:=hrel
  by_cases hlt:k<m
  · have hsb:=Ev.seed_bd s s0 s1 k
    obtain ⟨b0,b1⟩:=hsb
    have hss:Ev.seed s (k+1)=(Ev.seed s k*1103515245+12345) % 4294967296:=rfl
    have hns:Ev.nsamp a s k=Ev.seed s (k+1) / 65536 % (2*a+1)-a:=rfl
    have hnb:=Ev.nsamp_bd a s a0 k
    have HO:=H9 ho
    have HB:=H9 hb
    have hbs:=hb.size
    have HSS:=H9 hss
    have HNS:=H9 hns
    have HNB:=H9 hnb
    have hi0:(0:Int)≤(k:Int):=by omega
    have hi1:(k:Int)<(m:Int):=by omega
    clear ho hb hss hns hnb
    generalize Ev.seed s k=x at *
    have hv:IntKind.i16.wrap (wrap64 ((x*1103515245+12345) % 4294967296 / 65536 % (2*a+1)-a))=Ev.nsamp a s k:=by
     have h1:=HNB.out
     rw [HNS.out,HSS.out] at h1 ⊢
     rw [IntWalk.wrap64_in _ ⟨by omega,by omega⟩]
     simp only [IntKind.wrap,IntKind.bits,IntKind.signed]
     simp
     omega
    have HV:=H9 hv
    clear hv
    go_wp2_with (at_builtin;go_loud (refine zak rfl _ _ 66 rfl w.heap.size 93 1 2 (.int .i16 0) Tryz.underlying66 Ev.info_i16 rfl (by decide) A' k c' _ rfl HO.out [.int .i16 _] rfl (by simp [Value.oneCell']) rfl (by unfold maxLen;omega) (by omega) hbs ?_);intro A2 c2 w2 hown2 hg2 hlt2)
    go_roundw
    case rel =>
     refine ⟨k+1,A2,c2,by omega,by go_num,?_,rfl,?_,zca HB.out HO.out hg2 hbs (Nat.le_refl _)⟩
     · rw [HSS.out]
     · rw [List.range_succ,List.map_append,List.map_singleton]
       rw [HV.out] at hown2
       exact hown2
    case measure=>simp [intOf];omega
  · obtain rfl:k=m:=by omega
    have HO:=H9 ho
    have HB:=H9 hb
    have hsb:=Ev.seed_bd s s0 s1 k
    obtain ⟨b0,b1⟩:=hsb
    clear ho hb
    go_wp2
    go_ret3
    refine ⟨_,_,rfl,⟨?_,fun _ b o e=>(HO.out.block b (by rw [e];rfl)).1⟩,HB.out⟩
    have h:=HO.out
    rw [show ((List.range k).map fun j=>Value.int .i16 (Ev.nsamp a s j))=((List.range k).map fun j=>Ev.nsamp a s j).map (Value.int .i16) by simp] at h
    exact h.ints
end
end Go.Proofs.YtahbecinkciahaaGreat
namespace Go.Proofs.YtahbecinkciahaaGreat
open Go.RowKit
theorem zqo (k:Int) (hk:speechB k=true) (pl:List Int):((Sb.decE k pl 160).2=0∧(Sb.decE k pl 160).1=Sb.decS k pl)∨(¬(Sb.decE k pl 160).2=0∧Sb.decS k pl=[]):=by
 rcases zbi.1 hk with rfl|rfl|rfl
 · exact .inl ⟨rfl,rfl⟩
 · exact .inl ⟨rfl,rfl⟩
 · have e2:Sb.decS 96 pl=if Sb.Dlt.fits pl 160 then Dlt.unpackL pl 160 else []:=by
    unfold Sb.decS
    rw [if_neg (by decide),if_neg (by decide),if_pos rfl]
   have e1:Sb.decE 96 pl 160=((Dlt.unpR pl 160).1,(Dlt.unpR pl 160).2.2.2):=rfl
   rw [e1,e2]
   unfold Dlt.unpR
   rw [if_neg (by decide),show (160:Int).toNat=160 from rfl]
   by_cases h1:pl.length<4+(160+1) / 2
   · rw [if_pos h1,if_neg (fun h=>by have:=h.1;omega)]
     exact .inr ⟨(by decide:¬(6:Int)=0),rfl⟩
   rw [if_neg h1]
   by_cases h2:Dlt.okB pl 160
   · have h3:Sb.Dlt.fits pl 160:=⟨h2.1,h2.2.1,h2.2.2.1,h2.2.2.2⟩
     rw [if_pos h2,if_pos h3]
     exact .inl ⟨rfl,rfl⟩
   · have h3:¬Sb.Dlt.fits pl 160:=fun h=>h2 ⟨h.1,h.2.1,h.2.2.1,h.2.2.2⟩
     rw [if_neg h2,if_neg h3]
     exact .inr ⟨by decide,rfl⟩
end Go.Proofs.YtahbecinkciahaaGreat
