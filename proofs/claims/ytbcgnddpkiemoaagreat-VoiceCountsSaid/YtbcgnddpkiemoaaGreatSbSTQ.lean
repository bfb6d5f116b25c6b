/- Layer 32: Send, behind its switch. -/
import Derived.Test.YtbcgnddpkiemoaaGreatSs9Q
import Derived.Test.YtbcgnddpkiemoaaGreatPkEncPQ
import Derived.Test.YtbcgnddpkiemoaaGreatVoFunQ
import Derived.Test.YtbcgnddpkiemoaaGreatJtPnQ
import Derived.Laws.Rows
import Derived.RegionTactic
import Derived.Test.YtbcgnddpkiemoaaGreatJtValidQ
import Derived.Deep.LoopGhost
set_option linter.unusedVariables false
set_option linter.unusedSimpArgs false
set_option maxRecDepth 100000
set_option maxHeartbeats 12800000
namespace Go.Proofs.YtbcgnddpkiemoaaGreat
variable {w W:World} {gl n c kc gq zc n0 gt:Nat} {p:Sb.Pt} {A KA ZA A0:Option Addr} {l l0:List TW} {X TC:Array Value} {x:Rx} {now high jump fn a b:Int}
section
attribute [local go_sem ↓] zab zac
attribute [local go_sem] zaa zad
open Go.RowKit
theorem zqv {ks:List TK} (S:SS w W gl p A n c l KA ks.length kc) (K:PkS W w.heap.size [gl,w.heap.size+1,w.heap.size] KA ks) (V:0≤p.time) (X:p.time≤4294967295) (a:Act) (O:FrT w.heap.size gl a):firstWp Tryz.prog sdT_code (bodyPost Tryz.prog Tryz.f22 (SendR ({ p with time:=(p.time+160) % 4294967296 }, ks.map TK.k) w)) a W:=by
 obtain ⟨s,rfl,J,I,H,_⟩:=O
 simp only [rl9];rw [J,I,H]
 clear J I H
 refine zas ?_
 intro _ _
 have Y:=S.lt
 have N:=S.cell 3 _ rfl
 have M:=Blk.frozen S.m.box 3
 go_upto_region 32 with fail
 obtain ⟨E,D⟩:=nm9 (W.setCell ⟨w.heap.size,3,none⟩ (.int .u32 ((p.time+160) % 4294967296)))
 rw [← D]
 replace S:SS w E gl { p with time:=(p.time+160) % 4294967296 } A n c l KA ks.length kc:=by rw [D];exact S.set 3 _ rfl rfl
 replace K:PkS E w.heap.size [gl,w.heap.size+1,w.heap.size] KA ks:=K.chg (T:=[w.heap.size]) (Chg.of_only (by rw [D];exact OnlyB.setCell _ _ _ _) (by simp)) (by simp)
 clear D N M
 obtain ⟨q,hq⟩:∃ q:Sb.Pt,q = { p with time:=(p.time+160) % 4294967296 } := ⟨_,rfl⟩
 rw [← hq] at S
 have P:=Z9 hq
 clear hq
 replace S:=S.drew
 have R:PkS E.drew w.heap.size [gl,w.heap.size+1,w.heap.size] KA ks:=⟨K.rows,K.av,K.pay,K.new,K.cap⟩
 clear K
 refine wp_region_held_drew (S:=fun w'=>Blk w' w.heap.size 45 (PL q A n c).toArray∧Blk w' gl 105 #[.slice KA ks.length kc]) (by kernel_rfl) ⟨S.m.box,S.bl⟩ (fun C => ?_)
 refine tk1 (i:=0) (v := .agg (PA q A n c)) rfl (zaw rfl 45 (.tmp 2) rfl w.heap.size 0 rfl 45 (PL q A n c) (fun w h=>h.1) 48 _ Tryz.underlying45 zai (Nat.le_refl 48) _ rfl rfl) C ?_
 try simp only [ss9]
 refine tk1 (i:=1) (v := .slice KA ks.length kc) rfl (Or.inl ⟨by rfl,fun w h=>by have c2:=h.2.at 0 _ rfl;clear h;go_simp;try with_reducible rfl⟩) C ?_
 try simp only [ss9]
 refine rd1 2 (by kernel_rfl) rfl fun K G=>?_
 refine zam rfl 45 (.tmp 4) (.tmp 137) rfl (w.heap.size+1) 0 rfl 45 (PL Sb.Pt.zero none 0 0) S.b1 (PL q A n c) rfl zai (Nat.le_refl 48) rfl (PL q A n c) rfl ?_
 intro WH U B
 refine G.out _ _ ⟨B.blk C.1 (by omega),B.blk C.2 (by omega)⟩ (fun L => ?_)
 clear G K
 try simp only [ss9]
 refine tk1 (i:=3) (v := .slice KA ks.length kc) rfl (Or.inl ⟨by rfl,fun w _=>by go_simp;try with_reducible rfl⟩) L ?_
 try simp only [ss9]
 refine tk1 (i:=4) (v := .int .u8 0) rfl (Or.inl ⟨by rfl,fun w _=>by go_simp;try with_reducible rfl⟩) L ?_
 try simp only [ss9]
 refine wpAnyH_done (by kernel_rfl) ?_ _
 go_wp2_with fail
 rw [← P.out]
 have F:=R.chg (Chg.of_only B (S:=[w.heap.size+1]) (by simp)) (by simp)
 refine bodyPost_ret (v := .tuple #[.agg (PA q A n c), .slice KA ks.length kc, .int .u8 0]) (zbe Tryz.results22 rfl (PB.load U) rfl rfl) rfl ⟨A,n,c,l,KA,kc,ks,rfl,rfl,S.m.q,S.m.len,S.m.cap,S.m.cm,(S.m.chg (T:=[w.heap.size+1]) (Chg.of_only B (by simp)) (by simp) (by simp)).qa.wts,F.rows,B.bel S.u (by omega),F.new,F.cap⟩
theorem zyk {zs:List Int} {c0:Nat} (C:SC w p A0 l0 n0 c0 ZA zs zc) (S:SS w W gl p A n c l none 0 0) (D:Blk W gq 28 #[.int .i64 (Ev.quiet p.below zs)]) (f:gl<gq) (b:p.tn.on=false) (d:p.tn.ends=0) (L:Ev.quiet p.below zs=10) (Z:¬p.below<10) (a:Act) (X:FrS w.heap.size gl gq ZA zc (Ev.quiet p.below zs==10) a):firstWp Tryz.prog sdB_code (bodyPost Tryz.prog Tryz.f22 (SendR ({ p with below:=10,mrk:=true,time:=(p.time+160) % 4294967296 }, []) w)) a W:=by
 obtain ⟨s,rfl,K,J,I,H,G,F,O,_⟩:=X
 simp only [rl9];rw [K,J,I,H,G,F,O]
 clear K J I H G F O
 rw [L] at D ⊢
 rw [show ((10:Int)==10)=true from rfl]
 clear L
 refine zjk ?_
 intro _ _
 have g:=S.lt
 have E:=S.cell 8 _ rfl
 have M:=S.cell 13 _ rfl
 rw [b] at E
 rw [d] at M
 have T:=S.cell 5 _ rfl
 have V:¬p.below<(10:Int):=Z
 go_upto_region 29 with fail
 clear E M T
 go_upto_region 30 with (first|(refine zaf rfl 28 (.tmp 9) rfl (gq) 0 rfl 28 ([.int .i64 10]) D 1 _ Tryz.underlying28 zcd (show 0+1≤1 by decide) (#[.int .i64 10]) (by rfl) rfl ?_)|(refine zag rfl 28 (.tmp 131) (.tmp 130) rfl (w.heap.size) 5 rfl 45 (PL p A n c) S.m.box ([.int .i64 10]) rfl zcd (show 5+1≤48 by decide) rfl (PL { p with below:=10 } A n c) rfl ?_;intro WG P N)|fail)
 replace S:=S.over N P rfl
 clear P N D
 have U:=S.cell 4 _ rfl
 have R:=Blk.frozen S.m.box 4
 go_upto_region 31 with fail
 obtain ⟨WH,B⟩:=nm9 (WG.setCell ⟨w.heap.size,4,none⟩ (.bool true))
 rw [← B]
 have Y:OnlyB w.heap.size WG WH:=by rw [B];exact OnlyB.setCell _ _ _ _
 replace S:SS w WH gl { p with below:=10,mrk:=true } A n c l none 0 0:=by rw [B];exact S.set 4 _ rfl rfl
 clear B Y U R
 refine zao (by assumption) ?_
 exact zqv (ks:=[]) S PkS.nil C.wf.time.1 C.wf.time.2 _ FrT.mk
theorem zyl {zs:List Int} {c0:Nat} (C:SC w p A0 l0 n0 c0 ZA zs zc) (S:SS w W gl p A n c l none 0 0) (D:Blk W gq 28 #[.int .i64 (Ev.quiet p.below zs)]) (Xe:gl<gq) (Fb:p.tn.on=false) (Bo:p.tn.ends=0) (Q:Ev.quiet p.below zs=10) (ON:p.below<10) (a:Act) (ha:FrS w.heap.size gl gq ZA zc (Ev.quiet p.below zs==10) a):firstWp Tryz.prog sdB_code (bodyPost Tryz.prog Tryz.f22 (SendR ({ (Sb.emit p 13 p.time false [Ev.lev zs]).1 with below:=10,mrk:=true,time:=(p.time+160) % 4294967296 }, [(Sb.emit p 13 p.time false [Ev.lev zs]).2]) w)) a W:=by
 obtain ⟨s,rfl,N,y,t,j,i,g,Fj,_⟩:=ha
 simp only [rl9];rw [N,y,t,j,i,g,Fj]
 clear N y t j i g Fj
 rw [Q] at D ⊢
 rw [show ((10:Int)==10)=true from rfl]
 clear Q
 have T:∀ W:World,IntsAt W W.heap.size .i16 ZA zs→Calls Tryz.prog 49 #[.slice ZA 160 zc] W fun e w'=>e = .returned (.int .u8 (Ev.lev zs))∧W=w':=fun W hW=>by
  have h:=zhy ZA zs zc W hW C.zb (by have:=C.zl;omega)
  rwa [C.zl] at h
 replace T:=Z9 T
 obtain ⟨q9,O⟩:=nm9 ((Sb.emit p 13 p.time false [Ev.lev zs]).1)
 obtain ⟨L,H⟩:=nm9 ((Sb.emit p 13 p.time false [Ev.lev zs]).2)
 rw [← O,← H]
 have vC:=Z9 O
 have FW:=Z9 H
 have f:=Z9 (show q9.time=p.time by rw [O];rfl)
 have GQ:=Z9 (show L.pl=[Ev.lev zs] by rw [H];rfl)
 have Z:=Z9 (show L.ty=13 by rw [H];rfl)
 clear O H
 refine zjk ?_
 intro _ _
 have Ba:=S.lt
 have d:=S.cell 8 _ rfl
 have Yf:=S.cell 13 _ rfl
 rw [Fb] at d
 rw [Bo] at Yf
 have x5:=S.cell 5 _ rfl
 go_upto_region 28 with fail
 clear d Yf x5
 have J:=S.cell 3 _ rfl
 refine wp_region_held_drew (S:=fun w'=>w'.cell? ⟨w.heap.size,3,none⟩=some (.int .u32 p.time)) (by kernel_rfl) J (fun B => ?_)
 refine tkA 0 (v:=?_) rfl ?_ B ?_
 rotate_left
 · (intro w F;(try dsimp only at F);go_simp;try with_reducible rfl)
 try simp only [ss9]
 refine tkA 1 (v:=?_) rfl ?_ B ?_
 rotate_left
 · (intro w F;(try dsimp only at F);go_simp;try with_reducible rfl)
 try simp only [ss9]
 refine tkA 2 (v:=?_) rfl ?_ B ?_
 rotate_left
 · (intro w F;(try dsimp only at F);go_simp;try with_reducible rfl)
 try simp only [ss9]
 refine tkA 3 (v:=?_) rfl ?_ B ?_
 rotate_left
 · (intro w F;(try dsimp only at F);go_simp;try with_reducible rfl)
 try simp only [ss9]
 refine wpAnyH_ready (rs:=[4]) (by kernel_rfl) (by simp) ?_
 refine AllReadyH.cons (o:=_) rfl (fun K E => ?_) ?_
 rotate_left
 · exact AllReadyH.nil
 go_simp
 refine (T.out _ (C.z.later (Bel.drew S.u))).mono ?_
 rintro e w6 ⟨rfl,rfl⟩
 refine E.out _ _ ?_ (fun B => ?_)
 · (try dsimp only)
   exact J
 clear E K
 try simp only [ss9]
 refine wpAnyH_ready (rs:=[5]) (by kernel_rfl) (by simp) ?_
 refine AllReadyH.cons (o:=_) rfl (fun K E => ?_) ?_
 rotate_left
 · exact AllReadyH.nil
 go_simp
 refine E.out _ _ ?_ (fun B => ?_)
 · (try dsimp only)
   exact zat J _
 clear E K
 try simp only [ss9]
 have Ub:=D.lt
 have G:Hid (IntsAv (W.alloc (Obj.cells #[.int .u8 (Ev.lev zs)] 5)).drew [gl,w.heap.size+1,w.heap.size] .u8 (some ⟨W.heap.size,0,none⟩) [Ev.lev zs]):=Z9 ⟨IntsAt.lit0 W 5 .u8 [Ev.lev zs] [.int .u8 (Ev.lev zs)] rfl,fun _ b off e hb=>by injection e with e;injection e with N _;simp at hb;omega⟩
 replace S:=(S.push (Obj.cells #[.int .u8 (Ev.lev zs)] 5)).drew
 replace D:=Z9 (Blk.dr (D.push (Obj.cells #[.int .u8 (Ev.lev zs)] 5)))
 clear J
 obtain ⟨gz,R⟩:=nm9 W.heap.size
 have XS:w.heap.size≤gz:=by omega
 have tP:gq<gz:=by omega
 obtain ⟨W7,U⟩:=nm9 ((W.alloc (Obj.cells #[.int .u8 (Ev.lev zs)] 5)).drew)
 have xV:gz<W7.heap.size:=by rw [U,R];simp
 rw [← R] at G ⊢
 rw [← U] at S D G B ⊢
 clear U R
 refine wpAnyH_ready (rs:=[6]) (by kernel_rfl) (by simp) ?_
 refine AllReadyH.cons (o:=_) rfl (fun K E => ?_) ?_
 rotate_left
 · exact AllReadyH.nil
 go_simp
 refine (zkw [gl,w.heap.size+1,w.heap.size] w.heap.size gl p C.wf A n c l 13 p.time false (some ⟨gz,0,none⟩) [Ev.lev zs] 1 _ S.m (by simp) (by simp) (by omega) S.bl (by simp)).mono ?_
 rintro e w8 ⟨rfl,A9,c9,Y,L9,X,P⟩
 rw [← vC.out] at Y
 rw [← FW.out] at X
 replace S:=S.emit Y L9 P
 have TM:=Z9 X
 replace G:=Z9 (G.out.chg P (by simp))
 replace D:=Z9 (P.blk D.out (by simp;omega))
 clear Y L9 X P
 refine E.out _ _ ?_ (fun B => ?_)
 · (try dsimp only)
   have:=S.cell 3 _ rfl;rw [f.out] at this;exact this
 clear E K
 try simp only [ss9]
 clear B
 refine wpAnyH_done (by kernel_rfl) ?_ _
 have I:Hid (PkS w8 w.heap.size [gl,w.heap.size+1,w.heap.size] A9 [⟨L,some ⟨gz,0,none⟩,1⟩]):=Z9 (PkS.one TM.out G.out GQ.out (by intro x hx;simp at hx;omega) (by omega) (fun _ b off e=>by injection e with e;injection e with N _;omega) (fun e=>by rw [Z.out] at e;exact absurd e (by decide)))
 clear TM G
 go_upto_region 30 with (first|(refine zaf rfl 28 (.tmp 9) rfl (gq) 0 rfl 28 ([.int .i64 10]) D.out 1 _ Tryz.underlying28 zcd (show 0+1≤1 by decide) (#[.int .i64 10]) (by rfl) rfl ?_)|(refine zag rfl 28 (.tmp 131) (.tmp 130) rfl (w.heap.size) 5 rfl 45 (PL q9 A n c) S.m.box ([.int .i64 10]) rfl zcd (show 5+1≤48 by decide) rfl (PL { q9 with below:=10 } A n c) rfl ?_;intro WG BG V)|fail)
 replace S:=S.over V BG rfl
 replace I:=Z9 (I.out.chg (Chg.of_only V (S:=[w.heap.size]) (by simp)) (by simp))
 clear BG V D
 have x4:=S.cell 4 _ rfl
 have z4:=Blk.frozen S.m.box 4
 go_upto_region 31 with fail
 obtain ⟨WH,M⟩:=nm9 (WG.setCell ⟨w.heap.size,4,none⟩ (.bool true))
 rw [← M]
 have OV:OnlyB w.heap.size WG WH:=by rw [M];exact OnlyB.setCell _ _ _ _
 replace S:SS w WH gl { q9 with below:=10,mrk:=true } A n c l A9 1 c9:=by rw [M];exact S.set 4 _ rfl rfl
 replace I:=Z9 (I.out.chg (Chg.of_only OV (S:=[w.heap.size]) (by simp)) (by simp))
 clear M OV x4 z4
 refine zao (by assumption) ?_
 have ht:=C.wf.time
 rw [← f.out] at ht ⊢
 exact zqv (ks:=[⟨L,some ⟨gz,0,none⟩,1⟩]) S I.out ht.1 ht.2 _ FrT.mk
theorem zym {zs:List Int} {c0:Nat} (C:SC w p A0 l0 n0 c0 ZA zs zc) (S:SS w W gl p A n c l none 0 0) (j:Blk W gq 28 #[.int .i64 (Ev.quiet p.below zs)]) (Xe:gl<gq) (Fb:p.tn.on=false) (Bo:p.tn.ends=0) (X:¬Ev.quiet p.below zs=10) (a:Act) (ha:FrS w.heap.size gl gq ZA zc (Ev.quiet p.below zs==10) a):firstWp Tryz.prog sdB_code (bodyPost Tryz.prog Tryz.f22 (SendR ({ (Sb.emit { p with below:=Ev.quiet p.below zs } p.codec p.time p.mrk (Sb.enc p.codec (p.cv,p.ci) zs).1).1 with mrk:=false,cv:=(Sb.enc p.codec (p.cv,p.ci) zs).2.1,ci:=(Sb.enc p.codec (p.cv,p.ci) zs).2.2,time:=(p.time+160) % 4294967296 }, [(Sb.emit { p with below:=Ev.quiet p.below zs } p.codec p.time p.mrk (Sb.enc p.codec (p.cv,p.ci) zs).1).2]) w)) a W:=by
 obtain ⟨s,rfl,e1,e2,e4,e7,e8,Q,Fj,_⟩:=ha
 simp only [rl9];rw [e1,e2,e4,e7,e8,Q,Fj]
 clear e1 e2 e4 e7 e8 Q Fj
 have I:speechB p.codec=true∧Dlt.valid p.cv p.ci=true:=by
  have hv:=C.v
  unfold Sb.Pt.valid at hv
  simp only [Bool.and_eq_true] at hv
  exact ⟨hv.1.1.1.1,hv.1.1.1.2⟩
 obtain ⟨FK,FC,FD,hE⟩:=encK p.codec p.cv p.ci I.1 I.2 ZA zc zs C.zb C.zl
 have AD:=(Sb.enc_in p.codec (p.cv,p.ci) zs I.2 C.zl).2.1
 generalize Sb.enc p.codec (p.cv,p.ci) zs=EE at *
 obtain ⟨bs,y⟩:=EE
 obtain ⟨B,T⟩:=nm9 (Ev.quiet p.below zs)
 have P7:=Z9 (show ({ p with below:=B } : Sb.Pt).wf from ⟨C.wf.codec,C.wf.src,C.wf.seq,C.wf.time,by rw [T];show -9223372036854775808≤Ev.quiet p.below zs∧Ev.quiet p.below zs≤9223372036854775807;unfold Ev.quiet;split<;>omega,C.wf.tvol,C.wf.tcode,C.wf.tst,C.wf.seed,C.wf.pk,C.wf.oc⟩)
 rw [← T] at j X ⊢
 rw [show (B==10)=false by rw [beq_eq_false_iff_ne];exact X]
 clear X T
 obtain ⟨q9,L⟩:=nm9 ((Sb.emit { p with below:=B } p.codec p.time p.mrk bs).1)
 obtain ⟨J,E⟩:=nm9 ((Sb.emit { p with below:=B } p.codec p.time p.mrk bs).2)
 simp only at AD
 rw [← L,← E]
 have vC:=Z9 L
 have FW:=Z9 E
 have vP:=Z9 (show q9.time=p.time by rw [L];rfl)
 have GQ:=Z9 (show J.pl=bs by rw [E];rfl)
 have g:=Z9 (show J.ty=p.codec by rw [E];rfl)
 clear L E I
 refine zjk ?_
 intro _ _
 have Ba:=S.lt
 have o:=S.cell 8 _ rfl
 have Yf:=S.cell 13 _ rfl
 rw [Fb] at o
 rw [Bo] at Yf
 go_upto_region 8 with (first|(refine zaf rfl 28 (.tmp 9) rfl (gq) 0 rfl 28 ([.int .i64 B]) j 1 _ Tryz.underlying28 zcd (show 0+1≤1 by decide) (#[.int .i64 B]) (by rfl) rfl ?_)|(refine zag rfl 28 (.tmp 42) (.tmp 41) rfl (w.heap.size) 5 rfl 45 (PL p A n c) S.m.box ([.int .i64 B]) rfl zcd (show 5+1≤48 by decide) rfl (PL { p with below:=B } A n c) rfl ?_;intro WG BG OG)|fail)
 clear o Yf
 replace S:=S.over OG BG rfl
 clear BG OG j
 have II:WG.cell? ⟨w.heap.size,0,none⟩=some (.int .u8 p.codec):=S.cell 0 _ rfl
 have ID:WG.cell? ⟨w.heap.size,6,none⟩=some (.int .i64 p.cv):=S.cell 6 _ rfl
 have IC:WG.cell? ⟨w.heap.size,7,none⟩=some (.int .i64 p.ci):=S.cell 7 _ rfl
 simp only [Act.put]
 have i6:=S.bl.lt
 have YT:=S.u.size
 refine zxj w.heap.size p.codec p.cv p.ci C.wf.codec.1 C.wf.codec.2 ZA zs zc bs y FK FC FD hE WG II ID IC (C.z.later S.u) (fun _ _ _ _ _ h=>h) ?_
 intro wx O U g8 KV KU KT KO KN KM KL KK KJ KH KF lU lT R D Bn i Pd
 have hwx:=i.out.size
 have T8:=Z9 R.out.2
 replace S:=S.later i.out
 clear II ID IC i
 have M:Hid (IntsAv wx [gl,w.heap.size+1,w.heap.size] .u8 O bs):=Z9 (IntsAv.of_new R.out (by intro x hx;simp at hx;omega))
 replace Bn:=Bn.out
 have t:=Z9 fun (V:World) hM hL=>zkw [gl,w.heap.size+1,w.heap.size] w.heap.size gl { p with below:=B } P7.out A n c l p.codec p.time p.mrk O bs U V hM (by simp) (by simp) (by omega) hL (by omega)
 have x0:=S.cell 0 _ rfl
 have x3:=S.cell 3 _ rfl
 have P:=S.cell 4 _ rfl
 go_upto_region 11 with fail
 go_wp2_with fail
 refine (t.out _ S.m S.bl).mono ?_
 rintro e w8 ⟨rfl,A9,c9,f,L9,d,N⟩
 rw [← vC.out] at f
 rw [← FW.out] at d
 replace S:=S.emit f L9 N
 replace M:=Z9 (M.out.chg N (by simp))
 replace D:=Z9 (N.blk D.out (by simp;omega))
 have F:Hid (PkS w8 w.heap.size [gl,w.heap.size+1,w.heap.size] A9 [⟨J,O,U⟩]):=Z9 (PkS.one d M.out GQ.out (by intro x hx;simp at hx;omega) (by omega) (fun h0 b off e=>by have:=T8.out h0 b off e;omega) (fun e=>Pd.out (by rw [← g.out];exact e)))
 clear f L9 d N x0 x3 P R t M
 have P:=S.cell 4 _ rfl
 have z4:=Blk.frozen S.m.box 4
 go_upto_region 13 with fail
 obtain ⟨WH,K⟩:=nm9 (w8.setCell ⟨w.heap.size,4,none⟩ (.bool false))
 rw [← K]
 have Y:OnlyB w.heap.size w8 WH:=by rw [K];exact OnlyB.setCell _ _ _ _
 replace S:SS w WH gl { q9 with mrk:=false } A n c l A9 1 c9:=by rw [K];exact S.set 4 _ rfl rfl
 replace F:=Z9 (F.out.chg (Chg.of_only Y (S:=[w.heap.size]) (by simp)) (by simp))
 replace D:=Z9 (Y.blk D.out (by omega))
 clear K Y P z4
 obtain ⟨G,H⟩:=y
 go_upto_region 31 with (first|(refine zaf rfl 30 (.tmp 18) rfl (g8) 0 rfl 30 ([.int .i64 G, .int .i64 H]) D.out 2 _ Tryz.underlying30 zkl (show 0+2≤2 by decide) (#[.int .i64 G, .int .i64 H]) (by rfl) rfl ?_)|(refine zag rfl 30 (.tmp 71) (.tmp 70) rfl (w.heap.size) 6 rfl 45 (PL { q9 with mrk:=false } A n c) S.m.box ([.int .i64 G, .int .i64 H]) rfl zkl (show 6+2≤48 by decide) rfl (PL { q9 with mrk:=false,cv:=G,ci:=H } A n c) rfl ?_;intro WJ BJ Z)|fail)
 replace S:=S.over Z BJ rfl
 replace F:=Z9 (F.out.chg (Chg.of_only Z (S:=[w.heap.size]) (by simp)) (by simp))
 clear BJ Z D
 refine zao (by assumption) ?_
 have ht:=C.wf.time
 rw [← vP.out] at ht ⊢
 exact zqv (ks:=[⟨J,O,U⟩]) S F.out ht.1 ht.2 _ FrT.mk
end
section
open Go.RowKit
theorem zts {zs:List Int} (C:SC w p A l n c ZA zs zc) (H:X=PA p A n c) (B:p.tn.on=false) (D:p.tn.ends=0):Calls Tryz.prog 22 #[.agg X, .slice ZA 160 zc] w (SendR (Sb.send0 p zs) w):=by
 refine zsm C H fun W a gl gq A2 c2 l2 S G F E => ?_
 unfold Sb.send0 Sb.later
 rw [if_neg (by rw [B,D];decide)]
 by_cases hq:Ev.quiet p.below zs=10
 · rw [if_pos hq]
   by_cases hb:p.below<10
   · rw [if_pos hb]
     have h:=zyl C S G F B D hq hb a E
     simp only [hq] at h ⊢
     exact h
   · rw [if_neg hb]
     have h:=zyk C S G F B D hq hb a E
     simp only [hq] at h ⊢
     exact h
 · rw [if_neg hq]
   exact zym C S G F B D hq a E
end
section
attribute [local go_sem ↓] zab zac
attribute [local go_sem] zaa zad
open Go.RowKit
theorem ztt {R:Ending→World→Prop} (C:RC w p A l n c x now) (hw:p.wf) (D:X=PA p A n c) (hc:Sb.chkT p now=0)
 (h:∀ (W:World) (a:Act),RS w W p A n c x→FrA w.heap.size now a→firstWp Tryz.prog rcA_code (bodyPost Tryz.prog Tryz.f26 R) a W):Calls Tryz.prog 26 #[.agg X, .int .i64 now, .agg x.row] w R:=by
 have S:RS w (((w.alloc (Obj.cells X 45)).alloc (Obj.cells x.row 112)).alloc (Obj.cells (PA Sb.Pt.zero none 0 0) 45)) p A n c x:=⟨((PB.new w X D).push (.cells x.row 112)).push (.cells (PA Sb.Pt.zero none 0 0) 45),(Blk.new1 w (.cells X 45) 112 x.row).push (.cells (PA Sb.Pt.zero none 0 0) 45),Blk.new2 w (.cells X 45) (.cells x.row 112) 45 (PA Sb.Pt.zero none 0 0),(((Bel.refl w).push (.cells X 45)).push (.cells x.row 112)).push (.cells (PA Sb.Pt.zero none 0 0) 45)⟩
 have k1:=Z9 fun (W:World) B=>zda p hw A l n c (PA p A n c) rfl W C.q C.len C.n5 B C.sq now
 rw [hc] at k1
 have G:(x.pl.length:Int)≤1500:=by have:=C.h15;omega
 clear D hc hw
 go_enter Tryz.func26,Tryz.ntmps26
 go_upto_region 1 with fail
 change Code.wp _ _ _ _ (((w.alloc (Obj.cells X 45)).alloc (Obj.cells x.row 112)).alloc (Obj.cells (PA Sb.Pt.zero none 0 0) 45))
 obtain ⟨W,B⟩:=nm9 (((w.alloc (Obj.cells X 45)).alloc (Obj.cells x.row 112)).alloc (Obj.cells (PA Sb.Pt.zero none 0 0) 45))
 rw [← B] at S ⊢
 clear B
 go_wp2_with (first|(refine zaf rfl 45 (.tmp 3) rfl (w.heap.size) 0 rfl 45 (PL p A n c) S.b0 48 _ Tryz.underlying45 zai (show 0+48≤48 by decide) (PA p A n c) (by rfl) rfl ?_)|fail)
 refine (k1.out _ (C.av.later S.u)).mono ?_
 rintro e w1 ⟨rfl,E⟩
 replace S:=S.later E
 clear E k1
 have F:=S.c9
 go_upto_region 6 with fail
 clear F
 refine zao (by assumption) ?_
 exact h _ _ S FrA.mk
theorem zyn (C:RC w p A l n c x now) (S:RS w W p A n c x) {R:Ending→World→Prop} (P:¬x.ty=101)
 (h:∀ (W:World) (a:Act) (gt:Nat),RS w W p A n c x→Blk W gt 157 #[.int .u8 0, .bool false, .int .u8 0, .int .u16 0]→w.heap.size<gt→FrB w.heap.size now gt (speechB x.ty||x.ty==13) a→firstWp Tryz.prog rcB_code (bodyPost Tryz.prog Tryz.f26 R) a W) (a:Act) (N:FrA w.heap.size now a):firstWp Tryz.prog rcA_code (bodyPost Tryz.prog Tryz.f26 R) a W:=by
 obtain ⟨s,rfl,K,J,I,H,_⟩:=N
 simp only [rl9];rw [K,J,I,H]
 clear K J I H
 have F:=Z9 fun W=>zdm x.ty W C.ty0 C.ty1
 refine zas ?_
 intro _ _
 have B:=Z9 (Blk.new W 157 #[.int .u8 0, .bool false, .int .u8 0, .int .u16 0])
 have D:w.heap.size<W.heap.size:=by have:=S.b2.lt;omega
 replace S:=S.push (.cells #[.int .u8 0, .bool false, .int .u8 0, .int .u16 0] 157)
 obtain ⟨W2,M⟩:=nm9 (W.alloc (Obj.cells #[.int .u8 0, .bool false, .int .u8 0, .int .u16 0] 157))
 go_upto_region 7 with fail
 rw [← M] at S B ⊢
 obtain ⟨gt,G⟩:=nm9 W.heap.size
 rw [← G] at B D ⊢
 clear M G
 have x1:=S.c1
 go_wp2_with fail
 refine (F.out _).mono ?_
 rintro e w3 ⟨rfl,E⟩
 replace S:=S.later E
 replace B:=Z9 (B.out.later E)
 clear E F x1
 have x1:=S.c1
 cases hs:speechB x.ty
 · rw [hs] at h
   clear hs
   by_cases L:x.ty=13
   · rw [L] at x1 h
     go_upto_region 11 with fail
     refine zba (by assumption) (by assumption) ?_
     exact h _ _ _ S B.out D FrB.mk
   · have O:(x.ty==13)=false:=by simpa using L
     rw [O] at h
     go_upto_region 11 with fail
     refine zba (by assumption) (by assumption) ?_
     exact h _ _ _ S B.out D FrB.mk
 · rw [hs] at h
   clear hs
   go_upto_region 11 with fail
   refine zba (by assumption) (by assumption) ?_
   exact h _ _ _ S B.out D FrB.mk
section
variable (high jump q:Int) (w:World)
theorem zkc (q0:0≤q) (q1:q≤65535) (b0 : -9223372036854775808≤high) (b1:high≤9223372036854775807) (c0 : -9223372036854775808≤jump) (c1:jump≤9223372036854775807) (on:Bool) (h:high<0):Calls Tryz.prog 60 #[.agg #[.bool on, .int .i64 high, .int .i64 jump], .int .u16 q] w fun e w'=>e = .returned (.tuple #[.agg #[.bool false, .int .i64 0, .int .i64 0], .int .i64 0, .bool false])∧Bel w w':=by
 go_enter Tryz.func60,Tryz.ntmps60
 go_wp2_with fail
 exact bodyPost_ret (v := .tuple #[.agg #[.bool false, .int .i64 0, .int .i64 0], .int .i64 0, .bool false]) (zbe Tryz.results60 rfl (run_loadVar_row (P:=Tryz.prog) _ _ _ _ _ _ _ (Blk.new1 w _ _ _) Tryz.underlying39 rfl (by kernel_rfl)) rfl rfl) rfl ⟨rfl,Bel.push (Bel.push (Bel.refl w) _) _⟩
theorem zkd (q0:0≤q) (q1:q≤65535) (b0 : -9223372036854775808≤high) (b1:high≤9223372036854775807) (c0 : -9223372036854775808≤jump) (c1:jump≤9223372036854775807) (on:Bool) (g:0≤high) (h:281474976710656<high):Calls Tryz.prog 60 #[.agg #[.bool on, .int .i64 high, .int .i64 jump], .int .u16 q] w fun e w'=>e = .returned (.tuple #[.agg #[.bool false, .int .i64 0, .int .i64 0], .int .i64 0, .bool false])∧Bel w w':=by
 go_enter Tryz.func60,Tryz.ntmps60
 go_wp2_with fail
 exact bodyPost_ret (v := .tuple #[.agg #[.bool false, .int .i64 0, .int .i64 0], .int .i64 0, .bool false]) (zbe Tryz.results60 rfl (run_loadVar_row (P:=Tryz.prog) _ _ _ _ _ _ _ (Blk.new1 w _ _ _) Tryz.underlying39 rfl (by kernel_rfl)) rfl rfl) rfl ⟨rfl,Bel.push (Bel.push (Bel.refl w) _) _⟩
theorem zke (q0:0≤q) (q1:q≤65535) (b0 : -9223372036854775808≤high) (b1:high≤9223372036854775807) (c0 : -9223372036854775808≤jump) (c1:jump≤9223372036854775807) (on:Bool) (g:0≤high) (g2:high≤281474976710656) (h:jump < -1):Calls Tryz.prog 60 #[.agg #[.bool on, .int .i64 high, .int .i64 jump], .int .u16 q] w fun e w'=>e = .returned (.tuple #[.agg #[.bool false, .int .i64 0, .int .i64 0], .int .i64 0, .bool false])∧Bel w w':=by
 go_enter Tryz.func60,Tryz.ntmps60
 go_wp2_with fail
 exact bodyPost_ret (v := .tuple #[.agg #[.bool false, .int .i64 0, .int .i64 0], .int .i64 0, .bool false]) (zbe Tryz.results60 rfl (run_loadVar_row (P:=Tryz.prog) _ _ _ _ _ _ _ (Blk.new1 w _ _ _) Tryz.underlying39 rfl (by kernel_rfl)) rfl rfl) rfl ⟨rfl,Bel.push (Bel.push (Bel.refl w) _) _⟩
theorem zkf (q0:0≤q) (q1:q≤65535) (b0 : -9223372036854775808≤high) (b1:high≤9223372036854775807) (c0 : -9223372036854775808≤jump) (c1:jump≤9223372036854775807) (on:Bool) (g:0≤high) (g2:high≤281474976710656) (g3 : -1≤jump) (h:65535<jump):Calls Tryz.prog 60 #[.agg #[.bool on, .int .i64 high, .int .i64 jump], .int .u16 q] w fun e w'=>e = .returned (.tuple #[.agg #[.bool false, .int .i64 0, .int .i64 0], .int .i64 0, .bool false])∧Bel w w':=by
 go_enter Tryz.func60,Tryz.ntmps60
 go_wp2_with fail
 exact bodyPost_ret (v := .tuple #[.agg #[.bool false, .int .i64 0, .int .i64 0], .int .i64 0, .bool false]) (zbe Tryz.results60 rfl (run_loadVar_row (P:=Tryz.prog) _ _ _ _ _ _ _ (Blk.new1 w _ _ _) Tryz.underlying39 rfl (by kernel_rfl)) rfl rfl) rfl ⟨rfl,Bel.push (Bel.push (Bel.refl w) _) _⟩
theorem znd (q0:0≤q) (q1:q≤65535) (b0 : -9223372036854775808≤high) (b1:high≤9223372036854775807) (c0 : -9223372036854775808≤jump) (c1:jump≤9223372036854775807) (g:0≤high) (g2:high≤281474976710656) (g3 : -1≤jump) (g4:jump≤65535):Calls Tryz.prog 60 #[.agg #[.bool false, .int .i64 high, .int .i64 jump], .int .u16 q] w fun e w'=>e = .returned (.tuple #[.agg #[.bool true, .int .i64 q, .int .i64 (-1)], .int .i64 q, .bool true])∧Bel w w':=by
 go_enter Tryz.func60,Tryz.ntmps60
 go_wp2_with fail
 exact bodyPost_ret (v := .tuple #[.agg #[.bool true, .int .i64 q, .int .i64 (-1)], .int .i64 q, .bool true]) (zbe Tryz.results60 rfl (run_loadVar_row (P:=Tryz.prog) _ _ _ _ _ _ _ (Blk.new1 w _ _ _) Tryz.underlying39 rfl (by kernel_rfl)) rfl rfl) rfl ⟨rfl,Bel.push (Bel.push (Bel.refl w) _) _⟩
theorem zqw (q0:0≤q) (q1:q≤65535) (b0 : -9223372036854775808≤high) (b1:high≤9223372036854775807) (c0 : -9223372036854775808≤jump) (c1:jump≤9223372036854775807) (g:0≤high) (g2:high≤281474976710656) (g3 : -1≤jump) (g4:jump≤65535) (h1:0≤Pk.near high q 65536) (h2:Pk.near high q 65536≤high+3000) (h3:high-100≤Pk.near high q 65536):Calls Tryz.prog 60 #[.agg #[.bool true, .int .i64 high, .int .i64 jump], .int .u16 q] w fun e w'=>e = .returned (.tuple #[.agg #[.bool true, .int .i64 (max high (Pk.near high q 65536)), .int .i64 (-1)], .int .i64 (Pk.near high q 65536), .bool true])∧Bel w w':=by
 have k1:=fun W=>zgc high q W q0 q1 b0 b1
 obtain ⟨n,hn⟩:=nm9 (Pk.near high q 65536)
 simp only [← hn]
 rw [← hn] at k1 h1 h2 h3
 have A:=Pk.near_bd16 high q (by omega)
 rw [← hn] at A
 obtain ⟨n0,n1,_⟩:=A
 have n2:n≤281474976800000:=by omega
 have C : -40000≤n:=by omega
 have D:=zcw (high+3000) (by omega) (by omega)
 have E:=zcw (high-100) (by omega) (by omega)
 have B:=Z9 k1
 clear k1 n0 n1 hn
 go_enter Tryz.func60,Tryz.ntmps60
 go_wp2_with fail
 refine (B.out _).mono ?_
 rintro e w1 ⟨rfl,rfl⟩
 go_wp2_with fail
 exact bodyPost_ret (v := .tuple #[.agg #[.bool true, .int .i64 (max high n), .int .i64 (-1)], .int .i64 n, .bool true]) (zbe Tryz.results60 rfl (run_loadVar_row (P:=Tryz.prog) _ _ _ _ _ _ _ (Blk.new1 w _ _ _) Tryz.underlying39 rfl (by kernel_rfl)) rfl rfl) rfl ⟨rfl,Bel.push (Bel.push (Bel.refl w) _) _⟩
end
theorem zkg {q:Int} {R:Ending→World→Prop} (b0 : -9223372036854775808≤high) (b1:high≤9223372036854775807) (q0:0≤q) (q1:q≤65535) (g:0≤high) (g2:high≤281474976710656) (g3 : -1≤jump) (g4:jump≤65535) (D:¬(0≤Pk.near high q 65536∧Pk.near high q 65536≤high+3000∧high-100≤Pk.near high q 65536)) (H:(q=jump∧high<140737488355328)→∀ (e:Ending) (w':World),e = .returned (.tuple #[.agg #[.bool true, .int .i64 (high+Pk.gap high q), .int .i64 (-1)], .int .i64 (high+Pk.gap high q), .bool true])∧Below w.heap.size w w'→R e w') (I:¬(q=jump∧high<140737488355328)→∀ (e:Ending) (w':World),e = .returned (.tuple #[.agg #[.bool true, .int .i64 high, .int .i64 ((q+1) % 65536)], .int .i64 0, .bool false])∧Below w.heap.size w w'→R e w'):Calls Tryz.prog 60 #[.agg #[.bool true, .int .i64 high, .int .i64 jump], .int .u16 q] w R:=by
 have B:=Z9 H
 have C:=Z9 I
 clear H I
 have k1:=fun W=>zgc high q W q0 q1 b0 b1
 obtain ⟨n,hn⟩:=nm9 (Pk.near high q 65536)
 rw [← hn] at k1 D
 have G:=Pk.near_bd16 high q (by omega)
 rw [← hn] at G
 obtain ⟨n0,n1,_⟩:=G
 have n2:n≤281474976800000:=by omega
 have N : -40000≤n:=by omega
 have O:=zcw (high+3000) (by omega) (by omega)
 have U:=zcw (high-100) (by omega) (by omega)
 have L:=Z9 k1
 clear k1 n0 n1 hn
 have h3:n<0∨(0≤n∧high+3000<n)∨(0≤n∧n≤high+3000∧n<high-100):=by omega
 clear D
 go_enter Tryz.func60,Tryz.ntmps60
 go_wp2_with fail
 refine (L.out _).mono ?_
 rintro e w1 ⟨rfl,rfl⟩
 rcases h3 with h1|⟨h1,h2⟩|⟨h1,h2,h3⟩
 all_goals
  go_upto_region 10 with fail
  by_cases hc:q=jump∧high<140737488355328
  · have HR:=Z9 (B.out hc)
    obtain ⟨E,J⟩:=hc
    have F:(q==jump)=true:=by rw [beq_iff_eq];exact E
    obtain ⟨d,hd⟩:=nm9 ((q-high) % 65536)
    have M:=zgb (q-high)
    rw [← hd] at M
    have T:0≤d:=by omega
    have d1:d≤65535:=by omega
    have hg:Pk.gap high q=if d=0 then 65536 else d:=by rw [hd];rfl
    rw [hg] at HR
    clear hd E hg B C
    by_cases A:d=0
    · rw [if_pos A] at HR
      have K:(d==0)=true:=by rw [beq_iff_eq];exact A
      clear A
      go_wp2_with fail
      go_region
      go_wp2_with fail
      exact bodyPost_ret (v := .tuple #[.agg #[.bool true, .int .i64 (high+65536), .int .i64 (-1)], .int .i64 (high+65536), .bool true]) (zbe Tryz.results60 rfl (run_loadVar_row (P:=Tryz.prog) _ _ _ _ _ _ _ (Blk.new1 w _ _ _).drew Tryz.underlying39 rfl (by kernel_rfl)) rfl rfl) rfl (HR.out _ _ ⟨rfl,Bel.drew (((Bel.refl w).push _).push _)⟩)
    · rw [if_neg A] at HR
      have K:(d==0)=false:=by rw [beq_eq_false_iff_ne];exact A
      clear A
      go_wp2_with fail
      go_region
      go_wp2_with fail
      exact bodyPost_ret (v := .tuple #[.agg #[.bool true, .int .i64 (high+d), .int .i64 (-1)], .int .i64 (high+d), .bool true]) (zbe Tryz.results60 rfl (run_loadVar_row (P:=Tryz.prog) _ _ _ _ _ _ _ (Blk.new1 w _ _ _).drew Tryz.underlying39 rfl (by kernel_rfl)) rfl rfl) rfl (HR.out _ _ ⟨rfl,Bel.drew (((Bel.refl w).push _).push _)⟩)
  · have HR:=Z9 (C.out hc)
    have hw:IntKind.u16.wrap (q+1)=(q+1) % 65536:=zks _
    clear B C
    by_cases hq:q=jump
    · have J:¬high<140737488355328:=fun h=>hc ⟨hq,h⟩
      have F:(q==jump)=true:=by rw [beq_iff_eq];exact hq
      clear hq hc
      go_wp2_with fail
      exact bodyPost_ret (v := .tuple #[.agg #[.bool true, .int .i64 high, .int .i64 ((q+1) % 65536)], .int .i64 0, .bool false]) (zbe Tryz.results60 rfl (run_loadVar_row (P:=Tryz.prog) _ _ _ _ _ _ _ (Blk.new1 w _ _ _) Tryz.underlying39 rfl (by kernel_rfl)) rfl rfl) rfl (HR.out _ _ ⟨rfl,(((Bel.refl w).push _).push _)⟩)
    · have F:(q==jump)=false:=by rw [beq_eq_false_iff_ne];exact hq
      clear hq hc
      go_wp2_with fail
      exact bodyPost_ret (v := .tuple #[.agg #[.bool true, .int .i64 high, .int .i64 ((q+1) % 65536)], .int .i64 0, .bool false]) (zbe Tryz.results60 rfl (run_loadVar_row (P:=Tryz.prog) _ _ _ _ _ _ _ (Blk.new1 w _ _ _) Tryz.underlying39 rfl (by kernel_rfl)) rfl rfl) rfl (HR.out _ _ ⟨rfl,(((Bel.refl w).push _).push _)⟩)
section
variable (on:Bool) (high jump q:Int) (w:World)
theorem zne (q0:0≤q) (q1:q≤65535) (b0 : -9223372036854775808≤high) (b1:high≤9223372036854775807) (c0 : -9223372036854775808≤jump) (c1:jump≤9223372036854775807):Calls Tryz.prog 60 #[.agg #[.bool on, .int .i64 high, .int .i64 jump], .int .u16 q] w fun e w'=>e = .returned (.tuple #[.agg (Pk.follow ⟨on,high,jump⟩ q).1.row.toArray, .int .i64 (Pk.follow ⟨on,high,jump⟩ q).2.1, .bool (Pk.follow ⟨on,high,jump⟩ q).2.2])∧Bel w w':=by
 unfold Pk.follow
 by_cases B:Pk.Tr.ok ⟨on,high,jump⟩
 rotate_left
 · rw [if_pos B]
   have hn:¬(0≤high∧high≤281474976710656 ∧ -1≤jump∧jump≤65535):=B
   by_cases h1:high<0
   · exact zkc high jump q w q0 q1 b0 b1 c0 c1 on h1
   by_cases h2:281474976710656<high
   · exact zkd high jump q w q0 q1 b0 b1 c0 c1 on (by omega) h2
   by_cases h3:jump < -1
   · exact zke high jump q w q0 q1 b0 b1 c0 c1 on (by omega) (by omega) h3
   · exact zkf high jump q w q0 q1 b0 b1 c0 c1 on (by omega) (by omega) (by omega) (by omega)
 rw [if_neg (fun h=>h B)]
 obtain ⟨g,g2,g3,g4⟩:0≤high∧high≤281474976710656 ∧ -1≤jump∧jump≤65535:=B
 cases on
 · rw [if_pos rfl]
   exact znd high jump q w q0 q1 b0 b1 c0 c1 g g2 g3 g4
 rw [if_neg (by simp)]
 by_cases A:0≤Pk.near high q 65536∧Pk.near high q 65536≤high+3000∧high-100≤Pk.near high q 65536
 · rw [if_pos A]
   exact zqw high jump q w q0 q1 b0 b1 c0 c1 g g2 g3 g4 A.1 A.2.1 A.2.2
 rw [if_neg A]
 refine zkg b0 b1 q0 q1 g g2 g3 g4 A (fun C e w' h => ?_) (fun C e w' h => ?_)
 · rw [if_pos C]
   exact h
 · rw [if_neg C]
   exact h
end
theorem zyo (C:RC w p A l n c x now) (S:RS w W p A n c x) {R:Ending→World→Prop} (B:Blk W gt 157 TC) (f:w.heap.size<gt) (F:Pk.Tr) (fn:Int) (ok:Bool) (hF:Pk.follow p.tk x.sq=(F,fn,ok)) (d : -9223372036854775808≤p.tk.high) (Y:p.tk.high≤9223372036854775807) (Z : -9223372036854775808≤p.tk.jump) (X:p.tk.jump≤9223372036854775807)
 (h:∀ (W:World) (a:Act),RS w W { p with tk:=F } A n c x→Blk W gt 157 TC→FrU w.heap.size now gt p.tk.on fn ok a→firstWp Tryz.prog rcS_code (bodyPost Tryz.prog Tryz.f26 R) a W) (a:Act) (V:FrB w.heap.size now gt true a):firstWp Tryz.prog rcB_code (bodyPost Tryz.prog Tryz.f26 R) a W:=by
 obtain ⟨s,rfl,N,M,L,K,P,O,_⟩:=V
 simp only [rl9];rw [N,M,L,K,P,O]
 clear N M L K P O
 have D:∀ W,Calls Tryz.prog 60 #[.agg #[.bool p.tk.on, .int .i64 p.tk.high, .int .i64 p.tk.jump], .int .u16 x.sq] W fun e w'=>e = .returned (.tuple #[.agg #[.bool F.on, .int .i64 F.high, .int .i64 F.jump], .int .i64 fn, .bool ok])∧Bel W w':=fun W=>by
  have h:=zne p.tk.on p.tk.high p.tk.jump x.sq W C.q0 C.q1 d Y Z X
  have e:(⟨p.tk.on,p.tk.high,p.tk.jump⟩:Pk.Tr)=p.tk:=rfl
  rw [e,hF] at h
  exact h
 replace D:=Z9 D
 replace B:=Z9 B
 clear hF
 have U:=S.c2
 have b:=S.b0.tk.1
 refine zbd ?_
 intro _ _ _ _
 go_upto_region 14 with fail
 go_wp2_with (first|(refine zaf rfl 39 (.tmp 71) rfl (w.heap.size) 28 rfl 45 (PL p A n c) S.b0 3 _ Tryz.underlying39 zgp (show 28+3≤48 by decide) (#[.bool p.tk.on, .int .i64 p.tk.high, .int .i64 p.tk.jump]) (by rfl) rfl ?_)|fail)
 refine (D.out _).mono ?_
 rintro e w4 ⟨rfl,J⟩
 replace S:=S.later J
 replace B:=Z9 (B.out.later J)
 clear J D U b
 have I:=Z9 (Blk.new w4 39 #[.bool F.on, .int .i64 F.high, .int .i64 F.jump])
 obtain ⟨g3,H⟩:=nm9 w4.heap.size
 replace S:=S.push (.cells #[.bool F.on, .int .i64 F.high, .int .i64 F.jump] 39)
 replace B:=Z9 (B.out.push (.cells #[.bool F.on, .int .i64 F.high, .int .i64 F.jump] 39))
 obtain ⟨W5,E⟩:=nm9 (w4.alloc (Obj.cells #[.bool F.on, .int .i64 F.high, .int .i64 F.jump] 39))
 rw [← H,← E] at I
 go_upto_region 15 with fail
 rw [← H]
 rw [← E] at S B ⊢
 clear E H
 go_upto_region 16 with (first|(refine zaf rfl 39 (.tmp 14) rfl (g3) 0 rfl 39 ([.bool F.on, .int .i64 F.high, .int .i64 F.jump]) I.out 3 _ Tryz.underlying39 zgp (show 0+3≤3 by decide) (#[.bool F.on, .int .i64 F.high, .int .i64 F.jump]) (by rfl) rfl ?_)|(refine zag rfl 39 (.tmp 80) (.tmp 79) rfl (w.heap.size) 28 rfl 45 (PL p A n c) S.b0 ([.bool F.on, .int .i64 F.high, .int .i64 F.jump]) rfl zgp (show 28+3≤48 by decide) rfl (PL { p with tk:=F } A n c) rfl ?_;intro WF T G)|fail)
 replace S:=S.over G T
 replace B:=Z9 (G.blk B.out (by omega))
 clear T G I
 refine zba (by assumption) (by assumption) ?_
 exact h _ _ S B.out FrU.mk
theorem zyp (C:RC w p A l n c x now) (S:RS w W p A n c x) {R:Ending→World→Prop} {on:Bool} 
 (h:∀ (a:Act),FrC w.heap.size now gt on fn a→firstWp Tryz.prog rcC_code (bodyPost Tryz.prog Tryz.f26 R) a W) (a:Act) (K:FrU w.heap.size now gt on fn true a):firstWp Tryz.prog rcS_code (bodyPost Tryz.prog Tryz.f26 R) a W:=by
 obtain ⟨s,rfl,F,E,D,B,J,G,H,I,_⟩:=K
 simp only [rl9];rw [F,E,D,B,J,G,H,I]
 clear F E D B J G H I
 refine zbd ?_
 intro _ _ _ _
 go_upto_region 18 with fail
 refine zba (by assumption) (by assumption) ?_
 exact h _ FrC.mk
end
section
open Go.RowKit
theorem zhl {a b:Bool} (h:a=b):Ending.returned (.bool a) = .returned (.bool b):=by rw [h]
theorem ztu {k:IntKind} (h:a=b):Ending.returned (.int k a) = .returned (.int k b):=by rw [h]
section
variable (lo hi:Int) (A:Option Addr) (xs:List Int) (c n:Nat) (w:World)
theorem zdz (hn:xs.length=n) (E:IntsAt w w.heap.size .i64 A xs) (hl:n≤100) :
 Calls Tryz.prog 120 #[.int .i64 lo, .int .i64 hi, .slice A n c] w fun e w'=>e = .returned (.bool (Rep.all lo hi xs))∧w=w':=by
 subst hn
 have I:=Z9 E
 clear E
 go_enter Tryz.func120,Tryz.ntmps120
 go_wp2
 go_loop [11] (fun i => ∃ k:Nat,k≤xs.length∧i = .int .i64 k∧Hid (Rep.all lo hi (xs.take k)=true)) (fun i=>xs.length-(intOf i).toNat)
 case atStart=>exact ⟨0,Nat.zero_le _,rfl,Z9 rfl⟩
 case round =>
  obtain ⟨k,hk,rfl,F⟩:=hrel
  by_cases hlt:k<xs.length
  · obtain ⟨b,off,rfl,L,qc⟩:=I.out (by omega)
    have hc:=qc k hlt
    have D:=Rep.all_take lo hi xs k hlt
    rw [F.out,Bool.true_and] at D
    have HS:=Z9 D
    have B:=Z9 (Rep.all_false lo hi xs k hlt)
    clear qc D
    have J:(0:Int)≤(k:Int):=by omega
    have K:(k:Int)<(xs.length:Int):=by omega
    generalize xs.getD k 0=x at *
    by_cases h1:x<lo
    · have t1:decide (x<lo)=true:=by simpa using h1
      have C:=Z9 (B.out (by simp [Rep.inB];omega))
      go_wp2
      go_ret
      exact ⟨zhl C.out.symm,rfl⟩
    · have t1:decide (x<lo)=false:=by simpa using h1
      by_cases h2:hi<x
      · have t2:decide (hi<x)=true:=by simpa using h2
        have C:=Z9 (B.out (by simp [Rep.inB];omega))
        go_wp2
        go_ret
        exact ⟨zhl C.out.symm,rfl⟩
      · have t2:decide (hi<x)=false:=by simpa using h2
        have G:Rep.inB lo hi x=true:=by rw [Rep.inB_iff];omega
        have H:=Z9 G
        clear G
        go_wp2
        go_round
        case rel=>exact ⟨k+1,by omega,by go_num,Z9 (by rw [HS.out,H.out])⟩
        case measure=>simp [intOf];omega
  · obtain rfl:k=xs.length:=by omega
    have hf:=F.out
    rw [List.take_length] at hf
    have B:=Z9 hf
    clear hf
    go_wp2
    go_ret
    exact ⟨zhl B.out.symm,rfl⟩
end
section
variable (x y z:Int) (w:World)
theorem zfq:Calls Tryz.prog 91 #[.int .i64 x] w fun e w'=>e = .returned (.bool (Rep.small x))∧w=w':=by
 have h:Rep.small x=(decide (-281474976710656≤x)&&decide (x≤281474976710656)):=rfl
 rw [h]
 cases h1:decide (-281474976710656≤x)<;>cases h2:decide (x≤281474976710656)
 all_goals
  clear h
  go_enter Tryz.func91,Tryz.ntmps91
  go_wp2
  go_ret
  exact ⟨rfl,rfl⟩
end
theorem IntsAt.new_at (w:World) (e:TypeId) (k:IntKind) (zs:List Int) (cs:List Value) (h:cs=zs.map (Value.int k)) (g:Nat) (hg:w.heap.size=g):IntsAt (w.alloc (.cells cs.toArray e)) (w.alloc (.cells cs.toArray e)).heap.size k (some ⟨g,0,none⟩) zs:=by
 subst hg
 exact IntsAt.new w e k zs cs h
section
variable (s0:Bool) (sb sh sr sx sy st sj:Int) (w:World)
theorem Rep.okS_bd (h:Rep.okS ⟨s0,sb,sh,sr,sx,sy,st,sj⟩=true) : -1125899906842624≤sb∧sb≤1125899906842624 ∧ -1125899906842624≤sh∧sh≤1125899906842624 ∧ -1125899906842624≤st∧st≤1125899906842624∧sb≤sh∧0≤sr∧sr≤1125899906842624∧0≤sx∧sx≤1125899906842624∧0≤sy∧sy≤1125899906842624∧0≤sj∧sj≤72057594037927936:=by
 rw [Rep.okS_iff] at h
 simp only at h
 omega
theorem ziv:Calls Tryz.prog 82 #[.agg #[.bool s0, .int .i64 sb, .int .i64 sh, .int .i64 sr, .int .i64 sx, .int .i64 sy, .int .i64 st, .int .i64 sj]] w fun e w'=>e = .returned (.bool (Rep.okS ⟨s0,sb,sh,sr,sx,sy,st,sj⟩))∧Below w.heap.size w w':=by
 have h:Rep.okS ⟨s0,sb,sh,sr,sx,sy,st,sj⟩=(Rep.all (-1125899906842624) 1125899906842624 [sb,sh,st]&&decide (sb≤sh)&&Rep.all 0 1125899906842624 [sr,sx,sy]&&Rep.all 0 72057594037927936 [sj]):=rfl
 rw [h]
 clear h
 have k1:=fun A c W h=>zdz (-1125899906842624) 1125899906842624 A [sb,sh,st] c 3 W rfl h (by omega)
 have D:=fun A c W h=>zdz 0 1125899906842624 A [sr,sx,sy] c 3 W rfl h (by omega)
 have C:=fun A c W h=>zdz 0 72057594037927936 A [sj] c 1 W rfl h (by omega)
 generalize Rep.all (-1125899906842624) 1125899906842624 [sb,sh,st]=b1 at *
 generalize Rep.all 0 1125899906842624 [sr,sx,sy]=b3 at *
 generalize Rep.all 0 72057594037927936 [sj]=G at *
 have B:=Z9 k1
 have E:=Z9 D
 have F:=Z9 C
 clear k1 D C
 cases b1
 · go_enter Tryz.func82,Tryz.ntmps82
   go_wp2_with fail
   refine (B.out _ _ _ (IntsAt.new_at (w.alloc (.cells #[.bool s0, .int .i64 sb, .int .i64 sh, .int .i64 sr, .int .i64 sx, .int .i64 sy, .int .i64 st, .int .i64 sj] 41)) 2 .i64 [sb,sh,st] [.int .i64 sb, .int .i64 sh, .int .i64 st] rfl _ (by rw [zaq]))).mono ?_
   rintro e w1 ⟨rfl,rfl⟩
   go_wp2
   go_ret
   exact ⟨rfl,Bel.push (Bel.push (Bel.refl w) _) _⟩
 · cases hb:decide (sb≤sh)
   · go_enter Tryz.func82,Tryz.ntmps82
     go_wp2_with fail
     refine (B.out _ _ _ (IntsAt.new_at (w.alloc (.cells #[.bool s0, .int .i64 sb, .int .i64 sh, .int .i64 sr, .int .i64 sx, .int .i64 sy, .int .i64 st, .int .i64 sj] 41)) 2 .i64 [sb,sh,st] [.int .i64 sb, .int .i64 sh, .int .i64 st] rfl _ (by rw [zaq]))).mono ?_
     rintro e w1 ⟨rfl,rfl⟩
     go_wp2
     go_ret
     exact ⟨rfl,Bel.push (Bel.push (Bel.refl w) _) _⟩
   · cases b3
     · go_enter Tryz.func82,Tryz.ntmps82
       go_wp2_with fail
       refine (B.out _ _ _ (IntsAt.new_at (w.alloc (.cells #[.bool s0, .int .i64 sb, .int .i64 sh, .int .i64 sr, .int .i64 sx, .int .i64 sy, .int .i64 st, .int .i64 sj] 41)) 2 .i64 [sb,sh,st] [.int .i64 sb, .int .i64 sh, .int .i64 st] rfl _ (by rw [zaq]))).mono ?_
       rintro e w1 ⟨rfl,rfl⟩
       go_wp2_with fail
       refine (E.out _ _ _ (IntsAt.new_at ((w.alloc (.cells #[.bool s0, .int .i64 sb, .int .i64 sh, .int .i64 sr, .int .i64 sx, .int .i64 sy, .int .i64 st, .int .i64 sj] 41)).alloc (.cells #[.int .i64 sb, .int .i64 sh, .int .i64 st] 2)) 2 .i64 [sr,sx,sy] [.int .i64 sr, .int .i64 sx, .int .i64 sy] rfl _ (by rw [zbt]))).mono ?_
       rintro e w1 ⟨rfl,rfl⟩
       go_wp2
       go_ret
       exact ⟨rfl,Bel.push (Bel.push (Bel.push (Bel.refl w) _) _) _⟩
     · go_enter Tryz.func82,Tryz.ntmps82
       go_wp2_with fail
       refine (B.out _ _ _ (IntsAt.new_at (w.alloc (.cells #[.bool s0, .int .i64 sb, .int .i64 sh, .int .i64 sr, .int .i64 sx, .int .i64 sy, .int .i64 st, .int .i64 sj] 41)) 2 .i64 [sb,sh,st] [.int .i64 sb, .int .i64 sh, .int .i64 st] rfl _ (by rw [zaq]))).mono ?_
       rintro e w1 ⟨rfl,rfl⟩
       go_wp2_with fail
       refine (E.out _ _ _ (IntsAt.new_at ((w.alloc (.cells #[.bool s0, .int .i64 sb, .int .i64 sh, .int .i64 sr, .int .i64 sx, .int .i64 sy, .int .i64 st, .int .i64 sj] 41)).alloc (.cells #[.int .i64 sb, .int .i64 sh, .int .i64 st] 2)) 2 .i64 [sr,sx,sy] [.int .i64 sr, .int .i64 sx, .int .i64 sy] rfl _ (by rw [zbt]))).mono ?_
       rintro e w1 ⟨rfl,rfl⟩
       go_wp2_with fail
       refine (F.out _ _ _ (IntsAt.new_at (((w.alloc (.cells #[.bool s0, .int .i64 sb, .int .i64 sh, .int .i64 sr, .int .i64 sx, .int .i64 sy, .int .i64 st, .int .i64 sj] 41)).alloc (.cells #[.int .i64 sb, .int .i64 sh, .int .i64 st] 2)).alloc (.cells #[.int .i64 sr, .int .i64 sx, .int .i64 sy] 2)) 2 .i64 [sj] [.int .i64 sj] rfl _ (by rw [ziy]))).mono ?_
       rintro e w1 ⟨rfl,rfl⟩
       go_wp2
       go_ret
       exact ⟨rfl,Bel.push (Bel.push (Bel.push (Bel.push (Bel.refl w) _) _) _) _⟩
end
end
section
attribute [local go_sem ↓] zab zac
attribute [local go_sem] zaa zad
open Go.RowKit
section
variable (s0:Bool) (sb sh sr sx sy st sj:Int) (w:World)
variable (q a t:Int)
theorem znf:Calls Tryz.prog 63 #[.agg #[.bool s0, .int .i64 sb, .int .i64 sh, .int .i64 sr, .int .i64 sx, .int .i64 sy, .int .i64 st, .int .i64 sj], .int .i64 q, .int .i64 a, .int .i64 t] w fun e w'=>e = .returned (.agg (Rep.arrive ⟨s0,sb,sh,sr,sx,sy,st,sj⟩ q a t).row)∧Below w.heap.size w w':=by
 obtain ⟨R,C⟩:=nm9 (Rep.arrive ⟨s0,sb,sh,sr,sx,sy,st,sj⟩ q a t)
 rw [← C]
 unfold Rep.arrive at C
 have n:=fun W=>ziv s0 sb sh sr sx sy st sj W
 have k1:=fun W=>zfq q W
 have m:=fun W=>zfq a W
 have l:=fun W=>zfq t W
 have p:=Rep.okS_bd s0 sb sh sr sx sy st sj
 have hq:=(Rep.inB_iff (-281474976710656) 281474976710656 q).1
 have o:=(Rep.inB_iff (-281474976710656) 281474976710656 a).1
 have ht:=(Rep.inB_iff (-281474976710656) 281474976710656 t).1
 have z:Hid (Rep.small q=true → -281474976710656≤q∧q≤281474976710656):=Z9 hq
 have Q:Hid (Rep.small a=true → -281474976710656≤a∧a≤281474976710656):=Z9 o
 have y:Hid (Rep.small t=true → -281474976710656≤t∧t≤281474976710656):=Z9 ht
 clear hq o ht
 generalize Rep.okS ⟨s0,sb,sh,sr,sx,sy,st,sj⟩=bo at *
 generalize Rep.small q=b1 at *
 generalize Rep.small a=b2 at *
 generalize Rep.small t=b3 at *
 have H:=Z9 n
 have f:=Z9 k1
 have g:=Z9 m
 have i:=Z9 l
 have j:=Z9 p
 clear n k1 m l p
 have fin:∀ (w1:World),Below ((w.alloc (.cells #[.bool s0, .int .i64 sb, .int .i64 sh, .int .i64 sr, .int .i64 sx, .int .i64 sy, .int .i64 st, .int .i64 sj] 41)).alloc (.cells #[.bool false, .int .i64 0, .int .i64 0, .int .i64 0, .int .i64 0, .int .i64 0, .int .i64 0, .int .i64 0] 41)).heap.size ((w.alloc (.cells #[.bool s0, .int .i64 sb, .int .i64 sh, .int .i64 sr, .int .i64 sx, .int .i64 sy, .int .i64 st, .int .i64 sj] 41)).alloc (.cells #[.bool false, .int .i64 0, .int .i64 0, .int .i64 0, .int .i64 0, .int .i64 0, .int .i64 0, .int .i64 0] 41)) w1→Hid (Blk w1 w.heap.size 41 #[.bool s0, .int .i64 sb, .int .i64 sh, .int .i64 sr, .int .i64 sx, .int .i64 sy, .int .i64 st, .int .i64 sj])∧Hid (Blk w1 (w.heap.size+1) 41 #[.bool false, .int .i64 0, .int .i64 0, .int .i64 0, .int .i64 0, .int .i64 0, .int .i64 0, .int .i64 0])∧Hid (Bel w w1):=fun w1 hb =>
  ⟨Z9 (((Blk.new w 41 #[.bool s0, .int .i64 sb, .int .i64 sh, .int .i64 sr, .int .i64 sx, .int .i64 sy, .int .i64 st, .int .i64 sj]).push _).later hb),Z9 ((Blk.new1 w _ 41 #[.bool false, .int .i64 0, .int .i64 0, .int .i64 0, .int .i64 0, .int .i64 0, .int .i64 0, .int .i64 0]).later hb),Z9 ((((Bel.refl w).push _).push _).later hb)⟩
 cases bo
 · rw [if_pos (by rfl)] at C
   subst C
   go_enter Tryz.func63,Tryz.ntmps63
   go_wp2_with fail
   refine (H.out _).mono ?_
   rintro e w1 ⟨rfl,F⟩
   obtain ⟨B,A,U⟩:=fin w1 F
   clear F fin
   have G:w.heap.size+1≠w.heap.size:=by omega
   have X:w.heap.size≠w.heap.size+1:=by omega
   have f0:=B.out.at 0 _ rfl
   have f1:=B.out.at 1 _ rfl
   have f2:=B.out.at 2 _ rfl
   have d:=B.out.at 3 _ rfl
   have f4:=B.out.at 4 _ rfl
   have c:=B.out.at 5 _ rfl
   have b:=B.out.at 6 _ rfl
   have Z:=B.out.at 7 _ rfl
   have Y:=B.out.frozen
   have V:=A.out.at 0 _ rfl
   have T:=A.out.at 1 _ rfl
   have O:=A.out.at 2 _ rfl
   have N:=A.out.at 3 _ rfl
   have M:=A.out.at 4 _ rfl
   have L:=A.out.at 5 _ rfl
   have K:=A.out.at 6 _ rfl
   have J:=A.out.at 7 _ rfl
   have I:=A.out.frozen
   go_wp2
   have E:Blk (setRow (w.heap.size+1) w1 0 [.bool false, .int .i64 0, .int .i64 0, .int .i64 0, .int .i64 0, .int .i64 0, .int .i64 0, .int .i64 0]) (w.heap.size+1) 41 #[.bool false, .int .i64 0, .int .i64 0, .int .i64 0, .int .i64 0, .int .i64 0, .int .i64 0, .int .i64 0]:=Blk.setRow A.out [.bool false, .int .i64 0, .int .i64 0, .int .i64 0, .int .i64 0, .int .i64 0, .int .i64 0, .int .i64 0] rfl
   have D:Below w.heap.size w (setRow (w.heap.size+1) w1 0 [.bool false, .int .i64 0, .int .i64 0, .int .i64 0, .int .i64 0, .int .i64 0, .int .i64 0, .int .i64 0]):=below_setRow (by omega) [.bool false, .int .i64 0, .int .i64 0, .int .i64 0, .int .i64 0, .int .i64 0, .int .i64 0, .int .i64 0] _ 0 U.out
   simp only [setRow] at E D
   exact bodyPost_ret (v := .agg #[.bool false, .int .i64 0, .int .i64 0, .int .i64 0, .int .i64 0, .int .i64 0, .int .i64 0, .int .i64 0]) (zel Tryz.results63 rfl (run_loadVar_row (P:=Tryz.prog) _ _ _ _ _ _ _ E Tryz.underlying41 rfl (by kernel_rfl))) rfl ⟨rfl,D⟩
 · cases b1
   · rw [if_pos (by rfl)] at C
     subst C
     go_enter Tryz.func63,Tryz.ntmps63
     go_wp2_with fail
     refine (H.out _).mono ?_
     rintro e w1 ⟨rfl,F⟩
     obtain ⟨B,A,U⟩:=fin w1 F
     clear F fin
     have G:w.heap.size+1≠w.heap.size:=by omega
     have X:w.heap.size≠w.heap.size+1:=by omega
     have f0:=B.out.at 0 _ rfl
     have f1:=B.out.at 1 _ rfl
     have f2:=B.out.at 2 _ rfl
     have d:=B.out.at 3 _ rfl
     have f4:=B.out.at 4 _ rfl
     have c:=B.out.at 5 _ rfl
     have b:=B.out.at 6 _ rfl
     have Z:=B.out.at 7 _ rfl
     have Y:=B.out.frozen
     have V:=A.out.at 0 _ rfl
     have T:=A.out.at 1 _ rfl
     have O:=A.out.at 2 _ rfl
     have N:=A.out.at 3 _ rfl
     have M:=A.out.at 4 _ rfl
     have L:=A.out.at 5 _ rfl
     have K:=A.out.at 6 _ rfl
     have J:=A.out.at 7 _ rfl
     have I:=A.out.frozen
     go_wp2_with fail
     refine (f.out _).mono ?_
     rintro e w1 ⟨rfl,rfl⟩
     go_wp2
     have E:Blk (setRow (w.heap.size+1) w1 0 [.bool false, .int .i64 0, .int .i64 0, .int .i64 0, .int .i64 0, .int .i64 0, .int .i64 0, .int .i64 0]) (w.heap.size+1) 41 #[.bool false, .int .i64 0, .int .i64 0, .int .i64 0, .int .i64 0, .int .i64 0, .int .i64 0, .int .i64 0]:=Blk.setRow A.out [.bool false, .int .i64 0, .int .i64 0, .int .i64 0, .int .i64 0, .int .i64 0, .int .i64 0, .int .i64 0] rfl
     have D:Below w.heap.size w (setRow (w.heap.size+1) w1 0 [.bool false, .int .i64 0, .int .i64 0, .int .i64 0, .int .i64 0, .int .i64 0, .int .i64 0, .int .i64 0]):=below_setRow (by omega) [.bool false, .int .i64 0, .int .i64 0, .int .i64 0, .int .i64 0, .int .i64 0, .int .i64 0, .int .i64 0] _ 0 U.out
     simp only [setRow] at E D
     exact bodyPost_ret (v := .agg #[.bool false, .int .i64 0, .int .i64 0, .int .i64 0, .int .i64 0, .int .i64 0, .int .i64 0, .int .i64 0]) (zel Tryz.results63 rfl (run_loadVar_row (P:=Tryz.prog) _ _ _ _ _ _ _ E Tryz.underlying41 rfl (by kernel_rfl))) rfl ⟨rfl,D⟩
   · cases b2
     · rw [if_pos (by rfl)] at C
       subst C
       go_enter Tryz.func63,Tryz.ntmps63
       go_wp2_with fail
       refine (H.out _).mono ?_
       rintro e w1 ⟨rfl,F⟩
       obtain ⟨B,A,U⟩:=fin w1 F
       clear F fin
       have G:w.heap.size+1≠w.heap.size:=by omega
       have X:w.heap.size≠w.heap.size+1:=by omega
       have f0:=B.out.at 0 _ rfl
       have f1:=B.out.at 1 _ rfl
       have f2:=B.out.at 2 _ rfl
       have d:=B.out.at 3 _ rfl
       have f4:=B.out.at 4 _ rfl
       have c:=B.out.at 5 _ rfl
       have b:=B.out.at 6 _ rfl
       have Z:=B.out.at 7 _ rfl
       have Y:=B.out.frozen
       have V:=A.out.at 0 _ rfl
       have T:=A.out.at 1 _ rfl
       have O:=A.out.at 2 _ rfl
       have N:=A.out.at 3 _ rfl
       have M:=A.out.at 4 _ rfl
       have L:=A.out.at 5 _ rfl
       have K:=A.out.at 6 _ rfl
       have J:=A.out.at 7 _ rfl
       have I:=A.out.frozen
       go_wp2_with fail
       refine (f.out _).mono ?_
       rintro e w1 ⟨rfl,rfl⟩
       go_wp2_with fail
       refine (g.out _).mono ?_
       rintro e w1 ⟨rfl,rfl⟩
       go_wp2
       have E:Blk (setRow (w.heap.size+1) w1 0 [.bool false, .int .i64 0, .int .i64 0, .int .i64 0, .int .i64 0, .int .i64 0, .int .i64 0, .int .i64 0]) (w.heap.size+1) 41 #[.bool false, .int .i64 0, .int .i64 0, .int .i64 0, .int .i64 0, .int .i64 0, .int .i64 0, .int .i64 0]:=Blk.setRow A.out [.bool false, .int .i64 0, .int .i64 0, .int .i64 0, .int .i64 0, .int .i64 0, .int .i64 0, .int .i64 0] rfl
       have D:Below w.heap.size w (setRow (w.heap.size+1) w1 0 [.bool false, .int .i64 0, .int .i64 0, .int .i64 0, .int .i64 0, .int .i64 0, .int .i64 0, .int .i64 0]):=below_setRow (by omega) [.bool false, .int .i64 0, .int .i64 0, .int .i64 0, .int .i64 0, .int .i64 0, .int .i64 0, .int .i64 0] _ 0 U.out
       simp only [setRow] at E D
       exact bodyPost_ret (v := .agg #[.bool false, .int .i64 0, .int .i64 0, .int .i64 0, .int .i64 0, .int .i64 0, .int .i64 0, .int .i64 0]) (zel Tryz.results63 rfl (run_loadVar_row (P:=Tryz.prog) _ _ _ _ _ _ _ E Tryz.underlying41 rfl (by kernel_rfl))) rfl ⟨rfl,D⟩
     · cases b3
       · rw [if_pos (by rfl)] at C
         subst C
         go_enter Tryz.func63,Tryz.ntmps63
         go_wp2_with fail
         refine (H.out _).mono ?_
         rintro e w1 ⟨rfl,F⟩
         obtain ⟨B,A,U⟩:=fin w1 F
         clear F fin
         have G:w.heap.size+1≠w.heap.size:=by omega
         have X:w.heap.size≠w.heap.size+1:=by omega
         have f0:=B.out.at 0 _ rfl
         have f1:=B.out.at 1 _ rfl
         have f2:=B.out.at 2 _ rfl
         have d:=B.out.at 3 _ rfl
         have f4:=B.out.at 4 _ rfl
         have c:=B.out.at 5 _ rfl
         have b:=B.out.at 6 _ rfl
         have Z:=B.out.at 7 _ rfl
         have Y:=B.out.frozen
         have V:=A.out.at 0 _ rfl
         have T:=A.out.at 1 _ rfl
         have O:=A.out.at 2 _ rfl
         have N:=A.out.at 3 _ rfl
         have M:=A.out.at 4 _ rfl
         have L:=A.out.at 5 _ rfl
         have K:=A.out.at 6 _ rfl
         have J:=A.out.at 7 _ rfl
         have I:=A.out.frozen
         go_wp2_with fail
         refine (f.out _).mono ?_
         rintro e w1 ⟨rfl,rfl⟩
         go_wp2_with fail
         refine (g.out _).mono ?_
         rintro e w1 ⟨rfl,rfl⟩
         go_wp2_with fail
         refine (i.out _).mono ?_
         rintro e w1 ⟨rfl,rfl⟩
         go_wp2
         have E:Blk (setRow (w.heap.size+1) w1 0 [.bool false, .int .i64 0, .int .i64 0, .int .i64 0, .int .i64 0, .int .i64 0, .int .i64 0, .int .i64 0]) (w.heap.size+1) 41 #[.bool false, .int .i64 0, .int .i64 0, .int .i64 0, .int .i64 0, .int .i64 0, .int .i64 0, .int .i64 0]:=Blk.setRow A.out [.bool false, .int .i64 0, .int .i64 0, .int .i64 0, .int .i64 0, .int .i64 0, .int .i64 0, .int .i64 0] rfl
         have D:Below w.heap.size w (setRow (w.heap.size+1) w1 0 [.bool false, .int .i64 0, .int .i64 0, .int .i64 0, .int .i64 0, .int .i64 0, .int .i64 0, .int .i64 0]):=below_setRow (by omega) [.bool false, .int .i64 0, .int .i64 0, .int .i64 0, .int .i64 0, .int .i64 0, .int .i64 0, .int .i64 0] _ 0 U.out
         simp only [setRow] at E D
         exact bodyPost_ret (v := .agg #[.bool false, .int .i64 0, .int .i64 0, .int .i64 0, .int .i64 0, .int .i64 0, .int .i64 0, .int .i64 0]) (zel Tryz.results63 rfl (run_loadVar_row (P:=Tryz.prog) _ _ _ _ _ _ _ E Tryz.underlying41 rfl (by kernel_rfl))) rfl ⟨rfl,D⟩
       · rw [if_neg (by simp)] at C
         obtain ⟨c1,c2,c3,c4,c5,c6,c7,c8,c9,Hv,EO,EN,EM,c14,EL⟩:=j.out rfl
         obtain ⟨q0,q1⟩:=z.out rfl
         obtain ⟨a0,a1⟩:=Q.out rfl
         obtain ⟨t0,t1⟩:=y.out rfl
         cases s0
         · rw [if_pos rfl] at C
           subst C
           go_enter Tryz.func63,Tryz.ntmps63
           go_wp2_with fail
           refine (H.out _).mono ?_
           rintro e w1 ⟨rfl,F⟩
           obtain ⟨B,A,U⟩:=fin w1 F
           clear F fin
           have G:w.heap.size+1≠w.heap.size:=by omega
           have X:w.heap.size≠w.heap.size+1:=by omega
           have f0:=B.out.at 0 _ rfl
           have f1:=B.out.at 1 _ rfl
           have f2:=B.out.at 2 _ rfl
           have d:=B.out.at 3 _ rfl
           have f4:=B.out.at 4 _ rfl
           have c:=B.out.at 5 _ rfl
           have b:=B.out.at 6 _ rfl
           have Z:=B.out.at 7 _ rfl
           have Y:=B.out.frozen
           have V:=A.out.at 0 _ rfl
           have T:=A.out.at 1 _ rfl
           have O:=A.out.at 2 _ rfl
           have N:=A.out.at 3 _ rfl
           have M:=A.out.at 4 _ rfl
           have L:=A.out.at 5 _ rfl
           have K:=A.out.at 6 _ rfl
           have J:=A.out.at 7 _ rfl
           have I:=A.out.frozen
           go_wp2_with fail
           refine (f.out _).mono ?_
           rintro e w1 ⟨rfl,rfl⟩
           go_wp2_with fail
           refine (g.out _).mono ?_
           rintro e w1 ⟨rfl,rfl⟩
           go_wp2_with fail
           refine (i.out _).mono ?_
           rintro e w1 ⟨rfl,rfl⟩
           go_wp2
           have E:Blk (setRow (w.heap.size+1) w1 0 [.bool true, .int .i64 q, .int .i64 q, .int .i64 1, .int .i64 0, .int .i64 0, .int .i64 (a-t), .int .i64 0]) (w.heap.size+1) 41 #[.bool true, .int .i64 q, .int .i64 q, .int .i64 1, .int .i64 0, .int .i64 0, .int .i64 (a-t), .int .i64 0]:=Blk.setRow A.out [.bool true, .int .i64 q, .int .i64 q, .int .i64 1, .int .i64 0, .int .i64 0, .int .i64 (a-t), .int .i64 0] rfl
           have D:Below w.heap.size w (setRow (w.heap.size+1) w1 0 [.bool true, .int .i64 q, .int .i64 q, .int .i64 1, .int .i64 0, .int .i64 0, .int .i64 (a-t), .int .i64 0]):=below_setRow (by omega) [.bool true, .int .i64 q, .int .i64 q, .int .i64 1, .int .i64 0, .int .i64 0, .int .i64 (a-t), .int .i64 0] _ 0 U.out
           simp only [setRow] at E D
           exact bodyPost_ret (v := .agg #[.bool true, .int .i64 q, .int .i64 q, .int .i64 1, .int .i64 0, .int .i64 0, .int .i64 (a-t), .int .i64 0]) (zel Tryz.results63 rfl (run_loadVar_row (P:=Tryz.prog) _ _ _ _ _ _ _ E Tryz.underlying41 rfl (by kernel_rfl))) rfl ⟨rfl,D⟩
         · rw [if_neg (by simp)] at C
           obtain ⟨u,hu⟩:=nm9 (a-t-st)
           rw [← hu] at C
           unfold Rep.absI at C
           by_cases h:u<0
           · rw [if_pos h,hu] at C
             subst C
             have x:a-t-st<0:=by omega
             clear hu h
             go_enter Tryz.func63,Tryz.ntmps63
             go_wp2_with fail
             refine (H.out _).mono ?_
             rintro e w1 ⟨rfl,F⟩
             obtain ⟨B,A,U⟩:=fin w1 F
             clear F fin
             have G:w.heap.size+1≠w.heap.size:=by omega
             have X:w.heap.size≠w.heap.size+1:=by omega
             have f0:=B.out.at 0 _ rfl
             have f1:=B.out.at 1 _ rfl
             have f2:=B.out.at 2 _ rfl
             have d:=B.out.at 3 _ rfl
             have f4:=B.out.at 4 _ rfl
             have c:=B.out.at 5 _ rfl
             have b:=B.out.at 6 _ rfl
             have Z:=B.out.at 7 _ rfl
             have Y:=B.out.frozen
             have V:=A.out.at 0 _ rfl
             have T:=A.out.at 1 _ rfl
             have O:=A.out.at 2 _ rfl
             have N:=A.out.at 3 _ rfl
             have M:=A.out.at 4 _ rfl
             have L:=A.out.at 5 _ rfl
             have K:=A.out.at 6 _ rfl
             have J:=A.out.at 7 _ rfl
             have I:=A.out.frozen
             go_wp2_with fail
             refine (f.out _).mono ?_
             rintro e w1 ⟨rfl,rfl⟩
             go_wp2_with fail
             refine (g.out _).mono ?_
             rintro e w1 ⟨rfl,rfl⟩
             go_wp2_with fail
             refine (i.out _).mono ?_
             rintro e w1 ⟨rfl,rfl⟩
             go_wp2
             have E:Blk (setRow (w.heap.size+1) (((((w1.setCell ⟨w.heap.size,1,none⟩ (.int .i64 (min sb q))).setCell ⟨w.heap.size,2,none⟩ (.int .i64 (max sh q))).setCell ⟨w.heap.size,3,none⟩ (.int .i64 (sr+1))).setCell ⟨w.heap.size,7,none⟩ (.int .i64 (sj+(-(a-t-st)-(sj+8) / 16)))).setCell ⟨w.heap.size,6,none⟩ (.int .i64 (a-t))) 0 [.bool true, .int .i64 (min sb q), .int .i64 (max sh q), .int .i64 (sr+1), .int .i64 sx, .int .i64 sy, .int .i64 (a-t), .int .i64 (sj+(-(a-t-st)-(sj+8) / 16))]) (w.heap.size+1) 41 #[.bool true, .int .i64 (min sb q), .int .i64 (max sh q), .int .i64 (sr+1), .int .i64 sx, .int .i64 sy, .int .i64 (a-t), .int .i64 (sj+(-(a-t-st)-(sj+8) / 16))]:=Blk.setRow (((((A.out.far G (.int .i64 (min sb q))).far G (.int .i64 (max sh q))).far G (.int .i64 (sr+1))).far G (.int .i64 (sj+(-(a-t-st)-(sj+8) / 16)))).far G (.int .i64 (a-t))) [.bool true, .int .i64 (min sb q), .int .i64 (max sh q), .int .i64 (sr+1), .int .i64 sx, .int .i64 sy, .int .i64 (a-t), .int .i64 (sj+(-(a-t-st)-(sj+8) / 16))] rfl
             have D:Below w.heap.size w (setRow (w.heap.size+1) (((((w1.setCell ⟨w.heap.size,1,none⟩ (.int .i64 (min sb q))).setCell ⟨w.heap.size,2,none⟩ (.int .i64 (max sh q))).setCell ⟨w.heap.size,3,none⟩ (.int .i64 (sr+1))).setCell ⟨w.heap.size,7,none⟩ (.int .i64 (sj+(-(a-t-st)-(sj+8) / 16)))).setCell ⟨w.heap.size,6,none⟩ (.int .i64 (a-t))) 0 [.bool true, .int .i64 (min sb q), .int .i64 (max sh q), .int .i64 (sr+1), .int .i64 sx, .int .i64 sy, .int .i64 (a-t), .int .i64 (sj+(-(a-t-st)-(sj+8) / 16))]):=below_setRow (by omega) [.bool true, .int .i64 (min sb q), .int .i64 (max sh q), .int .i64 (sr+1), .int .i64 sx, .int .i64 sy, .int .i64 (a-t), .int .i64 (sj+(-(a-t-st)-(sj+8) / 16))] _ 0 (Below.setCell (Below.setCell (Below.setCell (Below.setCell (Below.setCell U.out (by exact Nat.le_refl _) (.int .i64 (min sb q))) (by exact Nat.le_refl _) (.int .i64 (max sh q))) (by exact Nat.le_refl _) (.int .i64 (sr+1))) (by exact Nat.le_refl _) (.int .i64 (sj+(-(a-t-st)-(sj+8) / 16)))) (by exact Nat.le_refl _) (.int .i64 (a-t)))
             simp only [setRow] at E D
             exact bodyPost_ret (v := .agg #[.bool true, .int .i64 (min sb q), .int .i64 (max sh q), .int .i64 (sr+1), .int .i64 sx, .int .i64 sy, .int .i64 (a-t), .int .i64 (sj+(-(a-t-st)-(sj+8) / 16))]) (zel Tryz.results63 rfl (run_loadVar_row (P:=Tryz.prog) _ _ _ _ _ _ _ E Tryz.underlying41 rfl (by kernel_rfl))) rfl ⟨rfl,D⟩
           · rw [if_neg h,hu] at C
             subst C
             have x:0≤a-t-st:=by omega
             clear hu h
             go_enter Tryz.func63,Tryz.ntmps63
             go_wp2_with fail
             refine (H.out _).mono ?_
             rintro e w1 ⟨rfl,F⟩
             obtain ⟨B,A,U⟩:=fin w1 F
             clear F fin
             have G:w.heap.size+1≠w.heap.size:=by omega
             have X:w.heap.size≠w.heap.size+1:=by omega
             have f0:=B.out.at 0 _ rfl
             have f1:=B.out.at 1 _ rfl
             have f2:=B.out.at 2 _ rfl
             have d:=B.out.at 3 _ rfl
             have f4:=B.out.at 4 _ rfl
             have c:=B.out.at 5 _ rfl
             have b:=B.out.at 6 _ rfl
             have Z:=B.out.at 7 _ rfl
             have Y:=B.out.frozen
             have V:=A.out.at 0 _ rfl
             have T:=A.out.at 1 _ rfl
             have O:=A.out.at 2 _ rfl
             have N:=A.out.at 3 _ rfl
             have M:=A.out.at 4 _ rfl
             have L:=A.out.at 5 _ rfl
             have K:=A.out.at 6 _ rfl
             have J:=A.out.at 7 _ rfl
             have I:=A.out.frozen
             go_wp2_with fail
             refine (f.out _).mono ?_
             rintro e w1 ⟨rfl,rfl⟩
             go_wp2_with fail
             refine (g.out _).mono ?_
             rintro e w1 ⟨rfl,rfl⟩
             go_wp2_with fail
             refine (i.out _).mono ?_
             rintro e w1 ⟨rfl,rfl⟩
             go_wp2
             have E:Blk (setRow (w.heap.size+1) (((((w1.setCell ⟨w.heap.size,1,none⟩ (.int .i64 (min sb q))).setCell ⟨w.heap.size,2,none⟩ (.int .i64 (max sh q))).setCell ⟨w.heap.size,3,none⟩ (.int .i64 (sr+1))).setCell ⟨w.heap.size,7,none⟩ (.int .i64 (sj+((a-t-st)-(sj+8) / 16)))).setCell ⟨w.heap.size,6,none⟩ (.int .i64 (a-t))) 0 [.bool true, .int .i64 (min sb q), .int .i64 (max sh q), .int .i64 (sr+1), .int .i64 sx, .int .i64 sy, .int .i64 (a-t), .int .i64 (sj+((a-t-st)-(sj+8) / 16))]) (w.heap.size+1) 41 #[.bool true, .int .i64 (min sb q), .int .i64 (max sh q), .int .i64 (sr+1), .int .i64 sx, .int .i64 sy, .int .i64 (a-t), .int .i64 (sj+((a-t-st)-(sj+8) / 16))]:=Blk.setRow (((((A.out.far G (.int .i64 (min sb q))).far G (.int .i64 (max sh q))).far G (.int .i64 (sr+1))).far G (.int .i64 (sj+((a-t-st)-(sj+8) / 16)))).far G (.int .i64 (a-t))) [.bool true, .int .i64 (min sb q), .int .i64 (max sh q), .int .i64 (sr+1), .int .i64 sx, .int .i64 sy, .int .i64 (a-t), .int .i64 (sj+((a-t-st)-(sj+8) / 16))] rfl
             have D:Below w.heap.size w (setRow (w.heap.size+1) (((((w1.setCell ⟨w.heap.size,1,none⟩ (.int .i64 (min sb q))).setCell ⟨w.heap.size,2,none⟩ (.int .i64 (max sh q))).setCell ⟨w.heap.size,3,none⟩ (.int .i64 (sr+1))).setCell ⟨w.heap.size,7,none⟩ (.int .i64 (sj+((a-t-st)-(sj+8) / 16)))).setCell ⟨w.heap.size,6,none⟩ (.int .i64 (a-t))) 0 [.bool true, .int .i64 (min sb q), .int .i64 (max sh q), .int .i64 (sr+1), .int .i64 sx, .int .i64 sy, .int .i64 (a-t), .int .i64 (sj+((a-t-st)-(sj+8) / 16))]):=below_setRow (by omega) [.bool true, .int .i64 (min sb q), .int .i64 (max sh q), .int .i64 (sr+1), .int .i64 sx, .int .i64 sy, .int .i64 (a-t), .int .i64 (sj+((a-t-st)-(sj+8) / 16))] _ 0 (Below.setCell (Below.setCell (Below.setCell (Below.setCell (Below.setCell U.out (by exact Nat.le_refl _) (.int .i64 (min sb q))) (by exact Nat.le_refl _) (.int .i64 (max sh q))) (by exact Nat.le_refl _) (.int .i64 (sr+1))) (by exact Nat.le_refl _) (.int .i64 (sj+((a-t-st)-(sj+8) / 16)))) (by exact Nat.le_refl _) (.int .i64 (a-t)))
             simp only [setRow] at E D
             exact bodyPost_ret (v := .agg #[.bool true, .int .i64 (min sb q), .int .i64 (max sh q), .int .i64 (sr+1), .int .i64 sx, .int .i64 sy, .int .i64 (a-t), .int .i64 (sj+((a-t-st)-(sj+8) / 16))]) (zel Tryz.results63 rfl (run_loadVar_row (P:=Tryz.prog) _ _ _ _ _ _ _ E Tryz.underlying41 rfl (by kernel_rfl))) rfl ⟨rfl,D⟩
end
theorem zqx (C:RC w p A l n c x now) (S:RS w W p A n c x) (fn t:Int) (J:Jb.Jt) (F:List Jb.Wt) (jv:Int) (P:Jb.put p.jt now ⟨fn,t,x.mrk,x.ty,x.pl⟩=(J,F,jv,0)) (a:Act) (ha:FrD w.heap.size now fn t a):firstWp Tryz.prog rcD_code (bodyPost Tryz.prog Tryz.f26 (RecvR ({ p with st:=Rep.arrive p.st fn (8*now) t,jt:=J,seed:=(Sb.sounds p.seed F).1 }, jv,(Sb.sounds p.seed F).2) w)) a W:=by
 obtain ⟨s,rfl,e1,e3,e5,Q,Ta,y,_⟩:=ha
 simp only [rl9];rw [e1,e3,e5,Q,Ta,y]
 clear e1 e3 e5 Q Ta y
 have I:(Jb.put p.jt now ⟨fn,t,x.mrk,x.ty,x.pl⟩).2.1=Jb.due now p.jt.q:=by
  have h:=congrArg (fun x=>x.2.2.2) P
  unfold Jb.put at h ⊢
  split
  · rfl
  · rename_i z;rw [if_neg z] at h;exact absurd h z
 rw [P] at I
 replace I:F=Jb.due now p.jt.q:=I
 have T4:=Z9 (show ∀ a∈F,OkW a by rw [I];exact zpe C.ok)
 have hm:F.length≤100000:=by
  rw [I]
  have h1:=zgg now p.jt.q
  have h2:=congrArg List.length C.q
  have h3:=C.len
  have h4:=C.n5
  simp at h2
  omega
 have HM:=Z9 hm
 have O:∀ W,Calls Tryz.prog 63 #[.agg #[.bool p.st.seen, .int .i64 p.st.base, .int .i64 p.st.high, .int .i64 p.st.got, .int .i64 p.st.wexp, .int .i64 p.st.wrec, .int .i64 p.st.trans, .int .i64 p.st.jit], .int .i64 fn, .int .i64 (8*now), .int .i64 t] W fun e w'=>e = .returned (.agg (Rep.arrive p.st fn (8*now) t).row)∧Below W.heap.size W w':=fun W=>znf (s0:=p.st.seen) (sb:=p.st.base) (sh:=p.st.high) (sr:=p.st.got) (sx:=p.st.wexp) (sy:=p.st.wrec) (st:=p.st.trans) (sj:=p.st.jit) (q:=fn) (a:=8*now) (t:=t) (w:=W)
 have L:=Z9 fun (W:World) Z hI=>zre p.jt A l n c now ⟨fn,t,x.mrk,x.ty,x.pl⟩ x.B x.pl.length x.pc W C.q C.len C.n5 C.cap C.cm Z C.sq rfl (by have:=C.h15;show x.pl.length≤100000;omega) hI
 unfold JPutW JV at L
 rw [P] at L
 dsimp only at L
 replace O:=Z9 O
 have Ir:=C.s0
 have Ib:=C.s1
 have hw8:wrap64 (8*now)=8*now:=IntWalk.wrap64_in _ ⟨by have:=C.n0;omega,by have:=C.n1;omega⟩
 have HA:=Z9 C.av
 have HI:=Z9 C.pl
 generalize Bf:Rep.arrive p.st fn (8*now) t=D at *
 clear hm I P Bf C
 refine zas ?_
 intro _ _
 go_wp2_with (first|(refine zaf rfl 41 (.tmp 122) rfl (w.heap.size) 32 rfl 45 (PL p A n c) S.b0 8 _ Tryz.underlying41 zcy (show 32+8≤48 by decide) (#[.bool p.st.seen, .int .i64 p.st.base, .int .i64 p.st.high, .int .i64 p.st.got, .int .i64 p.st.wexp, .int .i64 p.st.wrec, .int .i64 p.st.trans, .int .i64 p.st.jit]) (by rfl) rfl ?_)|fail)
 refine (O.out _).mono ?_
 rintro e w6 ⟨rfl,E⟩
 replace S:=S.later E
 clear E O
 go_upto_region 26 with (first|(refine zag rfl 41 (.tmp 129) (.tmp 128) rfl (w.heap.size) 32 rfl 45 (PL p A n c) S.b0 ([.bool D.seen, .int .i64 D.base, .int .i64 D.high, .int .i64 D.got, .int .i64 D.wexp, .int .i64 D.wrec, .int .i64 D.trans, .int .i64 D.jit]) rfl zcy (show 32+8≤48 by decide) rfl (PL { p with st:=D } A n c) rfl ?_;intro WG BG OG)|fail)
 replace S:=S.over OG BG
 clear BG OG
 have x0:=S.c0
 have x1:=S.c1
 have x9:=S.c9
 have H:=Z9 (Blk.new WG 183 #[.int .i64 fn, .int .i64 t, .bool x.mrk, .int .u8 x.ty, .slice x.B x.pl.length x.pc])
 obtain ⟨g4,f⟩:=nm9 WG.heap.size
 replace S:=S.push (.cells #[.int .i64 fn, .int .i64 t, .bool x.mrk, .int .u8 x.ty, .slice x.B x.pl.length x.pc] 183)
 obtain ⟨W7,b⟩:=nm9 (WG.alloc (Obj.cells #[.int .i64 fn, .int .i64 t, .bool x.mrk, .int .u8 x.ty, .slice x.B x.pl.length x.pc] 183))
 rw [← f,← b] at H
 go_upto_region 27 with fail
 rw [← f]
 rw [← b] at S ⊢
 clear b f x0 x1 x9
 have m0:=H.out.at 0 _ rfl
 have m1:=H.out.at 1 _ rfl
 have m2:=H.out.at 2 _ rfl
 have m3:=H.out.at 3 _ rfl
 have m4:=H.out.at 4 _ rfl
 have hL:=S.b2.lt
 have hLw:=S.u.size
 go_wp2_with (first|(refine zaf rfl 37 (.tmp 140) rfl (w.heap.size) 14 rfl 45 (PL { p with st:=D } A n c) S.b0 14 _ Tryz.underlying37 zbg (show 14+14≤48 by decide) (#[.int .i64 p.jt.least, .int .i64 p.jt.most, .int .i64 p.jt.now, .bool p.jt.on, .int .i64 p.jt.zero, .int .i64 p.jt.first, .int .i64 p.jt.high, .int .i64 p.jt.done, .int .i64 p.jt.spread, .int .i64 p.jt.trans, .slice A n c, .int .i64 p.jt.late, .int .i64 p.jt.twice, .int .i64 p.jt.played]) (by rfl) rfl ?_)|fail)
 refine (L.out _ (HA.out.later S.u) (HI.out.later S.u)).mono ?_
 rintro e w8 ⟨A1,c1,l1,A2,c2,l2,rfl,X,Dd,K,G,Iz,Ay,E,Cy,Be⟩
 replace S:=S.later E
 have aJ:=Z9 X
 have aI:=Z9 Dd
 have Pw:=Z9 (znw X T4.out K.cap)
 have Sp:l1.length≤100000:=by have h1:=congrArg List.length X;have h2:=HM.out;simp at h1;omega
 have YN:=E.size
 have m:=Z9 (Blk.new w8 37 (JW J A2 l2.length c2).toArray)
 obtain ⟨g5,d⟩:=nm9 w8.heap.size
 obtain ⟨W9,R⟩:=nm9 (w8.alloc (.cells (JW J A2 l2.length c2).toArray 37))
 have V:=Z9 (show Below w8.heap.size w8 W9 by rw [R];exact (Below.refl _ _).alloc (Nat.le_refl _) _)
 rw [← d,← R] at m
 clear E X Dd m0 m1 m2 m3 m4 H L
 go_upto_region 30 with fail
 rw [← d]
 change Code.wp _ _ _ _ (w8.alloc (Obj.cells (JW J A2 l2.length c2).toArray 37))
 rw [← R]
 replace S:=S.later V.out
 have Tt:=Z9 (K.later V.out)
 have o:=Z9 (G.later V.out)
 clear R d K G V
 go_upto_region 31 with (first|(refine zaf rfl 37 (.tmp 19) rfl (g5) 0 rfl 37 (JW J A2 l2.length c2) m.out 14 _ Tryz.underlying37 zbg (show 0+14≤14 by decide) ((JW J A2 l2.length c2).toArray) (by rfl) rfl ?_)|(refine zag rfl 37 (.tmp 154) (.tmp 153) rfl (w.heap.size) 14 rfl 45 (PL { p with st:=D } A n c) S.b0 (JW J A2 l2.length c2) rfl zbg (show 14+14≤48 by decide) rfl (PL { p with st:=D,jt:=J } A2 l2.length c2) rfl ?_;intro WH BH U)|fail)
 have K:=Z9 (Tt.out.step U (by omega))
 have G:=Z9 (o.out.step U (by omega))
 replace S:=S.over U BH
 clear BH U
 clear Tt o m
 obtain ⟨q1,M⟩:∃ q:Sb.Pt,q = { p with st:=D,jt:=J } := ⟨_,rfl⟩
 rw [← M] at S
 have N:=Z9 fun (W:World) Z=>zfz q1 (by rw [M];exact Ir) (by rw [M];exact Ib) A2 l2.length c2 (PA q1 A2 l2.length c2) rfl A1 l1 l1.length c1 W rfl Sp Z Pw.out
 unfold SoundsR at N
 rw [aJ.out] at N
 obtain ⟨q2,i⟩:∃ q:Sb.Pt,q = { q1 with seed:=(Sb.sounds q1.seed F).1 } := ⟨_,rfl⟩
 rw [← i] at N
 have Us:=Z9 M
 have Td:=Z9 i
 clear M i Ir Ib
 go_wp2_with (first|(refine zaf rfl 45 (.tmp 3) rfl (w.heap.size) 0 rfl 45 (PL q1 A2 l2.length c2) S.b0 48 _ Tryz.underlying45 zai (show 0+48≤48 by decide) (PA q1 A2 l2.length c2) (by rfl) rfl ?_)|fail)
 refine (N.out _ K.out.rows).mono ?_
 rintro e w10 ⟨SA,sc,ls,rfl,Ic,Zg,E⟩
 have Aj:w.heap.size≤WH.heap.size:=S.u.size
 have G7:=S.b2.lt
 replace S:=S.later E
 replace G:=Z9 (G.out.later E)
 have Xv:=Z9 Ic
 have Y:=Z9 Zg
 have mV:=E.size
 clear Ic Zg E K
 go_upto_region 32 with (first|(refine zag rfl 45 (.tmp 3) (.tmp 159) rfl (w.heap.size) 0 rfl 45 (PL q1 A2 l2.length c2) S.b0 (PL q2 A2 l2.length c2) rfl zai (show 0+48≤48 by decide) rfl (PL q2 A2 l2.length c2) rfl ?_;intro WI BI T)|fail)
 have Js:=Z9 (G.out.step T (by omega))
 replace Y:=Z9 (Y.out.only T (by omega))
 replace S:=S.over T BI
 clear BI T
 clear G
 go_wp2_with (first|(refine zaf rfl 45 (.tmp 3) rfl (w.heap.size) 0 rfl 45 (PL q2 A2 l2.length c2) S.b0 48 _ Tryz.underlying45 zai (show 0+48≤48 by decide) (PA q2 A2 l2.length c2) (by rfl) rfl ?_)|(refine zag rfl 45 (.tmp 6) (.tmp 161) rfl (w.heap.size+1+1) 0 rfl 45 (PL Sb.Pt.zero none 0 0) S.b2 (PL q2 A2 l2.length c2) rfl zai (show 0+48≤48 by decide) rfl (PL q2 A2 l2.length c2) rfl ?_;intro WK2 j g)|fail)
 have fJ:=(Js.out.step g (by omega)).less (lo':=w.heap.size) (by omega)
 refine bodyPost_ret (v := .tuple #[.agg (PA q2 A2 l2.length c2), .int .u8 jv, .slice SA l1.length sc, .int .u8 0]) (zbp Tryz.results26 rfl (PB.load j) rfl rfl rfl) rfl ⟨A2,l2.length,c2,l2,SA,sc,l1.length,ls,WH.heap.size+3,?_,aI.out,rfl,Iz,Ay,fJ,?_,by omega,Y.out.only g (by omega),g.bel S.u (by omega)⟩
 · rw [Td.out,Us.out]
 · rw [Xv.out,Us.out]
theorem zui (C:RC w p A l n c x now) (S:RS w W p A n c x) (fn t:Int) (on:Bool) (J:Jb.Jt) (B:List Jb.Wt) (jv:Int) (I:Jb.put p.jt now ⟨fn,t,x.mrk,x.ty,x.pl⟩=(J,B,jv,0)) (a:Act) (R:FrE w.heap.size now on fn t a):firstWp Tryz.prog rcE_code (bodyPost Tryz.prog Tryz.f26 (RecvR ({ p with ht:=if on=false∨p.ht<t then t else p.ht,st:=Rep.arrive p.st fn (8*now) t,jt:=J,seed:=(Sb.sounds p.seed B).1 }, jv,(Sb.sounds p.seed B).2) w)) a W:=by
 obtain ⟨s,rfl,N,M,L,K,O,P,H,_⟩:=R
 simp only [rl9];rw [N,M,L,K,O,P,H]
 clear N M L K O P H
 have F:=Z9 I
 clear I
 cases on
 · rw [if_pos (Or.inl rfl)]
   refine zbd ?_
   intro _ _ _ _
   have G:=S.b0.cell 31 _ rfl
   have T:=Blk.frozen S.b0 31
   go_upto_region 25 with fail
   obtain ⟨V,D⟩:=nm9 (W.setCell ⟨w.heap.size,31,none⟩ (.int .i64 t))
   rw [← D]
   have E:RS w V { p with ht:=t } A n c x:=by rw [D];exact S.set 31 _ rfl
   refine zao (by assumption) ?_
   exact zqx (p := { p with ht:=t }) (C.with rfl rfl) E fn t J B jv F.out _ FrD.mk
 by_cases ht:p.ht<t
 · rw [if_pos (Or.inr ht)]
   refine zbd ?_
   intro _ _ _ _
   have G:=S.b0.cell 31 _ rfl
   have T:=Blk.frozen S.b0 31
   go_upto_region 25 with fail
   obtain ⟨V,D⟩:=nm9 (W.setCell ⟨w.heap.size,31,none⟩ (.int .i64 t))
   rw [← D]
   have E:RS w V { p with ht:=t } A n c x:=by rw [D];exact S.set 31 _ rfl
   refine zao (by assumption) ?_
   exact zqx (p := { p with ht:=t }) (C.with rfl rfl) E fn t J B jv F.out _ FrD.mk
 · rw [if_neg (by rintro (h|h);cases h;exact ht h)]
   refine zbd ?_
   intro _ _ _ _
   have G:=S.b0.cell 31 _ rfl
   go_upto_region 25 with fail
   refine zao (by assumption) ?_
   exact zqx C S fn t J B jv F.out _ FrD.mk
theorem zyq (C:RC w p A l n c x now) (S:RS w W p A n c x) (gt:Nat) (fn t:Int) (on:Bool) (V:¬x.ty=101) (T : -140737488355328≤p.ht) (U:p.ht≤140737488355328) (ht:t=if on=true then Pk.near p.ht x.ti 4294967296 else x.ti) (J:Jb.Jt) (B:List Jb.Wt) (jv:Int) (D:Jb.put p.jt now ⟨fn,t,x.mrk,x.ty,x.pl⟩=(J,B,jv,0)) (a:Act) (O:FrC w.heap.size now gt on fn a):firstWp Tryz.prog rcC_code (bodyPost Tryz.prog Tryz.f26 (RecvR ({ p with ht:=if on=false∨p.ht<t then t else p.ht,st:=Rep.arrive p.st fn (8*now) t,jt:=J,seed:=(Sb.sounds p.seed B).1 }, jv,(Sb.sounds p.seed B).2) w)) a W:=by
 obtain ⟨s,rfl,H,G,F,E,M,I,K,_⟩:=O
 simp only [rl9];rw [H,G,F,E,M,I,K]
 clear H G F E M I K
 have L:=Z9 D
 have t0:=C.t0
 have t1:=C.t1
 have N:IntKind.i64.wrap x.ti=x.ti:=by simp only [IntKind.wrap,IntKind.bits,IntKind.signed];simp;omega
 have x1:=S.c1
 have P:=S.c3
 clear D
 cases on
 · rw [if_neg (by decide)] at ht
   subst ht
   refine zbd ?_
   intro _ _ _ _
   go_upto_region 23 with fail
   refine zba (by assumption) (by assumption) ?_
   exact zui C S fn x.ti false J B jv L.out _ FrE.mk
 rw [if_pos rfl] at ht
 have R:=S.b0.cell 31 _ rfl
 have k1:=Z9 fun W=>zfs (w:=W) (last:=p.ht) (x:=x.ti) t0 t1 (by omega) (by omega)
 rw [← ht] at k1
 clear ht
 refine zbd ?_
 intro _ _ _ _
 go_upto_region 23 with (first|(refine (k1.out _).mono ?_;rintro e w' ⟨rfl,rfl⟩)|fail)
 refine zba (by assumption) (by assumption) ?_
 exact zui C S fn t true J B jv L.out _ FrE.mk
end
end Go.Proofs.YtbcgnddpkiemoaaGreat
