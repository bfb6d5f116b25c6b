/- Layer 32, reference: a port as a value; the boxes while a function of a port runs. -/
import Derived.Test.YtbcgnddpkiemoaaGreatSoSym2Q
import Derived.Test.YtbcgnddpkiemoaaGreatSs9Q
import Derived.Test.YtbcgnddpkiemoaaGreatSbSTQ
import Derived.Test.YtbcgnddpkiemoaaGreatJtValidQ
import Derived.Test.YtbcgnddpkiemoaaGreatJtPnQ
import Derived.Laws.Rows
import Derived.RegionTactic
import Derived.Test.YtbcgnddpkiemoaaGreatPkEncPQ
set_option linter.unusedVariables false
set_option linter.unusedSimpArgs false
set_option maxRecDepth 100000
set_option maxHeartbeats 12800000
namespace Go.Proofs.YtbcgnddpkiemoaaGreat
variable {W W' w w' wr:World} {A:Option Addr} {n g base c gW gc g7 Sy:Nat} {er lo fr j:Int} {l:List TW} {v x3 x4 x5 x6:Value}
section
open Go.RowKit
def PW (W:World) (q:Sb.Pt) (A:Option Addr) (n:Nat):Prop:=∃ l:List TW,l.map TW.w=q.jt.q∧l.length=n∧Wts W W.heap.size A l
theorem PW.later {q:Sb.Pt} (h:PW W q A n) (hb:Below W.heap.size W W'):PW W' q A n:=by
 obtain ⟨l,h1,h2,h3⟩:=h
 exact ⟨l,h1,h2,h3.later hb⟩
theorem PW.zero: PW W Sb.Pt.zero none 0:=⟨[],rfl,rfl,fun h=>absurd h (by simp),fun _ h=>by cases h⟩
def RPort (q:Sb.Pt) (er:Int) (w:World) (e:Ending) (w':World):Prop:=∃ (A:Option Addr) (n c:Nat),e = .returned (.tuple #[.agg (PA q A n c), .int .u8 er])∧PW w' q A n∧Below w.heap.size w w'
theorem RPort.of {q:Sb.Pt} {e:Ending} (h:PortR q er w e w'):RPort q er w e w':=by
 obtain ⟨A,n,c,l,h1,h2,h3,_,_,h6,B⟩:=h
 exact ⟨A,n,c,h1,⟨l,h2,h3,h6.rows⟩,B⟩
structure RB (w W:World) (p:Sb.Pt) (A:Option Addr) (n c:Nat):Prop where
 b0:PB W w.heap.size p A n c
 b1:PB W (w.heap.size+1) Sb.Pt.zero none 0 0
 u:Bel w W
section
variable {w W W':World} {p p':Sb.Pt} {A A':Option Addr} {n n' c c':Nat}
theorem RB.new (w:World) (X:Array Value) (B:X=PA p A n c):RB w ((w.alloc (.cells X 45)).alloc (.cells (PA Sb.Pt.zero none 0 0) 45)) p A n c:=⟨(PB.new w X B).push _,Blk.new1 _ _ _ _,((Bel.refl w).push _).push _⟩
theorem RB.later (h:RB w W p A n c) (hb:Below W.heap.size W W'):RB w W' p A n c:=⟨h.b0.later hb,h.b1.later hb,h.u.later hb⟩
theorem RB.push (h:RB w W p A n c) (o:Obj):RB w (W.alloc o) p A n c:=h.later ((Below.refl _ _).alloc (Nat.le_refl _) _)
theorem RB.over (h:RB w W p A n c) (ho:OnlyB w.heap.size W W') (hb:PB W' w.heap.size p' A' n' c'):RB w W' p' A' n' c':=⟨hb,ho.blk h.b1 (by omega),ho.bel h.u (Nat.le_refl _)⟩
theorem RB.set (h:RB w W p A n c) (i:Nat) (v:Value) (hp:(PL p A n c).set i v=PL p' A n c):RB w (W.setCell ⟨w.heap.size,i,none⟩ v) p' A n c:=h.over (OnlyB.setCell _ _ _ _) (h.b0.set i v p' hp)
theorem RB.far (h:RB w W p A n c) (ho:OnlyB g W W') (hg:w.heap.size+1<g):RB w W' p A n c:=⟨ho.blk h.b0 (by omega),ho.blk h.b1 (by omega),ho.bel h.u (by omega)⟩
theorem RB.lt (h:RB w W p A n c):w.heap.size+1<W.heap.size:=Blk.lt h.b1
theorem RB.cell (h:RB w W p A n c) (i:Nat) (v:Value) (hv:(PL p A n c)[i]? = some v):W.cell? ⟨w.heap.size,i,none⟩=some v:=h.b0.cell i v hv
end
theorem zce:(Tryz.prog.info? 88).map (·.size)=some 7:=by kernel_rfl
def RepR (R:Rep.Bk×Sb.Pt×Int) (w:World) (e:Ending) (w':World):Prop:=∃ (A:Option Addr) (n c:Nat),e = .returned (.tuple #[.agg R.1.row, .agg (PA R.2.1 A n c), .int .u8 R.2.2])∧PW w' R.2.1 A n∧Below w.heap.size w w'
structure RK (w W:World) (p:Sb.Pt) (A:Option Addr) (n c:Nat):Prop where
 b0:PB W w.heap.size p A n c
 bk:Blk W (w.heap.size+1) 88 Rep.Bk.zero.row
 b1:PB W (w.heap.size+1+1) Sb.Pt.zero none 0 0
 u:Bel w W
section
variable {w W W':World} {p p':Sb.Pt} {A A':Option Addr} {n n' c c':Nat}
theorem RK.new (w:World) (X:Array Value) (B:X=PA p A n c):RK w (((w.alloc (.cells X 45)).alloc (.cells Rep.Bk.zero.row 88)).alloc (.cells (PA Sb.Pt.zero none 0 0) 45)) p A n c:=⟨((PB.new w X B).push _).push _,(Blk.new1 _ _ _ _).push _,Blk.new2 _ _ _ _ _,(((Bel.refl w).push _).push _).push _⟩
theorem RK.later (h:RK w W p A n c) (hb:Below W.heap.size W W'):RK w W' p A n c:=⟨h.b0.later hb,h.bk.later hb,h.b1.later hb,h.u.later hb⟩
theorem RK.push (h:RK w W p A n c) (o:Obj):RK w (W.alloc o) p A n c:=h.later ((Below.refl _ _).alloc (Nat.le_refl _) _)
theorem RK.over (h:RK w W p A n c) (ho:OnlyB w.heap.size W W') (hb:PB W' w.heap.size p' A' n' c'):RK w W' p' A' n' c':=⟨hb,ho.blk h.bk (by omega),ho.blk h.b1 (by omega),ho.bel h.u (Nat.le_refl _)⟩
theorem RK.lt (h:RK w W p A n c):w.heap.size+1+1<W.heap.size:=Blk.lt h.b1
end
end
section
attribute [local go_sem ↓] zab zac
attribute [local go_sem] zaa zad
open Go.RowKit
def Sl (s:Rep.St):List Value:=[.bool s.seen, .int .i64 s.base, .int .i64 s.high, .int .i64 s.got, .int .i64 s.wexp, .int .i64 s.wrec, .int .i64 s.trans, .int .i64 s.jit]
def Kl (b:Rep.Bk):List Value:=[.int .u32 b.source, .int .u8 b.frac, .int .i64 b.lost, .int .u32 b.high, .int .u32 b.jit, .int .u32 b.last, .int .u32 b.delay]
theorem zco:(Tryz.prog.info? 41).map (·.size)=some 8:=by kernel_rfl
theorem zcp:(Tryz.prog.info? 88).map (·.size)=some 7:=by kernel_rfl
structure SmS (w W:World) (s:Rep.St) (g:Nat) (k:Rep.Bk):Prop where
 b0:Blk W w.heap.size 41 (Sl s).toArray
 b1:Blk W (w.heap.size+1) 88 (Kl Rep.Bk.zero).toArray
 b2:Blk W (w.heap.size+1+1) 41 (Sl Rep.St.zero).toArray
 bk:Blk W g 88 (Kl k).toArray
 u:Bel w W
 hg:w.heap.size+1+1<g
theorem SmS.setS {s:Rep.St} {k:Rep.Bk} (h:SmS w W s g k) (i:Nat) (v:Value) (s':Rep.St) (A:(Sl s).set i v=Sl s':=by rfl):SmS w (W.setCell ⟨w.heap.size,i,none⟩ v) s' g k:=by
 have:=h.hg
 refine ⟨?_,h.b1.far (by simp) _,h.b2.far (by simp;omega) _,h.bk.far (show g≠w.heap.size by omega) _,zah h.u (Nat.le_refl _) _,h.hg⟩
 have:=h.b0.set_ i v
 rw [← A]
 simpa using this
theorem SmS.setK {s:Rep.St} {k:Rep.Bk} (h:SmS w W s g k) (i:Nat) (v:Value) (k':Rep.Bk) (A:(Kl k).set i v=Kl k':=by rfl):SmS w (W.setCell ⟨g,i,none⟩ v) s g k':=by
 have:=h.hg
 refine ⟨h.b0.far (show w.heap.size≠g by omega) _,h.b1.far (show w.heap.size+1≠g by omega) _,h.b2.far (show w.heap.size+1+1≠g by omega) _,?_,zah h.u (show w.heap.size≤g by omega) _,h.hg⟩
 have:=h.bk.set_ i v
 rw [← A]
 simpa using this
structure SmB (w W:World) (s:Rep.St):Prop where
 b0:Blk W w.heap.size 41 (Sl s).toArray
 b1:Blk W (w.heap.size+1) 88 (Kl Rep.Bk.zero).toArray
 b2:Blk W (w.heap.size+1+1) 41 (Sl Rep.St.zero).toArray
 u:Bel w W
theorem SmB.later {s:Rep.St} (h:SmB w W s) (hb:Below W.heap.size W W'):SmB w W' s:=⟨h.b0.later hb,h.b1.later hb,h.b2.later hb,h.u.later hb⟩
noncomputable def sm6_code:Code:=((Tryz.f38.body.bind (fromReg 6)).getD .skip)
noncomputable def sm12_code:Code:=((Tryz.f38.body.bind (fromReg 12)).getD .skip)
noncomputable def sm14_code:Code:=((Tryz.f38.body.bind (fromReg 14)).getD .skip)
noncomputable def sm16_code:Code:=((Tryz.f38.body.bind (fromReg 16)).getD .skip)
theorem zvt {s:Rep.St} {k:Rep.Bk} {R:Ending→World→Prop} (S:SmS w W s g k) (L:∀ (e:Ending) (w':World),e = .returned (.tuple #[.agg (k).row, .agg (s).row])∧Bel w w'→R e w') (a:Act) (J:Fr 82 [(4, .pointer (some ⟨w.heap.size,0,none⟩)),(8, .pointer (some ⟨w.heap.size+1,0,none⟩)),(9, .pointer (some ⟨w.heap.size+1+1,0,none⟩)),(10, .pointer (some ⟨g,0,none⟩))] a):firstWp Tryz.prog sm16_code (bodyPost Tryz.prog Tryz.f38 R) a W:=by
 obtain ⟨U,rfl,H,G,F,I,_⟩:=J
 simp only [rl9];rw [H,G,F,I]
 clear H G F I
 refine zas ?_
 intro _ _
 refine wp_region_held_drew (S:=fun w'=>Blk w' g 88 (Kl k).toArray∧Blk w' w.heap.size 41 (Sl s).toArray∧Bel w w') (by kernel_rfl) ⟨Blk.dr S.bk,Blk.dr S.b0,Bel.drew S.u⟩ (fun A => ?_)
 have T:=Blk.dr S.b1
 have E:=Blk.dr S.b2
 have hg:=S.hg
 clear S
 generalize W.drew=X at *
 refine tk1 (i:=0) (v := .agg (Kl k).toArray) rfl (zaw rfl 88 (.tmp 10) rfl (g) 0 rfl 88 (Kl k) (fun w h=>h.1) 7 _ Tryz.underlying88 zcp (Nat.le_refl 7) _ rfl rfl) A ?_
 try simp only [ss9]
 refine tk1 (i:=1) (v := .agg (Sl s).toArray) rfl (zaw rfl 41 (.tmp 4) rfl (w.heap.size) 0 rfl 41 (Sl s) (fun w h=>h.2.1) 8 _ Tryz.underlying41 zco (Nat.le_refl 8) _ rfl rfl) A ?_
 try simp only [ss9]
 refine rd1 2 (by kernel_rfl) rfl fun K B=>?_
 refine zam rfl 88 (.tmp 8) (.tmp 80) rfl (w.heap.size+1) 0 rfl 88 (Kl Rep.Bk.zero) T (Kl k) rfl zcp (Nat.le_refl 7) rfl (Kl k) rfl ?_
 intro WH O D
 replace E:=D.blk E (by omega)
 refine B.out _ _ ⟨D.blk A.1 (by omega),D.blk A.2.1 (by omega),D.bel A.2.2 (by omega)⟩ (fun A => ?_)
 clear B K
 try simp only [ss9]
 refine rd1 3 (by kernel_rfl) rfl fun K B=>?_
 refine zam rfl 41 (.tmp 9) (.tmp 81) rfl (w.heap.size+1+1) 0 rfl 41 (Sl Rep.St.zero) E (Sl s) rfl zco (Nat.le_refl 8) rfl (Sl s) rfl ?_
 intro V M C
 have N:=C.blk O (by omega)
 refine B.out _ _ ⟨C.blk A.1 (by omega),C.blk A.2.1 (by omega),C.bel A.2.2 (by omega)⟩ (fun A => ?_)
 clear B K
 try simp only [ss9]
 refine wpAnyH_done (by kernel_rfl) ?_ _
 go_wp2_with fail
 exact bodyPost_ret (v := .tuple #[.agg k.row, .agg s.row]) (zni Tryz.results38 rfl (run_loadVar_row (P:=Tryz.prog) _ _ _ _ _ _ _ N Tryz.underlying88 rfl (by kernel_rfl)) rfl (run_loadVar_row (P:=Tryz.prog) _ _ _ _ _ _ _ M Tryz.underlying41 rfl (by kernel_rfl))) rfl (L _ _ ⟨rfl,A.2.2⟩)
theorem zjm {s:Rep.St} {k:Rep.Bk} {R:Ending→World→Prop} (S:SmS w W s g k) (H:∀ (e:Ending) (w':World),e = .returned (.tuple #[.agg (k).row, .agg (({ s with wexp:=(s.high-s.base+1),wrec:=s.got } : Rep.St)).row])∧Bel w w'→R e w') (a:Act) (G:Fr 82 [(4, .pointer (some ⟨w.heap.size,0,none⟩)),(8, .pointer (some ⟨w.heap.size+1,0,none⟩)),(9, .pointer (some ⟨w.heap.size+1+1,0,none⟩)),(10, .pointer (some ⟨g,0,none⟩)),(11, .int .i64 (s.high-s.base+1))] a):firstWp Tryz.prog sm14_code (bodyPost Tryz.prog Tryz.f38 R) a W:=by
 obtain ⟨L,rfl,C,B,A,E,F,_⟩:=G
 simp only [rl9];rw [C,B,A,E,F]
 clear C B A E F
 refine zas ?_
 intro _ _
 have K:=S.b0.at 3 (.int .i64 s.got) rfl
 have f4:=S.b0.at 4 (.int .i64 s.wexp) rfl
 have J:=S.b0.at 5 (.int .i64 s.wrec) rfl
 have I:=S.b0.frozen
 go_upto_region 16 with fail
 clear K f4 J I
 have D:=(S.setS 4 (.int .i64 (s.high-s.base+1)) { s with wexp:=(s.high-s.base+1) }).setS 5 (.int .i64 s.got) ({ s with wexp:=(s.high-s.base+1),wrec:=s.got } : Rep.St)
 generalize (W.setCell _ _).setCell _ _=W2 at D ⊢
 refine zao (by assumption) ?_
 exact zvt D H _ (Fr.mk rfl ⟨rfl,rfl,rfl,rfl,trivial⟩)
theorem zvu {s:Rep.St} {k:Rep.Bk} {R:Ending→World→Prop} (S:SmS w W s g k) (ho:Rep.okS ⟨s.seen,s.base,s.high,s.got,s.wexp,s.wrec,s.trans,s.jit⟩=true) (hk:k.frac=0) (C:∀ (e:Ending) (w':World),e = .returned (.tuple #[.agg (({ k with frac:=Rep.frac ((s.high-s.base+1)-s.wexp) ((s.high-s.base+1)-s.wexp-(s.got-s.wrec)) } : Rep.Bk)).row, .agg (({ s with wexp:=(s.high-s.base+1),wrec:=s.got } : Rep.St)).row])∧Bel w w'→R e w') (a:Act) (T:Fr 82 [(4, .pointer (some ⟨w.heap.size,0,none⟩)),(8, .pointer (some ⟨w.heap.size+1,0,none⟩)),(9, .pointer (some ⟨w.heap.size+1+1,0,none⟩)),(10, .pointer (some ⟨g,0,none⟩)),(11, .int .i64 (s.high-s.base+1)),(12, .int .i64 ((s.high-s.base+1)-s.wexp)),(13, .int .i64 ((s.high-s.base+1)-s.wexp-(s.got-s.wrec)))] a):firstWp Tryz.prog sm12_code (bodyPost Tryz.prog Tryz.f38 R) a W:=by
 obtain ⟨i,rfl,H,G,F,L,M,K,I,_⟩:=T
 simp only [rl9];rw [H,G,F,L,M,K,I]
 clear H G F L M K I
 obtain ⟨c1,c2,c3,Y,c5,X,V,U,c9,Z,b,c,d,c14,f⟩:=Rep.okS_bd _ _ _ _ _ _ _ _ ho
 have A:=Z9 C
 clear C
 refine zbd ?_
 intro _ _ _ _
 obtain ⟨x,hx⟩:=nm9 (((s.high-s.base+1)-s.wexp))
 rw [← hx] at A ⊢
 obtain ⟨y,B⟩:=nm9 (x-(s.got-s.wrec))
 rw [← B] at A ⊢
 have h:y≤9000000000000000:=by omega
 have P:x≤9000000000000000:=by omega
 have l:=Z9 (And.intro hx B)
 clear hx B c1 c2 c3 Y c5 X V U c9 Z b c d c14 f
 by_cases h1:0<x
 · by_cases h2:0<y
   · have t1:decide (0<x)=true:=by simpa using h1
     have t2:decide (0<y)=true:=by simpa using h2
     obtain ⟨D,E⟩:∃ D,256*y / x=D:=⟨_,rfl⟩
     have j:0≤D:=by rw [← E];exact Int.ediv_nonneg (by omega) (by omega)
     have hf:Rep.frac x y=min D 255:=by unfold Rep.frac;rw [if_pos ⟨h1,h2⟩,E]
     rw [hf] at A
     clear hf
     have k1:=S.bk.at 1 (.int .u8 k.frac) rfl
     have O:=S.bk.frozen
     have N:w.heap.size≠g:=by have:=S.hg;omega
     have Sy:g≠w.heap.size:=fun e=>N e.symm
     go_upto_region 14 with fail
     clear k1 O
     have J:=S.setK 1 (.int .u8 (min D 255)) { k with frac:=min D 255 }
     generalize W.setCell _ _=W2 at J ⊢
     refine zao (by assumption) ?_
     exact zjm J A.out _ (Fr.mk rfl ⟨rfl,rfl,rfl,rfl,rfl,trivial⟩)
   · have hf:Rep.frac x y=0:=by unfold Rep.frac;rw [if_neg (by omega)]
     rw [hf,← hk] at A
     clear hf
     have t1:decide (0<x)=true:=by simpa using h1
     have t2:decide (0<y)=false:=by simpa using h2
     go_upto_region 14 with fail
     refine zao (by assumption) ?_
     exact zjm S A.out _ (Fr.mk rfl ⟨rfl,rfl,rfl,rfl,rfl,trivial⟩)
 · have hf:Rep.frac x y=0:=by unfold Rep.frac;rw [if_neg (by omega)]
   rw [hf,← hk] at A
   clear hf
   have t1:decide (0<x)=false:=by simpa using h1
   go_upto_region 14 with fail
   refine zao (by assumption) ?_
   exact zjm S A.out _ (Fr.mk rfl ⟨rfl,rfl,rfl,rfl,rfl,trivial⟩)
theorem zxl {s:Rep.St} {k:Rep.Bk} {R:Ending→World→Prop} (S:SmS w W s g k) (ho:Rep.okS ⟨s.seen,s.base,s.high,s.got,s.wexp,s.wrec,s.trans,s.jit⟩=true) (hk:k.frac=0) (L:∀ (e:Ending) (w':World),e = .returned (.tuple #[.agg (({ k with frac:=Rep.frac ((s.high-s.base+1)-s.wexp) ((s.high-s.base+1)-s.wexp-(s.got-s.wrec)),lost:=min (max ((s.high-s.base+1)-s.got) (-8388608)) 8388607,high:=s.high % 4294967296,jit:=min (s.jit / 16) 4294967295 } : Rep.Bk)).row, .agg (({ s with wexp:=(s.high-s.base+1),wrec:=s.got } : Rep.St)).row])∧Bel w w'→R e w') (a:Act) (K:Fr 82 [(4, .pointer (some ⟨w.heap.size,0,none⟩)),(8, .pointer (some ⟨w.heap.size+1,0,none⟩)),(9, .pointer (some ⟨w.heap.size+1+1,0,none⟩)),(10, .pointer (some ⟨g,0,none⟩))] a):firstWp Tryz.prog sm6_code (bodyPost Tryz.prog Tryz.f38 R) a W:=by
 obtain ⟨P,rfl,C,B,A,E,_⟩:=K
 simp only [rl9];rw [C,B,A,E]
 clear C B A E
 obtain ⟨c1,c2,c3,X,c5,V,U,T,c9,Y,Z,b,c,c14,d⟩:=Rep.okS_bd _ _ _ _ _ _ _ _ ho
 refine zas ?_
 intro _ _
 have f1:=S.b0.at 1 (.int .i64 s.base) rfl
 have f2:=S.b0.at 2 (.int .i64 s.high) rfl
 have O:=S.b0.at 3 (.int .i64 s.got) rfl
 have f4:=S.b0.at 4 (.int .i64 s.wexp) rfl
 have N:=S.b0.at 5 (.int .i64 s.wrec) rfl
 have M:=S.b0.at 7 (.int .i64 s.jit) rfl
 have J:=S.bk.at 2 (.int .i64 k.lost) rfl
 have I:=S.bk.at 3 (.int .u32 k.high) rfl
 have H:=S.bk.at 4 (.int .u32 k.jit) rfl
 have G:=S.bk.frozen
 have F:w.heap.size≠g:=by have:=S.hg;omega
 have Sy:g≠w.heap.size:=fun e=>F e.symm
 go_upto_region 12 with fail
 clear f1 f2 O f4 N M J I H G
 have D:=((S.setK 2 (.int .i64 (min (max ((s.high-s.base+1)-s.got) (-8388608)) 8388607)) { k with lost:=min (max ((s.high-s.base+1)-s.got) (-8388608)) 8388607 }).setK 3 (.int .u32 (s.high % 4294967296)) { k with lost:=min (max ((s.high-s.base+1)-s.got) (-8388608)) 8388607,high:=s.high % 4294967296 }).setK 4 (.int .u32 (min (s.jit / 16) 4294967295)) ({ k with lost:=min (max ((s.high-s.base+1)-s.got) (-8388608)) 8388607,high:=s.high % 4294967296,jit:=min (s.jit / 16) 4294967295 } : Rep.Bk)
 generalize ((W.setCell _ _).setCell _ _).setCell _ _=W2 at D ⊢
 refine zba (by assumption) (by assumption) ?_
 exact zvu D ho hk L _ (Fr.mk rfl ⟨rfl,rfl,rfl,rfl,rfl,rfl,rfl,trivial⟩)
theorem sm0 (s:Rep.St) (w:World) (so la A:Int):Calls Tryz.prog 38 #[.agg s.row, .int .u32 so, .int .u32 la, .int .u32 A] w fun e w'=>e = .returned (.tuple #[.agg (Rep.summary s so la A).1.row, .agg (Rep.summary s so la A).2.row])∧Below w.heap.size w w':=by
 have S:SmB w (((w.alloc (.cells s.row 41)).alloc (.cells (Kl Rep.Bk.zero).toArray 88)).alloc (.cells (Sl Rep.St.zero).toArray 41)) s:=⟨((Blk.new w _ _).push _).push _,(Blk.new1 _ _ _ _).push _,Blk.new2 _ _ _ _ _,(((Bel.refl w).push _).push _).push _⟩
 have M:=Z9 fun W=>ziv s.seen s.base s.high s.got s.wexp s.wrec s.trans s.jit W
 obtain ⟨ok,T⟩:=nm9 (Rep.okS s)
 obtain ⟨on,N⟩:=nm9 s.seen
 have HS:Rep.summary s so la A=if ok=false then (Rep.Bk.zero,Rep.St.zero) else if on=false then (⟨so,0,0,0,0,la,A⟩,s) else (({ (⟨so,0,0,0,0,la,A⟩:Rep.Bk) with frac:=Rep.frac ((s.high-s.base+1)-s.wexp) ((s.high-s.base+1)-s.wexp-(s.got-s.wrec)),lost:=min (max ((s.high-s.base+1)-s.got) (-8388608)) 8388607,high:=s.high % 4294967296,jit:=min (s.jit / 16) 4294967295 } : Rep.Bk),({ s with wexp:=(s.high-s.base+1),wrec:=s.got } : Rep.St)):=by rw [T,N];rfl
 have L:Rep.okS ⟨s.seen,s.base,s.high,s.got,s.wexp,s.wrec,s.trans,s.jit⟩=ok:=T.symm
 rw [L] at M
 have d:=Z9 L
 have c:=Z9 N
 clear T L N
 obtain ⟨R,J⟩:∃ R:Ending→World→Prop,R=fun e w'=>e = .returned (.tuple #[.agg (Rep.summary s so la A).1.row, .agg (Rep.summary s so la A).2.row])∧Below w.heap.size w w':=⟨_,rfl⟩
 rw [← J]
 have C:∀ e w',e = .returned (.tuple #[.agg (Rep.summary s so la A).1.row, .agg (Rep.summary s so la A).2.row])∧Bel w w'→R e w':=fun e w' h=>by rw [J];exact h
 clear J
 rw [HS] at C
 have F:=Z9 C
 clear C HS
 go_enter Tryz.func38,Tryz.ntmps38
 go_upto_region 1 with fail
 change Code.wp _ _ _ _ (((w.alloc (.cells s.row 41)).alloc (.cells (Kl Rep.Bk.zero).toArray 88)).alloc (.cells (Sl Rep.St.zero).toArray 41))
 generalize ((w.alloc _).alloc _).alloc _=W0 at S ⊢
 go_wp2_with (first|(refine zaf rfl 41 (.tmp 4) rfl (w.heap.size) 0 rfl 41 (Sl s) S.b0 8 _ Tryz.underlying41 zco (show 0+8≤8 by decide) s.row (by rfl) rfl ?_)|fail)
 refine (M.out _).mono ?_
 rintro e w1 ⟨rfl,b⟩
 replace S:=S.later b
 clear b M
 cases ok
 · go_wp2_with (first|(refine zag rfl 88 (.tmp 8) (.tmp 17) rfl (w.heap.size+1) 0 rfl 88 (Kl Rep.Bk.zero) S.b1 (Kl Rep.Bk.zero) rfl zcp (show 0+7≤7 by decide) rfl (Kl Rep.Bk.zero) rfl ?_;intro WB I D)|(refine zag rfl 41 (.tmp 9) (.tmp 18) rfl (w.heap.size+1+1) 0 rfl 41 (Sl Rep.St.zero) (D.blk S.b2 (by omega)) (Sl Rep.St.zero) rfl zco (show 0+8≤8 by decide) rfl (Sl Rep.St.zero) rfl ?_;intro p m Z)|fail)
   exact bodyPost_ret (v := .tuple #[.agg Rep.Bk.zero.row, .agg Rep.St.zero.row]) (zni Tryz.results38 rfl (run_loadVar_row (P:=Tryz.prog) _ _ _ _ _ _ _ (Z.blk I (by omega)) Tryz.underlying88 rfl (by kernel_rfl)) rfl (run_loadVar_row (P:=Tryz.prog) _ _ _ _ _ _ _ m Tryz.underlying41 rfl (by kernel_rfl))) rfl (F.out _ _ ⟨rfl,Z.bel (D.bel S.u (by omega)) (by omega)⟩)
 have U:Blk (w1.alloc (Obj.cells (Kl Rep.Bk.zero).toArray 88)) w1.heap.size 88 (Kl Rep.Bk.zero).toArray:=Blk.new _ _ _
 have hg:=S.b2.lt
 go_upto_region 4 with (first|(refine zag rfl 88 (.tmp 10) (.tmp 22) rfl (w1.heap.size) 0 rfl 88 (Kl Rep.Bk.zero) U (Kl ⟨so,0,0,0,0,la,A⟩) rfl zcp (show 0+7≤7 by decide) rfl (Kl ⟨so,0,0,0,0,la,A⟩) rfl ?_;intro WB I D)|fail)
 have Y:SmS w WB s w1.heap.size ⟨so,0,0,0,0,la,A⟩:=⟨D.blk (S.b0.push _) (by omega),D.blk (S.b1.push _) (by omega),D.blk (S.b2.push _) (by omega),I,D.bel (S.u.push _) (by omega),hg⟩
 clear S I D U hg
 generalize w1.heap.size=g at *
 have S:=Y
 clear Y
 have f0:WB.cell? ⟨w.heap.size,0,none⟩=some (.bool on):=by rw [c.out];exact S.b0.at 0 _ rfl
 cases on
 · go_upto_region 5 with fail
   have C:=F.out
   clear F f0
   obtain ⟨k,hk⟩:∃ k:Rep.Bk,k=⟨so,0,0,0,0,la,A⟩:=⟨_,rfl⟩
   rw [← hk] at S
   have V:∀ e w',e = .returned (.tuple #[.agg k.row, .agg s.row])∧Bel w w'→R e w':=by rw [hk];exact C
   clear C hk
   have C:=V
   clear V
   refine wp_region_held_drew (S:=fun w'=>Blk w' g 88 (Kl k).toArray∧Blk w' w.heap.size 41 (Sl s).toArray∧Bel w w') (by kernel_rfl) ⟨Blk.dr S.bk,Blk.dr S.b0,Bel.drew S.u⟩ (fun B => ?_)
   have n:=Blk.dr S.b1
   have O:=Blk.dr S.b2
   have hg:=S.hg
   clear S
   generalize WB.drew=X at *
   refine tk1 (i:=0) (v := .agg (Kl k).toArray) rfl (zaw rfl 88 (.tmp 10) rfl (g) 0 rfl 88 (Kl k) (fun w h=>h.1) 7 _ Tryz.underlying88 zcp (Nat.le_refl 7) _ rfl rfl) B ?_
   try simp only [ss9]
   refine tk1 (i:=1) (v := .agg (Sl s).toArray) rfl (zaw rfl 41 (.tmp 4) rfl (w.heap.size) 0 rfl 41 (Sl s) (fun w h=>h.2.1) 8 _ Tryz.underlying41 zco (Nat.le_refl 8) _ rfl rfl) B ?_
   try simp only [ss9]
   refine rd1 2 (by kernel_rfl) rfl fun K E=>?_
   refine zam rfl 88 (.tmp 8) (.tmp 26) rfl (w.heap.size+1) 0 rfl 88 (Kl Rep.Bk.zero) n (Kl k) rfl zcp (Nat.le_refl 7) rfl (Kl k) rfl ?_
   intro WH l H
   replace O:=H.blk O (by omega)
   refine E.out _ _ ⟨H.blk B.1 (by omega),H.blk B.2.1 (by omega),H.bel B.2.2 (by omega)⟩ (fun B => ?_)
   clear E K
   try simp only [ss9]
   refine rd1 3 (by kernel_rfl) rfl fun K E=>?_
   refine zam rfl 41 (.tmp 9) (.tmp 27) rfl (w.heap.size+1+1) 0 rfl 41 (Sl Rep.St.zero) O (Sl s) rfl zco (Nat.le_refl 8) rfl (Sl s) rfl ?_
   intro o f G
   have j:=G.blk l (by omega)
   refine E.out _ _ ⟨G.blk B.1 (by omega),G.blk B.2.1 (by omega),G.bel B.2.2 (by omega)⟩ (fun B => ?_)
   clear E K
   try simp only [ss9]
   refine wpAnyH_done (by kernel_rfl) ?_ _
   go_wp2_with fail
   exact bodyPost_ret (v := .tuple #[.agg k.row, .agg s.row]) (zni Tryz.results38 rfl (run_loadVar_row (P:=Tryz.prog) _ _ _ _ _ _ _ j Tryz.underlying88 rfl (by kernel_rfl)) rfl (run_loadVar_row (P:=Tryz.prog) _ _ _ _ _ _ _ f Tryz.underlying41 rfl (by kernel_rfl))) rfl (C _ _ ⟨rfl,B.2.2⟩)
 · go_upto_region 6 with fail
   refine zao (by assumption) ?_
   exact zxl S d.out rfl (by have C:=F.out;rw [if_neg (by decide),if_neg (by decide)] at C;exact C) _ (Fr.mk rfl ⟨rfl,rfl,rfl,rfl,trivial⟩)
theorem zjn (s0:Bool) (sb sh sr sx sy st sj:Int) (w:World) (so la A:Int):Calls Tryz.prog 38 #[.agg #[.bool s0, .int .i64 sb, .int .i64 sh, .int .i64 sr, .int .i64 sx, .int .i64 sy, .int .i64 st, .int .i64 sj], .int .u32 so, .int .u32 la, .int .u32 A] w fun e w'=>e = .returned (.tuple #[.agg (Rep.summary ⟨s0,sb,sh,sr,sx,sy,st,sj⟩ so la A).1.row, .agg (Rep.summary ⟨s0,sb,sh,sr,sx,sy,st,sj⟩ so la A).2.row])∧Below w.heap.size w w':=sm0 ⟨s0,sb,sh,sr,sx,sy,st,sj⟩ w so la A
theorem QOwn.drewS (h:QOwn w base A n c l):QOwn w.drew base A n c l:=h.below (Below.refl _ _).drew
theorem zgh {p:Sb.Pt} {X:Array Value} (C:PD w p A l n c) (y:X=PA p A n c) (so la I:Int):Calls Tryz.prog 17 #[.agg X, .int .u32 so, .int .u32 la, .int .u32 I] w (RepR (Sb.report p so la I) w):=by
 have S:=RK.new w X y
 obtain ⟨v,hv⟩:=nm9 p.valid
 have k1:=Z9 fun (W:World) M=>zdi p C.wf A l n c (PA p A n c) rfl W C.q C.len C.n5 M C.sq v hv
 have Y:=Z9 fun (W:World) M=>zcs p.jt A l n c W C.len C.n5 M C.pay
 unfold CopyR at Y
 rw [C.len] at Y
 have L:=fun (W:World)=>zjn p.st.seen p.st.base p.st.high p.st.got p.st.wexp p.st.wrec p.st.trans p.st.jit W so la I
 obtain ⟨g,j⟩:=nm9 (Sb.report p so la I)
 rw [← j]
 have HR:Hid (g=if v=false then (Rep.Bk.zero,Sb.Pt.zero,2) else ((Rep.summary p.st so la I).1, { p with st:=(Rep.summary p.st so la I).2 }, 0)):=Z9 (by rw [j,hv];rfl)
 clear hv j
 generalize Rep.summary ⟨p.st.seen,p.st.base,p.st.high,p.st.got,p.st.wexp,p.st.wrec,p.st.trans,p.st.jit⟩ so la I=SM at *
 obtain ⟨B,T⟩:=SM
 dsimp only at L HR
 unfold Rep.Bk.row Rep.St.row at L
 replace L:=Z9 L
 clear y
 go_enter Tryz.func17,Tryz.ntmps17
 go_upto_region 1 with fail
 change Code.wp _ _ _ _ (((w.alloc (Obj.cells X 45)).alloc (Obj.cells Rep.Bk.zero.row 88)).alloc (Obj.cells (PA Sb.Pt.zero none 0 0) 45))
 obtain ⟨W,M⟩:=nm9 (((w.alloc (Obj.cells X 45)).alloc (Obj.cells Rep.Bk.zero.row 88)).alloc (Obj.cells (PA Sb.Pt.zero none 0 0) 45))
 rw [← M] at S ⊢
 clear M
 go_wp2_with (first|(refine zaf rfl 45 (.tmp 4) rfl (w.heap.size) 0 rfl 45 (PL p A n c) S.b0 48 _ Tryz.underlying45 zai (show 0+48≤48 by decide) (PA p A n c) (by rfl) rfl ?_)|fail)
 refine (k1.out _ (C.av.later S.u)).mono ?_
 rintro e w1 ⟨rfl,D⟩
 replace S:=S.later D
 clear D k1
 have hL:=S.lt
 have jV:=Blk.lt S.bk
 cases v
 · obtain rfl:g=(Rep.Bk.zero,Sb.Pt.zero,2):=by rw [HR.out,if_pos rfl]
   go_wp2_with (first|(refine zag rfl 88 (.tmp 8) (.tmp 16) rfl (w.heap.size+1) 0 rfl 88 ([.int .u32 0, .int .u8 0, .int .i64 0, .int .u32 0, .int .u32 0, .int .u32 0, .int .u32 0]) S.bk ([.int .u32 0, .int .u8 0, .int .i64 0, .int .u32 0, .int .u32 0, .int .u32 0, .int .u32 0]) rfl zce (Nat.le_refl 7) rfl ([.int .u32 0, .int .u8 0, .int .i64 0, .int .u32 0, .int .u32 0, .int .u32 0, .int .u32 0]) rfl ?_;intro WG b J)|(refine zag rfl 45 (.tmp 9) (.tmp 17) rfl (w.heap.size+1+1) 0 rfl 45 (PL Sb.Pt.zero none 0 0) (J.blk S.b1 (by omega)) (PL Sb.Pt.zero none 0 0) rfl zai (show 0+48≤48 by decide) rfl (PL Sb.Pt.zero none 0 0) rfl ?_;intro WH o F)|fail)
   have m:Blk WH (w.heap.size+1) 88 ([.int .u32 0, .int .u8 0, .int .i64 0, .int .u32 0, .int .u32 0, .int .u32 0, .int .u32 0]:List Value).toArray:=F.blk b (by omega)
   exact bodyPost_ret (v := .tuple #[.agg Rep.Bk.zero.row, .agg (PA Sb.Pt.zero none 0 0), .int .u8 2]) (znj Tryz.results17 rfl (run_loadVar_row WH _ _ _ _ _ _ m Tryz.underlying88 rfl zce) rfl (PB.load (p:=Sb.Pt.zero) (A:=none) (n:=0) (c:=0) o) rfl) rfl ⟨none,0,0,rfl,PW.zero,F.bel (J.bel S.u (by omega)) (by omega)⟩
 obtain rfl:g=(B, { p with st:=T }, 0):=by rw [HR.out,if_neg (by decide)]
 go_upto_region 3 with fail
 go_wp2_with (first|(refine zaf rfl 41 (.tmp 19) rfl (w.heap.size) 32 rfl 45 (PL p A n c) S.b0 8 _ Tryz.underlying41 zcy (show 32+8≤48 by decide) (#[.bool p.st.seen, .int .i64 p.st.base, .int .i64 p.st.high, .int .i64 p.st.got, .int .i64 p.st.wexp, .int .i64 p.st.wrec, .int .i64 p.st.trans, .int .i64 p.st.jit]) (by rfl) rfl ?_)|fail)
 refine (L.out _).mono ?_
 rintro e w2 ⟨rfl,D⟩
 replace S:=S.later D
 have uI:=S.lt
 clear D L HR
 have E:=Z9 ((Blk.new w2 88 #[.int .u32 B.source, .int .u8 B.frac, .int .i64 B.lost, .int .u32 B.high, .int .u32 B.jit, .int .u32 B.last, .int .u32 B.delay]).push (.cells #[.bool T.seen, .int .i64 T.base, .int .i64 T.high, .int .i64 T.got, .int .i64 T.wexp, .int .i64 T.wrec, .int .i64 T.trans, .int .i64 T.jit] 41))
 have G:=Z9 (Blk.new1 w2 (.cells #[.int .u32 B.source, .int .u8 B.frac, .int .i64 B.lost, .int .u32 B.high, .int .u32 B.jit, .int .u32 B.last, .int .u32 B.delay] 88) 41 #[.bool T.seen, .int .i64 T.base, .int .i64 T.high, .int .i64 T.got, .int .i64 T.wexp, .int .i64 T.wrec, .int .i64 T.trans, .int .i64 T.jit])
 replace S:=(S.push (.cells #[.int .u32 B.source, .int .u8 B.frac, .int .i64 B.lost, .int .u32 B.high, .int .u32 B.jit, .int .u32 B.last, .int .u32 B.delay] 88)).push (.cells #[.bool T.seen, .int .i64 T.base, .int .i64 T.high, .int .i64 T.got, .int .i64 T.wexp, .int .i64 T.wrec, .int .i64 T.trans, .int .i64 T.jit] 41)
 obtain ⟨d,Z⟩:=nm9 w2.heap.size
 obtain ⟨W4,f⟩:=nm9 ((w2.alloc (.cells #[.int .u32 B.source, .int .u8 B.frac, .int .i64 B.lost, .int .u32 B.high, .int .u32 B.jit, .int .u32 B.last, .int .u32 B.delay] 88)).alloc (.cells #[.bool T.seen, .int .i64 T.base, .int .i64 T.high, .int .i64 T.got, .int .i64 T.wexp, .int .i64 T.wrec, .int .i64 T.trans, .int .i64 T.jit] 41))
 rw [← Z,← f] at E G
 rw [← Z] at uI
 go_upto_region 4 with fail
 rw [← Z]
 rw [← f] at S ⊢
 clear f Z
 have hLc:=S.lt
 go_wp2_with (first|(refine zaf rfl 37 (.tmp 27) rfl (w.heap.size) 14 rfl 45 (PL p A n c) S.b0 14 _ Tryz.underlying37 zbg (show 14+14≤48 by decide) (#[.int .i64 p.jt.least, .int .i64 p.jt.most, .int .i64 p.jt.now, .bool p.jt.on, .int .i64 p.jt.zero, .int .i64 p.jt.first, .int .i64 p.jt.high, .int .i64 p.jt.done, .int .i64 p.jt.spread, .int .i64 p.jt.trans, .slice A n c, .int .i64 p.jt.late, .int .i64 p.jt.twice, .int .i64 p.jt.played]) (by rfl) rfl ?_)|fail)
 refine (Y.out _ (C.av.later S.u)).mono ?_
 rintro e w3 ⟨A2,c2,l2,rfl,Q,P,D⟩
 replace S:=S.later D
 replace E:=Z9 (E.out.later D)
 replace G:=Z9 (G.out.later D)
 have vB:=Z9 (show l2.map TW.w=p.jt.q from Q.trans C.q)
 have jU:=G.out.lt
 clear D Y Q
 go_upto_region 5 with (first|(refine zag rfl 37 (.tmp 30) (.tmp 29) rfl (w.heap.size) 14 rfl 45 (PL p A n c) S.b0 (JW p.jt A2 n c2) rfl zbg (show 14+14≤48 by decide) rfl (PL p A2 n c2) rfl ?_;intro WF z R)|fail)
 replace P:=P.only R (by omega)
 replace S:=S.over R z
 replace E:=Z9 (R.blk E.out (by omega))
 replace G:=Z9 (R.blk G.out (by omega))
 clear z R
 go_upto_region 6 with (first|(refine zaf rfl 41 (.tmp 12) rfl (d+1) 0 rfl 41 ([.bool T.seen, .int .i64 T.base, .int .i64 T.high, .int .i64 T.got, .int .i64 T.wexp, .int .i64 T.wrec, .int .i64 T.trans, .int .i64 T.jit]) G.out 8 _ Tryz.underlying41 zcy (show 0+8≤8 by decide) (#[.bool T.seen, .int .i64 T.base, .int .i64 T.high, .int .i64 T.got, .int .i64 T.wexp, .int .i64 T.wrec, .int .i64 T.trans, .int .i64 T.jit]) (by rfl) rfl ?_)|(refine zag rfl 41 (.tmp 32) (.tmp 31) rfl (w.heap.size) 32 rfl 45 (PL p A2 n c2) S.b0 ([.bool T.seen, .int .i64 T.base, .int .i64 T.high, .int .i64 T.got, .int .i64 T.wexp, .int .i64 T.wrec, .int .i64 T.trans, .int .i64 T.jit]) rfl zcy (show 32+8≤48 by decide) rfl (PL { p with st:=T } A2 n c2) rfl ?_;intro WG b J)|fail)
 replace S:=S.over J b
 replace E:=Z9 (J.blk E.out (by omega))
 replace P:=P.only J (by omega)
 clear b J G
 refine wp_region_held_drew (S:=fun w'=>Blk w' d 88 ([.int .u32 B.source, .int .u8 B.frac, .int .i64 B.lost, .int .u32 B.high, .int .u32 B.jit, .int .u32 B.last, .int .u32 B.delay]:List Value).toArray∧PB w' w.heap.size { p with st:=T } A2 n c2) (by kernel_rfl) ⟨Blk.dr E.out,Blk.dr S.b0⟩ (fun N => ?_)
 obtain ⟨X9,V⟩:=nm9 WG.drew
 replace S:RK w X9 { p with st:=T } A2 n c2:=by rw [V];exact ⟨S.b0,S.bk,S.b1,Bel.drew S.u⟩
 have H:=QOwn.drewS P
 rw [← V] at H
 rw [← V] at N ⊢
 clear V E
 refine tk1 (i:=0) (v := .agg #[.int .u32 B.source, .int .u8 B.frac, .int .i64 B.lost, .int .u32 B.high, .int .u32 B.jit, .int .u32 B.last, .int .u32 B.delay]) rfl (zaw rfl 88 (.tmp 11) rfl d 0 rfl 88 ([.int .u32 B.source, .int .u8 B.frac, .int .i64 B.lost, .int .u32 B.high, .int .u32 B.jit, .int .u32 B.last, .int .u32 B.delay]) (fun w h=>h.1) 7 _ Tryz.underlying88 zce (Nat.le_refl 7) _ rfl rfl) N ?_
 try simp only [ss9]
 refine tk1 (i:=1) (v := .agg (PA { p with st:=T } A2 n c2)) rfl (zaw rfl 45 (.tmp 4) rfl w.heap.size 0 rfl 45 (PL { p with st:=T } A2 n c2) (fun w h=>h.2) 48 _ Tryz.underlying45 zai (Nat.le_refl 48) _ rfl rfl) N ?_
 try simp only [ss9]
 refine rd1 2 (by kernel_rfl) rfl fun K O=>?_
 refine zam rfl 88 (.tmp 8) (.tmp 33) rfl (w.heap.size+1) 0 rfl 88 ([.int .u32 0, .int .u8 0, .int .i64 0, .int .u32 0, .int .u32 0, .int .u32 0, .int .u32 0]) S.bk ([.int .u32 B.source, .int .u8 B.frac, .int .i64 B.lost, .int .u32 B.high, .int .u32 B.jit, .int .u32 B.last, .int .u32 B.delay]) rfl zce (Nat.le_refl 7) rfl ([.int .u32 B.source, .int .u8 B.frac, .int .i64 B.lost, .int .u32 B.high, .int .u32 B.jit, .int .u32 B.last, .int .u32 B.delay]) rfl ?_
 intro WA BA U
 refine O.out _ _ ⟨U.blk N.1 (by omega),U.blk N.2 (by omega)⟩ (fun a => ?_)
 clear O K
 try simp only [ss9]
 have x:PB WA (w.heap.size+1+1) Sb.Pt.zero none 0 0:=U.blk S.b1 (by omega)
 have UA:=U.bel S.u (by omega)
 replace H:=H.only U (by omega)
 refine rd1 3 (by kernel_rfl) rfl fun K O=>?_
 refine zam rfl 45 (.tmp 9) (.tmp 34) rfl (w.heap.size+1+1) 0 rfl 45 (PL Sb.Pt.zero none 0 0) x (PL { p with st:=T } A2 n c2) rfl zai (Nat.le_refl 48) rfl (PL { p with st:=T } A2 n c2) rfl ?_
 intro WH o F
 refine O.out _ _ ⟨F.blk a.1 (by omega),F.blk a.2 (by omega)⟩ (fun fX => ?_)
 clear O K
 try simp only [ss9]
 have t:=F.blk BA (by omega)
 replace H:=H.only F (by omega)
 refine tk1 (i:=4) (v := .int .u8 0) rfl (Or.inl ⟨by rfl,fun w _=>by go_simp;try with_reducible rfl⟩) fX ?_
 try simp only [ss9]
 refine wpAnyH_done (by kernel_rfl) ?_ _
 go_wp2_with fail
 exact bodyPost_ret (v := .tuple #[.agg B.row, .agg (PA { p with st:=T } A2 n c2), .int .u8 0]) (znj Tryz.results17 rfl (run_loadVar_row WH _ _ _ _ _ _ t Tryz.underlying88 rfl zce) rfl (PB.load o) rfl) rfl ⟨A2,n,c2,rfl,⟨l2,vB.out,H.len,H.wts⟩,F.bel UA (by omega)⟩
noncomputable def cv15_code:Code:=((Tryz.f4.body.bind (fromReg 15)).getD .skip)
theorem zej9' (X:World) (b:Rep.Bk):RowsAt (X.alloc (.cells b.row 88)) (X.alloc (.cells b.row 88)).heap.size 7 Rep.Bk.cells (some ⟨X.heap.size,0,none⟩) [b]:=fun _=>⟨X.heap.size,0,rfl,by simp,fun i a hi j v hv=>by
 have h0:i=0:=by have:=(List.getElem?_eq_some_iff.1 hi).1;simp at this;exact this
 subst h0
 obtain rfl:b=a:=by simpa using hi
 have hB:=Blk.new X 88 b.row
 have:=hB.at (0+0*7+j) v (by simpa [Rep.Bk.row,Rep.Bk.cells] using hv)
 exact this⟩
theorem zxm {b:Rep.Bk} (h:RowsAt w n 7 Rep.Bk.cells A [b]):∃ g off,A=some ⟨g,off,none⟩∧g<n∧w.cell? ⟨g,off,none⟩=some (.int .u32 b.source)∧w.cell? ⟨g,off+1,none⟩=some (.int .u8 b.frac)∧w.cell? ⟨g,off+2,none⟩=some (.int .i64 b.lost)∧w.cell? ⟨g,off+3,none⟩=some (.int .u32 b.high)∧w.cell? ⟨g,off+4,none⟩=some (.int .u32 b.jit)∧w.cell? ⟨g,off+5,none⟩=some (.int .u32 b.last)∧w.cell? ⟨g,off+6,none⟩=some (.int .u32 b.delay):=by
 obtain ⟨g,off,e,hb,hc⟩:=h (by simp)
 have h:=fun j v hv=>hc 0 b rfl j v hv
 simp only [Nat.zero_mul,Nat.add_zero] at h
 exact ⟨g,off,e,hb,h 0 _ rfl,h 1 _ rfl,h 2 _ rfl,h 3 _ rfl,h 4 _ rfl,h 5 _ rfl,h 6 _ rfl⟩
theorem zpf {v:VL} {x0:Value} (Q:Below W.heap.size W wr) (hE:Blk wr gW 86 (v.row gc).toArray) (L:Blk wr g7 88 #[.int .u32 7, .int .u8 fr, .int .i64 lo, .int .u32 v.most, .int .u32 j, .int .u32 3, .int .u32 4]) (g:Blk wr Sy 88 #[x0, .int .u8 0, .int .i64 lo,x3,x4,x5,x6]) (P:(⟨7,fr,lo,v.most,j,3,4⟩:Rep.Bk).ok) (Rq:(⟨7,fr,lo,v.most,j,3,4⟩:Rep.Bk).fit) (a:Act) (ha:Fr 191 [(4, .bool false),(5, .pointer (some ⟨gW,0,none⟩)),(7, .pointer (some ⟨g7,0,none⟩)),(10, .pointer (some ⟨Sy,0,none⟩)),(14, .int .i64 lo),(15, .int .i64 fr)] a):firstWp Tryz.prog cv15_code (bodyPost Tryz.prog Tryz.f4 (fun e w'=>e = .returned (.bool true)∧Below W.heap.size W w')) a wr:=by
 obtain ⟨s,rfl,Ak⟩:=ha
 simp only [rl9]
 obtain ⟨e4,e5,e7,Fj,n,Ta,_⟩:=Ak
 rw [e4,e5,e7,Fj,n,Ta]
 clear e4 e5 e7 Fj n Ta
 have b3:0≤fr∧fr≤255:=P.2.1
 have b4:0≤v.most∧v.most≤4294967295:=P.2.2.2.1
 have MR:IntKind.i64.wrap v.most=v.most:=by simp only [IntKind.wrap,IntKind.bits,IntKind.signed];simp;omega
 have xD:IntKind.i64.wrap fr=fr:=by simp only [IntKind.wrap,IntKind.bits,IntKind.signed];simp;omega
 have Ig:=hE.at 105 (.int .i64 v.most) rfl
 have z1:=L.at 1 (.int .u8 fr) rfl
 have H:=L.at 2 (.int .i64 lo) rfl
 have G:=L.at 3 (.int .u32 v.most) rfl
 have l:=g.at 1 (.int .u8 0) rfl
 have i:=g.at 2 (.int .i64 lo) rfl
 have f:=Z9 Q
 have H7:=Z9 L
 have Pw:=Z9 P
 have Xw:=Z9 Rq
 clear Q hE L g P Rq
 refine zbd ?_
 intro _ _ _ _
 go_upto_region 15 with fail
 refine wp_region_held_drew (S:=fun w'=>Below wr.heap.size wr w') (by kernel_rfl) (Below.drew (Below.refl _ _)) (fun B => ?_)
 obtain ⟨X,J⟩:=nm9 wr.drew
 rw [← J] at B ⊢
 clear J
 iterate 32
  refine tkM 32 (v:=?_) rfl rfl ?_ B ?_
  rotate_left
  · (intro w A;have Tc:=zae A H;have Uq:=zae A G;have Xs:=zae A Ig;have bT:=zae A z1;have ED:=zae A l;have RE:=zae A i;clear A;go_simp;try with_reducible rfl)
  try simp only [ss9]
 refine wpAnyH_done (by kernel_rfl) ?_ _
 have d:=Z9 (f.out.trans (B.mono f.out.size))
 have C:=Z9 (H7.out.later B)
 clear Ig z1 H G l i f H7 B
 have z0:=C.out.at 0 (.int .u32 7) rfl
 have z1:=C.out.at 1 (.int .u8 fr) rfl
 have H:=C.out.at 2 (.int .i64 lo) rfl
 have G:=C.out.at 3 (.int .u32 v.most) rfl
 have U:=C.out.at 4 (.int .u32 j) rfl
 have T:=C.out.at 5 (.int .u32 3) rfl
 have R:=C.out.at 6 (.int .u32 4) rfl
 go_wp2_with fail
 obtain ⟨x,Y⟩:=nm9 ((rp1 ⟨7,fr,lo,v.most,j,3,4⟩).bytes.length)
 have y:=(repE ⟨7,fr,lo,v.most,j,3,4⟩ Pw.out Xw.out (some ⟨X.heap.size,0,none⟩) 1 _ (zej9' X ⟨7,fr,lo,v.most,j,3,4⟩)).mono (R':=fun e w' => ∃ (I:Option Addr) (c3:Nat),e = .returned (.tuple #[.slice I x c3, .int .u8 0])∧IntsAt w' w'.heap.size .u8 I (rp1 ⟨7,fr,lo,v.most,j,3,4⟩).bytes∧Below X.heap.size X w') (by
  rintro e w' ⟨I,c3,rfl,h1,h2⟩
  exact ⟨I,c3,by rw [Y],h1.1,((Below.refl X.heap.size X).alloc (Nat.le_refl _) _).trans (h2.mono (by simp))⟩)
 refine y.mono ?_
 rintro e w3 ⟨I,c3,rfl,bQ,Z⟩
 have z:=(repD ⟨7,fr,lo,v.most,j,3,4⟩ Pw.out Xw.out I c3 x w3 Y.symm bQ).mono (R':=fun e w' => ∃ (E:Option Addr) (F:Nat),e = .returned (.tuple #[.agg #[.bool false, .int .u32 8, .int .u64 0, .int .u32 0, .int .u32 0, .int .u32 0, .slice E 1 F], .int .i64 32, .int .u8 0])∧RowsAt w' w'.heap.size 7 Rep.Bk.cells E [⟨7,fr,lo,v.most,j,3,4⟩]∧Below w3.heap.size w3 w') (by
  rintro e w' ⟨E,F,rfl,h1,h2⟩
  exact ⟨E,F,rfl,h1.1,h2⟩)
 have KD:=Z9 z
 have Jc:=Z9 (C.out.later Z)
 have c:=Z9 (d.out.trans (Z.mono d.out.size))
 clear y z Y bQ Z z0 z1 H G U T R C d
 go_wp2_with fail
 refine KD.out.mono ?_
 rintro e w4 ⟨E,F,rfl,OZ,b⟩
 have m:=Z9 (Jc.out.later b)
 have V:=Z9 (c.out.trans (b.mono c.out.size))
 have SX:=Z9 OZ
 clear OZ b Jc c KD
 go_wp2_with fail
 obtain ⟨V9,N⟩:=nm9 (w4.alloc (.cells #[.bool false, .int .u32 8, .int .u64 0, .int .u32 0, .int .u32 0, .int .u32 0, .slice E 1 F] 96))
 obtain ⟨gr,h⟩:=nm9 w4.heap.size
 have M:Below w4.heap.size w4 V9:=by rw [N];exact (Below.refl _ _).alloc (Nat.le_refl _) _
 have O:Blk V9 gr 96 #[.bool false, .int .u32 8, .int .u64 0, .int .u32 0, .int .u32 0, .int .u32 0, .slice E 1 F]:=by rw [N,h];exact Blk.new _ _ _
 rw [← N,← h]
 have PF:RowsAt V9 V9.heap.size 7 Rep.Bk.cells E [⟨7,fr,lo,v.most,j,3,4⟩]:=(SX.out.keep (fun _ hp=>M.cell hp)).more M.size
 have D:=m.out.later M
 have SP:=Z9 (V.out.trans (M.mono V.out.size))
 clear N h M SX m V
 obtain ⟨gb,ob,rfl,Sr,q0,q1,q2,u,t,p,o⟩:=zxm PF
 simp only at q0 q1 q2 u t p o
 have z0:=D.at 0 (.int .u32 7) rfl
 have z1:=D.at 1 (.int .u8 fr) rfl
 have H:=D.at 2 (.int .i64 lo) rfl
 have G:=D.at 3 (.int .u32 v.most) rfl
 have U:=D.at 4 (.int .u32 j) rfl
 have T:=D.at 5 (.int .u32 3) rfl
 have R:=D.at 6 (.int .u32 4) rfl
 have r0:=O.at 0 (.bool false) rfl
 have r1:=O.at 1 (.int .u32 8) rfl
 have r6:=O.at 6 (.slice (some ⟨gb,ob,none⟩) 1 F) rfl
 have l0:(0:Int)<1:=by decide
 clear D O PF Sr
 refine wp_region_held_drew (S:=fun w'=>Below V9.heap.size V9 w') (by kernel_rfl) (Below.drew (Below.refl _ _)) (fun B => ?_)
 obtain ⟨X,J⟩:=nm9 V9.drew
 rw [← J] at B ⊢
 clear J
 iterate 31
  refine tkM 34 (v:=?_) rfl rfl ?_ B ?_
  rotate_left
  · (intro w A;have Tc:=zae A r0;have Uq:=zae A r1;have Xs:=zae A r6;have bT:=zae A q0;have ED:=zae A q1;have RE:=zae A q2;have N4:=zae A u;have N3:=zae A t;have N2:=zae A p;have N1:=zae A o;have EI:=zae A z0;have qM:=zae A z1;have EG:=zae A H;have EF:=zae A G;have qL:=zae A U;have N6:=zae A T;have N5:=zae A R;clear A;go_simp;try with_reducible rfl)
  try simp only [ss9]
 refine rd1 31 (by kernel_rfl) rfl fun K hK=>?_
 go_simp
 refine (zdu X).mono ?_
 rintro e X2 ⟨rfl,Ad⟩
 refine hK.out _ _ ?_ (fun Aa => ?_)
 · exact zak Ad B
 clear hK K Ad B
 have B:=Aa
 clear Aa
 try simp only [ss9]
 iterate 2
  refine tkM 34 (v:=?_) rfl rfl ?_ B ?_
  rotate_left
  · (intro w A;clear A;go_simp;try with_reducible rfl)
  try simp only [ss9]
 refine wpAnyH_done (by kernel_rfl) ?_ _
 go_wp2_with fail
 go_ret
 exact ⟨rfl,SP.out.trans (B.mono SP.out.size)⟩
theorem zmn (k1 H bl bm:Int) (A:Option Addr) (c:Nat) (fs:List Ft) (LA:Option Addr) (lc:Nat) (ls:List Int) (W:World) (hR:RowsAt W W.heap.size 4 Ft.row A fs) (hl:fs.length≤maxLen) (a1:0≤k1∧k1≤255) (a2:0≤H∧H≤255) (hL:IntsAt W W.heap.size .u16 LA ls) (hz:Within 0 65535 ls) (eK:ls.length≤maxLen):Calls Tryz.prog 4 #[.agg #[.int .u8 k1, .int .u8 H, .int .i64 bl, .int .i64 bm, .slice A fs.length c], .slice LA ls.length lc] W fun e w'=>e = .returned (.bool true)∧Below W.heap.size W w':=by
 have I:=Blk.new W 77 #[.int .u8 k1, .int .u8 H, .int .i64 bl, .int .i64 bm, .slice A fs.length c]
 have M:Below W.heap.size W (W.alloc (.cells #[.int .u8 k1, .int .u8 H, .int .i64 bl, .int .i64 bm, .slice A fs.length c] 77)):=(Below.refl _ _).alloc (Nat.le_refl _) _
 have fM:=(hR.keep (fun _ hp=>M.cell hp)).more M.size
 have CT:=(hL.keep (fun _ hp=>M.cell hp)).more M.size
 obtain ⟨W1,Ah⟩:=nm9 (W.alloc (.cells #[.int .u8 k1, .int .u8 H, .int .i64 bl, .int .i64 bm, .slice A fs.length c] 77))
 rw [← Ah] at I M fM CT
 obtain ⟨g2,Fa⟩:=nm9 W.heap.size
 rw [← Fa] at I
 have kB:=Z9 (zsy k1 H bl bm A c fs LA lc ls W1 fM hl a1 a2 CT hz eK)
 have x0:=I.at 0 (.int .u8 k1) rfl
 have x1:=I.at 1 (.int .u8 H) rfl
 have x2:=I.at 2 (.int .i64 bl) rfl
 have x3:=I.at 3 (.int .i64 bm) rfl
 have x4:=I.at 4 (.slice A fs.length c) rfl
 have HW:=Z9 Ah
 have HG:=Z9 Fa
 have Oq:=Z9 M
 clear hR fM hL CT hz eK hl a1 a2 I M Ah Fa
 go_enter Tryz.func4,Tryz.ntmps4
 go_upto_region 1 with fail
 rw [← HW.out,← HG.out]
 go_wp2_with fail
 refine kB.out.mono ?_
 rintro e w2 ⟨gW,gc,v,rfl,hE,hN,qb,Br⟩
 have U2:Below W.heap.size W w2:=Oq.out.trans (qb.mono Oq.out.size)
 have Jm:=Z9 U2
 clear kB x0 x1 x2 x3 x4 U2 qb
 by_cases Ny:Jb.cfg bl bm
 rotate_left
 · have hb:=hN Ny
   have Bi:=hb.at 110 (.bool false) rfl
   clear hb hE hN
   rw [decide_eq_false Ny]
   go_wp2_with fail
   refine (zdu w2).mono ?_
   rintro e w3 ⟨rfl,G⟩
   have Nh:=Z9 G
   clear G Bi
   go_wp2_with fail
   go_ret
   exact ⟨rfl,Jm.out.trans (Nh.out.mono Jm.out.size)⟩
 have E:=hE Ny
 rw [decide_eq_true Ny]
 clear hE hN Ny
 obtain ⟨B,T,DG⟩:∃ (B:Rep.Bk) (T:Rep.St),Rep.summary v.u.p.st 7 3 4=(B,T):=⟨_,_,rfl⟩
 have SB:PD w2 v.u.p v.u.A v.u.l v.u.n v.u.c:=⟨E.wf,E.uq,E.un,by have:=E.un2;omega,E.q.wts,E.i64,E.pay⟩
 have J:=zgh SB rfl 7 3 4
 have nD:Sb.report v.u.p 7 3 4=(B, { v.u.p with st:=T }, 0):=by unfold Sb.report;rw [if_neg (by rw [E.valid];decide),DG]
 rw [nD] at J
 obtain ⟨p1,Wr⟩:∃ p1:Sb.Pt,p1 = { v.u.p with st:=T } := ⟨_,rfl⟩
 rw [← Wr] at J
 unfold RepR at J
 have Ut:=Z9 Wr
 clear Wr
 have J:=Z9 J
 have F:=Z9 E
 have VA:=Z9 DG
 have CX:=E.blk
 clear E SB nD DG
 go_wp2_with (first|(refine zaf rfl 45 (.tmp 40) rfl gW 48 rfl 86 (v.row gc) CX 48 _ Tryz.underlying45 zai (show 48+48≤111 by decide) (PA v.u.p v.u.A v.u.n v.u.c) rfl rfl ?_)|fail)
 refine J.out.mono ?_
 rintro e w3 ⟨A3,Q,c3,rfl,E2,G⟩
 obtain ⟨l3,oJ,oI,Js⟩:=E2
 have U3:Below W.heap.size W w3:=Jm.out.trans (G.mono Jm.out.size)
 have E3:Blk w3 gW 86 (v.row gc).toArray:=CX.later G
 have VF:Blk ((w3.alloc (Obj.cells Rep.Bk.zero.row 88)).alloc (Obj.cells (PA Sb.Pt.zero none 0 0) 45)) w3.heap.size 88 ([.int .u32 0, .int .u8 0, .int .i64 0, .int .u32 0, .int .u32 0, .int .u32 0, .int .u32 0]:List Value).toArray:=(Blk.new w3 88 Rep.Bk.zero.row).push _
 have VE:Blk ((w3.alloc (Obj.cells Rep.Bk.zero.row 88)).alloc (Obj.cells (PA Sb.Pt.zero none 0 0) 45)) (w3.heap.size+1) 45 (PL Sb.Pt.zero none 0 0).toArray:=Blk.new1 w3 _ _ _
 have UZ:Below w3.heap.size w3 ((w3.alloc (Obj.cells Rep.Bk.zero.row 88)).alloc (Obj.cells (PA Sb.Pt.zero none 0 0) 45)):=((Below.refl _ _).alloc (Nat.le_refl _) _).alloc (by simp) _
 have Ot:=Z9 U3
 have Ux:=Z9 E3
 have aJ:=Z9 oJ
 have aI:=Z9 oI
 have qU:=Z9 Js
 have K:=Z9 UZ
 clear CX G J oJ oI Js U3 E3 UZ
 go_upto_region 5 with (first|(refine zag rfl 88 (.tmp 7) (.tmp 43) rfl (w3.heap.size) 0 rfl 88 ([.int .u32 0, .int .u8 0, .int .i64 0, .int .u32 0, .int .u32 0, .int .u32 0, .int .u32 0]) VF ([.int .u32 B.source, .int .u8 B.frac, .int .i64 B.lost, .int .u32 B.high, .int .u32 B.jit, .int .u32 B.last, .int .u32 B.delay]) rfl zce (Nat.le_refl 7) rfl ([.int .u32 B.source, .int .u8 B.frac, .int .i64 B.lost, .int .u32 B.high, .int .u32 B.jit, .int .u32 B.last, .int .u32 B.delay]) rfl ?_;intro WG BG O)|(refine zag rfl 45 (.tmp 8) (.tmp 44) rfl (w3.heap.size+1) 0 rfl 45 (PL Sb.Pt.zero none 0 0) (O.blk VE (by omega)) (PL p1 A3 Q c3) rfl zai (show 0+48≤48 by decide) rfl (PL p1 A3 Q c3) rfl ?_;intro WH BH OH)|fail)
 have N:Below w3.heap.size w3 WG:=O.below K.out K.out.size (Nat.le_refl _)
 have UH:Below w3.heap.size w3 WH:=OH.below N N.size (Nat.le_succ _)
 have B7:Blk WH w3.heap.size 88 _:=OH.blk BG (by omega)
 have EH:=Ux.out.later UH
 have RY:PD WH p1 A3 l3 Q c3:=by
  have hw:=F.out.wf
  have hq:l3.map TW.w=v.u.p.jt.q:=by rw [aJ.out,Ut.out]
  have hn:∀ a∈l3,∃ b∈v.u.l,b.w=a.w:=fun a ha=>by
   have h1:a.w∈v.u.l.map TW.w:=by rw [F.out.uq,← hq];exact List.mem_map_of_mem ha
   obtain ⟨b,hb,e⟩:=List.mem_map.1 h1
   exact ⟨b,hb,e⟩
  refine ⟨by rw [Ut.out];exact ⟨hw.codec,hw.src,hw.seq,hw.time,hw.below,hw.tvol,hw.tcode,hw.tst,hw.seed,hw.pk,hw.oc⟩,aJ.out,aI.out,?_,qU.out.later UH,fun a ha => ?_,fun a ha => ?_⟩
  · have h1:=congrArg List.length hq
    rw [← F.out.uq,List.length_map,List.length_map,aI.out,F.out.un] at h1
    have:=F.out.un2
    omega
  · obtain ⟨b,hb,e⟩:=hn a ha
    rw [← e];exact F.out.i64 b hb
  · obtain ⟨b,hb,e⟩:=hn a ha
    rw [← e];exact F.out.pay b hb
 obtain ⟨C,T2,gD⟩:∃ (B:Rep.Bk) (T9:Rep.St),Rep.summary T 7 3 4=(B,T9):=⟨_,_,rfl⟩
 have L:=zgh RY rfl 7 3 4
 have aV:Sb.report p1 7 3 4=(C, { p1 with st:=T2 }, 0):=by
  have Y:p1.valid=true:=by rw [Ut.out];exact F.out.valid
  have e2:p1.st=T:=by rw [Ut.out]
  unfold Sb.report
  rw [if_neg (by rw [Y];decide),e2,gD]
 rw [aV] at L
 obtain ⟨p2,Ue⟩:∃ p2:Sb.Pt,p2 = { p1 with st:=T2 } := ⟨_,rfl⟩
 rw [← Ue] at L
 unfold RepR at L
 have L:=Z9 L
 have FE:=Z9 UH
 have GN:=Z9 gD
 have D:=Z9 B7
 have UN:=Z9 EH
 obtain ⟨g7,eR⟩:=nm9 w3.heap.size
 rw [← eR] at D BH ⊢
 have zR:g7<WH.heap.size:=D.out.lt
 clear N UH B7 EH RY gD aV Ue BG O VF VE OH aJ aI qU K Ux eR
 go_wp2_with (first|(refine zaf rfl 45 (.tmp 8) rfl (g7+1) 0 rfl 45 (PL p1 A3 Q c3) BH 48 _ Tryz.underlying45 zai (show 0+48≤48 by decide) (PA p1 A3 Q c3) rfl rfl ?_)|fail)
 refine L.out.mono ?_
 rintro e w5 ⟨A5,n5,c5,rfl,CP,Pf⟩
 have GT:=D.out.later Pf
 have E5:=UN.out.later Pf
 have qW:=Z9 (Ot.out.trans ((FE.out.trans (Pf.mono FE.out.size)).mono Ot.out.size))
 have rU:=Z9 GT
 have lF:=Z9 E5
 have zS:g7<w5.heap.size:=GT.lt
 have sF:Blk ((w5.alloc (Obj.cells Rep.Bk.zero.row 88)).alloc (Obj.cells (PA Sb.Pt.zero none 0 0) 45)) w5.heap.size 88 ([.int .u32 0, .int .u8 0, .int .i64 0, .int .u32 0, .int .u32 0, .int .u32 0, .int .u32 0]:List Value).toArray:=(Blk.new w5 88 Rep.Bk.zero.row).push _
 have sE:Blk ((w5.alloc (Obj.cells Rep.Bk.zero.row 88)).alloc (Obj.cells (PA Sb.Pt.zero none 0 0) 45)) (w5.heap.size+1) 45 (PL Sb.Pt.zero none 0 0).toArray:=Blk.new1 w5 _ _ _
 have K:=Z9 (((Below.refl w5.heap.size w5).alloc (Nat.le_refl _) (Obj.cells Rep.Bk.zero.row 88)).alloc (by simp) (Obj.cells (PA Sb.Pt.zero none 0 0) 45))
 clear CP L Ot FE Pf GT E5 D UN BH
 go_upto_region 6 with (first|(refine zag rfl 88 (.tmp 10) (.tmp 49) rfl (w5.heap.size) 0 rfl 88 ([.int .u32 0, .int .u8 0, .int .i64 0, .int .u32 0, .int .u32 0, .int .u32 0, .int .u32 0]) sF ([.int .u32 C.source, .int .u8 C.frac, .int .i64 C.lost, .int .u32 C.high, .int .u32 C.jit, .int .u32 C.last, .int .u32 C.delay]) rfl zce (Nat.le_refl 7) rfl ([.int .u32 C.source, .int .u8 C.frac, .int .i64 C.lost, .int .u32 C.high, .int .u32 C.jit, .int .u32 C.last, .int .u32 C.delay]) rfl ?_;intro WG BG O)|(refine zag rfl 45 (.tmp 11) (.tmp 50) rfl (w5.heap.size+1) 0 rfl 45 (PL Sb.Pt.zero none 0 0) (O.blk sE (by omega)) (PL p2 A5 n5 c5) rfl zai (show 0+48≤48 by decide) rfl (PL p2 A5 n5 c5) rfl ?_;intro WV BV OV)|fail)
 have N:Below w5.heap.size w5 WG:=O.below K.out K.out.size (Nat.le_refl _)
 have UV:Below w5.heap.size w5 WV:=OV.below N N.size (Nat.le_succ _)
 obtain ⟨Sy,pB⟩:=nm9 w5.heap.size
 have GV:Blk WV w5.heap.size 88 _:=OV.blk BG (by omega)
 rw [← pB] at GV ⊢
 have aK:=Z9 GV
 have D:=Z9 (rU.out.later UV)
 have U:=Z9 (lF.out.later UV)
 have uY:=Z9 (qW.out.trans (UV.mono qW.out.size))
 clear N UV GV BG O BV OV sF sE K rU lF qW zS zR pB
 have Bi:=U.out.at 110 (.bool false) rfl
 have Jd:=U.out.at 103 (.int .i64 v.count) rfl
 have Ov:=U.out.at 104 (.int .i64 v.least) rfl
 have Ig:=U.out.at 105 (.int .i64 v.most) rfl
 have z0:=D.out.at 0 (.int .u32 B.source) rfl
 have z1:=D.out.at 1 (.int .u8 B.frac) rfl
 have R:=D.out.at 2 (.int .i64 B.lost) rfl
 have P:=D.out.at 3 (.int .u32 B.high) rfl
 have x:=D.out.at 4 (.int .u32 B.jit) rfl
 have t:=D.out.at 5 (.int .u32 B.last) rfl
 have o:=D.out.at 6 (.int .u32 B.delay) rfl
 have i:=F.out.st
 have t9:=F.out.c5
 have fB:=i.c0
 by_cases tX:v.count=0
 · have QU:=i.z tX
   have hb:=VA.out
   rw [QU] at hb
   have m:Rep.summary Rep.St.zero 7 3 4=(⟨7,0,0,0,0,3,4⟩,Rep.St.zero):=by rfl
   have hB:B=⟨7,0,0,0,0,3,4⟩:=congrArg Prod.fst (hb.symm.trans m)
   rw [hB] at z0 z1 R P x t o
   rw [tX] at Jd
   clear hB hb m QU i tX t9 fB
   go_wp2_with fail
   refine (zdu WV).mono ?_
   rintro e w3 ⟨rfl,G⟩
   have Nh:=Z9 G
   clear G
   go_wp2_with fail
   go_ret
   exact ⟨rfl,uY.out.trans (Nh.out.mono uY.out.size)⟩
 have Fg:0<v.count:=by omega
 obtain ⟨T9,j,Ib,j0,j1,g,f⟩:=i.sum (by omega) Fg 7 3 4
 obtain ⟨_,_,_,_,_,_,s0,s1,s2,_⟩:=i.s Fg
 have hb:=VA.out.symm.trans Ib
 have hB:B=⟨7,Rep.frac (v.most-v.least+1) (v.most-v.least+1-v.count),v.most-v.least+1-v.count,v.most,j,3,4⟩:=congrArg Prod.fst hb
 have hT:T=T9:=congrArg Prod.snd hb
 have m:=GN.out
 rw [hT] at m
 rw [m] at g f
 have g:C.frac=0:=g
 have f:C.lost=v.most-v.least+1-v.count:=f
 have u1:=aK.out.at 1 (.int .u8 C.frac) rfl
 have u2:=aK.out.at 2 (.int .i64 C.lost) rfl
 rw [g] at u1
 rw [f] at u2
 rw [hB] at z0 z1 R P x t o
 obtain ⟨al,V⟩:=nm9 (v.most-v.least+1)
 obtain ⟨lo,d⟩:=nm9 (al-v.count)
 obtain ⟨fr,Uh⟩:=nm9 (Rep.frac al lo)
 rw [← V,← d] at u2
 rw [← V,← d,← Uh] at z0 z1 R P x t o
 simp only at z0 z1 R P x t o
 have b1:1≤al∧al≤60:=by omega
 have b2 : -450≤lo∧lo≤59:=by omega
 have b3:0≤fr∧fr≤255:=by rw [Uh];exact Rep.frac_bd _ _
 have As:(⟨7,fr,lo,v.most,j,3,4⟩:Rep.Bk).ok:=⟨(⟨by decide,by decide⟩:(0:Int)≤7∧(7:Int)≤4294967295),b3,⟨by show _≤lo;omega,by show lo≤_;omega⟩,⟨by show 0≤v.most;omega,by show v.most≤_;omega⟩,⟨j0,j1⟩,(⟨by decide,by decide⟩:(0:Int)≤3∧(3:Int)≤4294967295),(⟨by decide,by decide⟩:(0:Int)≤4∧(4:Int)≤4294967295)⟩
 have Rq:(⟨7,fr,lo,v.most,j,3,4⟩:Rep.Bk).fit:=⟨by show _≤lo;omega,by show lo≤_;omega⟩
 have Pw:=Z9 As
 have Xw:=Z9 Rq
 have Sn:IntKind.i64.wrap (v.most-v.least)=v.most-v.least:=by simp only [IntKind.wrap,IntKind.bits,IntKind.signed];simp;omega
 have Ua:IntKind.i64.wrap (v.most-v.least+1)=al:=by rw [← V];simp only [IntKind.wrap,IntKind.bits,IntKind.signed];simp;omega
 have xE:IntKind.i64.wrap (al-v.count)=lo:=by rw [← d];simp only [IntKind.wrap,IntKind.bits,IntKind.signed];simp;omega
 have MR:IntKind.i64.wrap v.most=v.most:=by simp only [IntKind.wrap,IntKind.bits,IntKind.signed];simp;omega
 have xD:IntKind.i64.wrap fr=fr:=by simp only [IntKind.wrap,IntKind.bits,IntKind.signed];simp;omega
 have Cd:(v.count==0)=false:=by simpa using tX
 have VJ:Blk WV g7 88 #[.int .u32 7, .int .u8 fr, .int .i64 lo, .int .u32 v.most, .int .u32 j, .int .u32 3, .int .u32 4]:=by
  have h:=D.out
  rw [hB] at h
  simp only at h
  rw [← V,← d,← Uh] at h
  exact h
 have sG:Blk WV Sy 88 #[.int .u32 C.source, .int .u8 0, .int .i64 lo, .int .u32 C.high, .int .u32 C.jit, .int .u32 C.last, .int .u32 C.delay]:=by
  have h:=aK.out
  rw [g,f,← V,← d] at h
  exact h
 have Z:=Z9 VJ.drew
 have Qs:=Z9 sG.drew
 have y:=Z9 U.out.drew
 have iC:=Z9 (Below.drew uY.out)
 clear VJ sG
 have rN:=Z9 Uh
 clear hB hT hb m Ib g f i Uh As Rq V d
 go_upto_region 10 with fail
 go_region
 generalize World.drew WV=X at Z Qs y iC ⊢
 clear z0 z1 R P x t o u1 u2 Bi Jd Ov Ig D aK U uY
 have Jd:=y.out.at 103 (.int .i64 v.count) rfl
 have Ig:=y.out.at 105 (.int .i64 v.most) rfl
 have z1:=Z.out.at 1 (.int .u8 fr) rfl
 have R:=Z.out.at 2 (.int .i64 lo) rfl
 have P:=Z.out.at 3 (.int .u32 v.most) rfl
 have u1:=Qs.out.at 1 (.int .u8 0) rfl
 have u2:=Qs.out.at 2 (.int .i64 lo) rfl
 have Pi:∀ Bd:Act,Fr 191 [(5, .pointer (some ⟨gW,0,none⟩)),(7, .pointer (some ⟨g7,0,none⟩)),(10, .pointer (some ⟨Sy,0,none⟩)),(14, .int .i64 lo),(15, .int .i64 fr)] Bd→True:=fun _ _=>trivial
 clear Pi
 by_cases tU:0<lo
 · have Y:fr=min (256*lo / al) 255:=by rw [rN.out];unfold Rep.frac;rw [if_pos ⟨by omega,tU⟩]
   have e2:Int.tdiv (256*lo) al=256*lo / al:=Int.tdiv_eq_ediv_of_nonneg (by omega)
   have e3:0≤256*lo / al:=Int.ediv_nonneg (by omega) (by omega)
   have e4:256*lo / al≤256*lo:=Int.ediv_le_self _ (by omega)
   obtain ⟨q,hq⟩:=nm9 (256*lo / al)
   rw [← hq] at Y e2 e3 e4
   have D5:¬al=0:=by omega
   have hw6:IntKind.i64.wrap (256*lo)=256*lo:=by simp only [IntKind.wrap,IntKind.bits,IntKind.signed];simp;omega
   have hw7:IntKind.i64.wrap q=q:=by simp only [IntKind.wrap,IntKind.bits,IntKind.signed];simp;omega
   have e5:min 255 q=fr:=by omega
   clear hq Y
   go_upto_region 15 with fail
   refine zba (by assumption) (by assumption) ?_
   exact zpf iC.out y.out Z.out Qs.out Pw.out Xw.out _ (Fr.mk rfl ⟨rfl,rfl,rfl,rfl,rfl,rfl,trivial⟩)
 · have Y:fr=0:=by rw [rN.out];unfold Rep.frac;rw [if_neg (fun h=>tU h.2)]
   clear rN
   subst Y
   go_upto_region 15 with fail
   refine zba (by assumption) (by assumption) ?_
   exact zpf iC.out y.out Z.out Qs.out Pw.out Xw.out _ (Fr.mk rfl ⟨rfl,rfl,rfl,rfl,rfl,rfl,trivial⟩)
end
section
open Go.ChangeShapes Go.WideShapes Go.ChangeAt Go.RowKit Go.Deep
section
variable {H:Type} {enc:TypeId×Value→H} {w:World} {base:Nat} {spare:Nat→Bool} {held:Bool}
theorem Ft.of_trod (n:Nat) (cs:List Value) (x:DataW H×List MemPlace) (h:DataW.trod enc Tryz.prog w base spare held n 131 cs=some x):∃ a:Ft,cs=a.row∧True:=by
 obtain ⟨hl,hf⟩:=zeo 12 n 131 [4,3,4,3] cs x (by kernel_rfl) h
 obtain ⟨c0,h0,l0⟩:=hf 0 _ rfl
 obtain ⟨z0,rfl⟩:=l0.bool Tryz.underlying4
 obtain ⟨c1,h1,l1⟩:=hf 1 _ rfl
 obtain ⟨z1,rfl,w1⟩:=l1.int Tryz.underlying3
 obtain ⟨c2,h2,l2⟩:=hf 2 _ rfl
 obtain ⟨B,rfl⟩:=l2.bool Tryz.underlying4
 obtain ⟨c3,h3,l3⟩:=hf 3 _ rfl
 obtain ⟨A,rfl,w3⟩:=l3.int Tryz.underlying3
 exact ⟨⟨z0,z1,B,A⟩,AllAt.eq ⟨h0,h1,h2,h3,trivial⟩ hl,trivial⟩
theorem zvv {r:Reach} {b0:Nat} {d:DataW H} {p:List MemPlace} (hv:Value.okWide Tryz.prog w r b0 77 v) (h:DataW.Trod enc Tryz.prog w base spare held 77 v d p):∃ (k1 D bl bm:Int) (A:Option Addr) (fs:List Ft) (c:Nat),v = .agg #[.int .u8 k1, .int .u8 D, .int .i64 bl, .int .i64 bm, .slice A fs.length c]∧((Lit.int .u8 k1).wf=true∧(Lit.int .u8 D).wf=true)∧fs.length≤c∧c≤maxLen∧RowsAt w w.heap.size 4 Ft.row A fs:=by
 obtain ⟨cs,rfl,_⟩:=okWide_struct Tryz.underlying77 hv
 obtain ⟨n,h⟩:=h
 obtain ⟨hl,hf⟩:=zeo 12 n 77 [5,5,3,3,75] _ _ (by kernel_rfl) h
 obtain ⟨c0,h0,l0⟩:=hf 0 _ rfl
 obtain ⟨z0,rfl,w0⟩:=l0.int Tryz.underlying5
 obtain ⟨c1,h1,l1⟩:=hf 1 _ rfl
 obtain ⟨z1,rfl,w1⟩:=l1.int Tryz.underlying5
 obtain ⟨c2,h2,l2⟩:=hf 2 _ rfl
 obtain ⟨C,rfl,w2⟩:=l2.int Tryz.underlying3
 obtain ⟨c3,h3,l3⟩:=hf 3 _ rfl
 obtain ⟨B,rfl,w3⟩:=l3.int Tryz.underlying3
 obtain ⟨J,h4,E⟩:=hf 4 _ rfl
 obtain ⟨A,l,cap,rfl,I,f4,G,K⟩:=E.rows (row:=Ft.row) (ok:=fun _=>True) Tryz.underlying75 (by kernel_rfl:Tryz.prog.cellsOf 131=4) (by decide) (fun n cs x h=>Ft.of_trod n cs x h)
 refine ⟨z0,z1,C,B,A,l,cap,?_,⟨w0,w1⟩,I,f4,G⟩
 have F:(Value.agg cs).cells.toList=[.int .u8 z0, .int .u8 z1, .int .i64 C, .int .i64 B, .slice A l.length cap]:=AllAt.eq ⟨h0,h1,h2,h3,h4,trivial⟩ hl
 have:cs.toList=[.int .u8 z0, .int .u8 z1, .int .i64 C, .int .i64 B, .slice A l.length cap]:=by simpa [Value.cells] using F
 rw [← this]
end
end
namespace voiceCounts
open Go.RowKit
theorem walk (w:World) (k1 C bl bm:Int) (A:Option Addr) (fs:List Ft) (c:Nat) (hk:(Lit.int .u8 k1).wf=true∧(Lit.int .u8 C).wf=true) (hl:fs.length≤c) (hc:c≤maxLen) (E:RowsAt w w.heap.size 4 Ft.row A fs) (D:Option Addr) (ls:List Int) (B:Nat) (H:ls.length≤B) (G:B≤maxLen) (F:IntsAt w w.heap.size .u16 D ls) (hw:∀ z∈ls,(Lit.int .u16 z).wf=true) :
 Calls Tryz.prog 4 #[.agg #[.int .u8 k1, .int .u8 C, .int .i64 bl, .int .i64 bm, .slice A fs.length c], .slice D ls.length B] w fun e w'=>e = .returned (.bool true)∧Below w.heap.size w w' :=
 zmn k1 C bl bm A c fs D B ls w E (Nat.le_trans hl hc) (by have:=hk.1;simp [Lit.wf,IntKind.min,IntKind.max,IntKind.signed,IntKind.bits] at this;omega) (by have:=hk.2;simp [Lit.wf,IntKind.min,IntKind.max,IntKind.signed,IntKind.bits] at this;omega) F (fun z hz=>by have:=hw z hz;simp [Lit.wf,IntKind.min,IntKind.max,IntKind.signed,IntKind.bits] at this;omega) (Nat.le_trans H G)
end voiceCounts
end Go.Proofs.YtbcgnddpkiemoaaGreat
