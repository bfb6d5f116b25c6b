/- The stable sort of indexes: symMerge, its third way. -/
import Derived.Test.YtbcgnddpkiemoaaGreatSs9Q
import Derived.Test.YtbcgnddpkiemoaaGreatSyR10Q
import Derived.Test.YtbcgnddpkiemoaaGreatSbRecvQ
import Derived.Test.YtbcgnddpkiemoaaGreatVmTQ
import Derived.Test.YtbcgnddpkiemoaaGreatJtPnQ
import Derived.Test.YtbcgnddpkiemoaaGreatJtCopyQ
import Derived.Test.YtbcgnddpkiemoaaGreatPkEncPQ
import Derived.Deep.LoopGhost
import Derived.StillTailTactics
import Derived.Test.YtbcgnddpkiemoaaGreatSbSTQ
import Derived.Laws.Bits64b
import Derived.Laws.Rows
import Derived.BigQuiet
import Derived.Deep.QuietTactic
import Derived.Laws.BitsAllLaws
import Derived.Deep.CutRange
import Derived.Deep.DeepCutAuto
import Derived.RegionCalls
import Derived.Deep.RegionWith
import Derived.Deep.RegionHeld3
set_option linter.unusedVariables false
set_option linter.unusedSimpArgs false
set_option maxRecDepth 100000
set_option maxHeartbeats 12800000
namespace Go.Proofs.YtbcgnddpkiemoaaGreat
variable {V W0 W w w' W1:World} {i rc base gW gc m dn dc zc B o g ga n:Nat} {rA DA ZA A:Option Addr} {now t T c:Int} {v v1 v2 v0 v':VL} {P:List Sb.Pkt} {kk x:Sb.Pkt} {a bs:List Int} {b:Rep.Bk} {l:List TW} {p:Sb.Pt}
section
attribute [local go_sem ↓] zab zac
attribute [local go_sem] zaa zad
open Go.RowKit
noncomputable def sym39_code:Code:=((Tryz.f140.body.bind (fromReg 39)).getD .skip)
noncomputable def sym41_code:Code:=((Tryz.f140.body.bind (fromReg 41)).getD .skip)
noncomputable def sym43_code:Code:=((Tryz.f140.body.bind (fromReg 43)).getD .skip)
theorem zhc (A n F:Nat) (C:Array Value) (P:World→Prop) (y:∀ (args:Array Value) (w:World),(callFunc F args).run Tryz.prog w = .ok (.enter F args) w) (o:∀ V B:World,P V→Chg [A] V B→P B) (l:∀ (V:World) (a b:Nat),P V→a<n→b<n→Calls Tryz.prog F (#[.int .i64 a, .int .i64 b]++C) V (CmpI V)) (hn:n≤1000) {R:Ending→World→Prop} (G:∀ w':World,Chg [A] V w'→InR w' A n→R (.returned (.tuple #[])) w') (a m b d st e:Nat) (h3:b≤n) (v:a≤d) (x:d≤b) (f:∀ (I E D:Nat) (B:World),I<E→E<D→D≤n→D-I<b-a→InR B A n→P B→Calls Tryz.prog 140 #[.slice (some ⟨A,0,none⟩) n n, .int .i64 I, .int .i64 E, .int .i64 D,(.func (.func F) #[] C)] B (SoR A n B)) (u:a<d) (W:World) (H:SyI P A n V W) (c:Act) (hc:Fr 220 [(18, .int .i64 (d:Int)),(20, .int .i64 (st:Int)),(24, .int .i64 (e:Int)),(0, .slice (some ⟨A,0,none⟩) n n),(1, .int .i64 a),(2, .int .i64 m),(3, .int .i64 b),(4,(.func (.func F) #[] C))] c):firstWp Tryz.prog sym43_code (bodyPost Tryz.prog Tryz.f140 R) c W:=by
 obtain ⟨s,rfl,j⟩:=hc
 simp only [rl9]
 obtain ⟨U,T,O,N,M,L,K,J,_⟩:=j
 rw [U,T,O,N,M,L,K,J]
 clear U T O N M L K J
 refine zwn ?_
 intro _ _
 by_cases g:d<e
 rotate_left
 · have h:¬(d:Int)<(e:Int):=by omega
   go_wp2_with fail
   go_end0
   exact G _ H.ch H.ix
 have h:(d:Int)<(e:Int):=by omega
 by_cases hB:e<b
 rotate_left
 · have i:¬(e:Int)<(b:Int):=by omega
   go_wp2_with fail
   go_end0
   exact G _ H.ch H.ix
 have i:(e:Int)<(b:Int):=by omega
 go_wp2_with fail
 refine (f d e b W g hB h3 (by omega) H.ix H.p).mono ?_
 rintro t w9 ⟨rfl,Z,X⟩
 have Y:=Z9 (show Chg [A] V w9∧InR w9 A n from ⟨H.ch.trans Z,X⟩)
 clear Z X
 go_wp2_with fail
 go_end0
 exact G _ Y.out.1 Y.out.2
theorem zhd (A n F:Nat) (C:Array Value) (P:World→Prop) (U:∀ (args:Array Value) (w:World),(callFunc F args).run Tryz.prog w = .ok (.enter F args) w) (E:∀ V B:World,P V→Chg [A] V B→P B) (J:∀ (V:World) (a b:Nat),P V→a<n→b<n→Calls Tryz.prog F (#[.int .i64 a, .int .i64 b]++C) V (CmpI V)) (hn:n≤1000) {R:Ending→World→Prop} (K:∀ w':World,Chg [A] V w'→InR w' A n→R (.returned (.tuple #[])) w') (a m b d st e:Nat) (h3:b≤n) (N:a≤d) (O:d≤b) (D:∀ (L I G:Nat) (B:World),L<I→I<G→G≤n→G-L<b-a→InR B A n→P B→Calls Tryz.prog 140 #[.slice (some ⟨A,0,none⟩) n n, .int .i64 L, .int .i64 I, .int .i64 G,(.func (.func F) #[] C)] B (SoR A n B)) (M:a<d) (z:d<b) (W:World) (H:SyI P A n V W) (c:Act) (hc:Fr 220 [(18, .int .i64 (d:Int)),(20, .int .i64 (st:Int)),(24, .int .i64 (e:Int)),(0, .slice (some ⟨A,0,none⟩) n n),(1, .int .i64 a),(2, .int .i64 m),(3, .int .i64 b),(4,(.func (.func F) #[] C))] c):firstWp Tryz.prog sym41_code (bodyPost Tryz.prog Tryz.f140 R) c W:=by
 obtain ⟨s,rfl,x⟩:=hc
 simp only [rl9]
 obtain ⟨j,i,h,g,f,Z,Y,X,_⟩:=x
 rw [j,i,h,g,f,Z,Y,X]
 clear j i h g f Z Y X
 refine zbd ?_
 intro _ _ _ _
 by_cases o:a<st
 rotate_left
 · have t:¬(a:Int)<(st:Int):=by omega
   go_upto_region 43 with fail
   refine zao (by assumption) ?_
   refine zhc A n F C P U E J hn K a m b d st e h3 N O D M _ H _ ?_
   exact Fr.mk rfl ⟨rfl,rfl,rfl,rfl,rfl,rfl,rfl,rfl,trivial⟩
 have t:(a:Int)<(st:Int):=by omega
 by_cases hB:st<d
 rotate_left
 · have v:¬(st:Int)<(d:Int):=by omega
   go_upto_region 43 with fail
   refine zao (by assumption) ?_
   refine zhc A n F C P U E J hn K a m b d st e h3 N O D M _ H _ ?_
   exact Fr.mk rfl ⟨rfl,rfl,rfl,rfl,rfl,rfl,rfl,rfl,trivial⟩
 have v:(st:Int)<(d:Int):=by omega
 go_wp2_with fail
 refine (D a st d W o hB (by omega) (by omega) H.ix H.p).mono ?_
 rintro y w9 ⟨rfl,T,l⟩
 have u:SyI P A n V w9:=⟨H.ch.trans T,l,E _ _ H.p T⟩
 clear T l
 go_upto_region 43 with fail
 refine zao (by assumption) ?_
 refine zhc A n F C P U E J hn K a m b d st e h3 N O D M _ u _ ?_
 exact Fr.mk rfl ⟨rfl,rfl,rfl,rfl,rfl,rfl,rfl,rfl,trivial⟩
theorem zst (A n F:Nat) (C:Array Value) (P:World→Prop) (X:∀ (args:Array Value) (w:World),(callFunc F args).run Tryz.prog w = .ok (.enter F args) w) (D:∀ V B:World,P V→Chg [A] V B→P B) (J:∀ (V:World) (a b:Nat),P V→a<n→b<n→Calls Tryz.prog F (#[.int .i64 a, .int .i64 b]++C) V (CmpI V)) (hn:n≤1000) {R:Ending→World→Prop} (K:∀ w':World,Chg [A] V w'→InR w' A n→R (.returned (.tuple #[])) w') (a m b d st e:Nat) (h3:b≤n) (O:a≤d) (T:d≤b) (I:∀ (L G E:Nat) (B:World),L<G→G<E→E≤n→E-L<b-a→InR B A n→P B→Calls Tryz.prog 140 #[.slice (some ⟨A,0,none⟩) n n, .int .i64 L, .int .i64 G, .int .i64 E,(.func (.func F) #[] C)] B (SoR A n B)) (N:a<d) (M:d<b) (he:e≤n) (W:World) (H:SyI P A n V W) (c:Act) (hc:Fr 220 [(18, .int .i64 (d:Int)),(20, .int .i64 (st:Int)),(24, .int .i64 (e:Int)),(0, .slice (some ⟨A,0,none⟩) n n),(1, .int .i64 a),(2, .int .i64 m),(3, .int .i64 b),(4,(.func (.func F) #[] C))] c):firstWp Tryz.prog sym39_code (bodyPost Tryz.prog Tryz.f140 R) c W:=by
 obtain ⟨s,rfl,y⟩:=hc
 simp only [rl9]
 obtain ⟨l,j,i,h,g,f,Z,Y,_⟩:=y
 rw [l,j,i,h,g,f,Z,Y]
 clear l j i h g f Z Y
 refine zbd ?_
 intro _ _ _ _
 by_cases t:st<m
 rotate_left
 · have u:¬(st:Int)<(m:Int):=by omega
   go_upto_region 41 with fail
   refine zba (by assumption) (by assumption) ?_
   refine zhd A n F C P X D J hn K a m b d st e h3 O T I N M _ H _ ?_
   exact Fr.mk rfl ⟨rfl,rfl,rfl,rfl,rfl,rfl,rfl,rfl,trivial⟩
 have u:(st:Int)<(m:Int):=by omega
 by_cases hB:m<e
 rotate_left
 · have x:¬(m:Int)<(e:Int):=by omega
   go_upto_region 41 with fail
   refine zba (by assumption) (by assumption) ?_
   refine zhd A n F C P X D J hn K a m b d st e h3 O T I N M _ H _ ?_
   exact Fr.mk rfl ⟨rfl,rfl,rfl,rfl,rfl,rfl,rfl,rfl,trivial⟩
 have x:(m:Int)<(e:Int):=by omega
 go_wp2_with fail
 refine (zwm A n st m e (.func (.func F) #[] C) W H.ix t hB he hn).mono ?_
 rintro z w9 ⟨rfl,U,o⟩
 have v:SyI P A n V w9:=⟨H.ch.trans U,o,D _ _ H.p U⟩
 clear U o
 go_upto_region 41 with fail
 refine zba (by assumption) (by assumption) ?_
 refine zhd A n F C P X D J hn K a m b d st e h3 O T I N M _ v _ ?_
 exact Fr.mk rfl ⟨rfl,rfl,rfl,rfl,rfl,rfl,rfl,rfl,trivial⟩
noncomputable def sym33_code:Code:=((Tryz.f140.body.bind (fromReg 32)).getD .skip)
theorem zky (A n F:Nat) (C:Array Value) (P:World→Prop) (Bo:∀ (args:Array Value) (w:World),(callFunc F args).run Tryz.prog w = .ok (.enter F args) w) (g:∀ V D:World,P V→Chg [A] V D→P D) (kC:∀ (V:World) (a b:Nat),P V→a<n→b<n→Calls Tryz.prog F (#[.int .i64 a, .int .i64 b]++C) V (CmpI V)) (hn:n≤1000) {R:Ending→World→Prop} (hR:∀ w':World,Chg [A] V w'→InR w' A n→R (.returned (.tuple #[])) w') (a m b d N p lo hi:Nat) (h3:b≤n) (hm:m≤n) (hN:N=d+m) (hp:p+1=N) (Iw:a<d) (Id:d<b) (Br:lo≤hi) (hhi:hi≤n) (Fk:hi≤N) (hpn:N≤n+lo) (kR:∀ (l f Z:Nat) (D:World),l<f→f<Z→Z≤n→Z-l<b-a→InR D A n→P D→Calls Tryz.prog 140 #[.slice (some ⟨A,0,none⟩) n n, .int .i64 l, .int .i64 f, .int .i64 Z,(.func (.func F) #[] C)] D (SoR A n D)) (W:World) (H:SyI P A n V W) (c:Act) (hc:Fr 220 [(18, .int .i64 (d:Int)),(19, .int .i64 (N:Int)),(20, .int .i64 (lo:Int)),(21, .int .i64 (hi:Int)),(0, .slice (some ⟨A,0,none⟩) n n),(1, .int .i64 a),(2, .int .i64 m),(3, .int .i64 b),(4,(.func (.func F) #[] C))] c):firstWp Tryz.prog sym33_code (bodyPost Tryz.prog Tryz.f140 R) c W:=by
 obtain ⟨s,rfl,u⟩:=hc
 simp only [rl9]
 obtain ⟨T,G,Xr,QX,O,M,L,J,I,_⟩:=u
 rw [T,G,Xr,QX,O,M,L,J,I]
 clear T G Xr QX O M L J I
 have ep:(N:Int)-1=(p:Int):=by omega
 have Sf:=Z9 hN
 have FP:=Z9 hp
 clear hN hp
 refine zas ?_
 intro _ _
 go_wp2_with fail
 refine wp_loop_rounds (hi-lo+1) (zav (BinJ (SyI P A n V) 20 21 lo hi [(18, .int .i64 (d:Int)),(19, .int .i64 (N:Int)),(22, .int .i64 (p:Int)),(0, .slice (some ⟨A,0,none⟩) n n),(1, .int .i64 a),(2, .int .i64 m),(3, .int .i64 b),(4,(.func (.func F) #[] C))]) (fun Q c wr hJ => ?_) (hi-lo) _ _ ⟨lo,hi,Nat.le_refl _,Br,Nat.le_refl _,by omega,H,Fr.mk rfl ⟨rfl,rfl,rfl,rfl,rfl,rfl,rfl,rfl,rfl,rfl,trivial⟩⟩)
 clear H ep
 obtain ⟨i,j,Ct,bF,oQ,Jr,E,hc⟩:=hJ
 obtain ⟨s,rfl,u⟩:=hc
 simp only [rl9]
 obtain ⟨ei,ej,T,G,QW,O,M,L,J,I,_⟩:=u
 rw [ei,ej,T,G,QW,O,M,L,J,I]
 clear ei ej T G QW O M L J I
 by_cases hlt:i<j
 rotate_left
 · have Cx:¬(i:Int)<(j:Int):=by omega
   have ee:(N:Int)-(i:Int)=((N-i:Nat):Int):=by omega
   go_upto_region 38 with fail
   clear hlt Cx
   go_upto_region 39 with fail
   refine zba (by assumption) (by assumption) ?_
   refine zst A n F C P Bo g kC hn hR a m b d i (N-i) h3 (by omega) (by omega) kR Iw Id (by omega) _ E _ ?_
   exact Fr.mk rfl ⟨rfl,rfl,rfl,rfl,rfl,rfl,rfl,rfl,trivial⟩
 have Cx:(i:Int)<(j:Int):=by omega
 have dW:=FP.out
 obtain ⟨h,hh⟩:=nm9 ((i+j) / 2)
 have he:((i:Int)+(j:Int)) / 2=(h:Int):=by omega
 have zI:i≤h:=by omega
 have NU:h<j:=by omega
 obtain ⟨r,hr⟩:=nm9 (p-h)
 have eph:(p:Int)-(h:Int)=(r:Int):=by omega
 have ZB:r<n:=by omega
 have grw:IntKind.i64.wrap (r:Int)=(r:Int):=zpy _ (by omega) (by omega)
 clear hh dW hr
 have g0:(0:Int)≤(h:Int):=by omega
 have g1:(h:Int)<(n:Int):=by omega
 have g2:(0:Int)≤(r:Int):=by omega
 have g3:(r:Int)<(n:Int):=by omega
 obtain ⟨x,hx,cx⟩:=E.ix.at (i:=r) ZB
 obtain ⟨y,hy,cy⟩:=E.ix.at (i:=h) (by omega)
 have t:=E.ix.lt
 have HP:=Z9 E.p
 go_upto_region 35 with fail
 refine wp_region_held_drew (S:=fun w'=>Below wr.heap.size wr w') (by kernel_rfl) (Below.drew (Below.refl _ _)) (fun B => ?_)
 obtain ⟨X,hX⟩:=nm9 wr.drew
 rw [← hX] at B ⊢
 clear hX
 iterate 11
  refine tkM 14 (v:=?_) rfl rfl ?_ B ?_
  rotate_left
  · (intro w Y;have Tc:=(Y.cell (p:=⟨A,r,none⟩) t).trans cx;have Uq:=(Y.cell (p:=⟨A,h,none⟩) t).trans cy;clear Y;go_simp;try with_reducible rfl)
  try simp only [ss9]
 refine rd1 11 (by kernel_rfl) rfl fun K hK=>?_
 go_simp
 try rw [Bo]
 refine (kC X x y (g _ _ HP.out (Chg.of_below B)) (by assumption) (by assumption)).mono ?_
 rintro e X2 ⟨z,rfl,Ad⟩
 refine hK.out _ _ ?_ (fun Aa => ?_)
 · exact zak Ad B
 clear hK K Ad B
 have B:=Aa
 clear Aa
 try simp only [ss9]
 iterate 2
  refine tkM 14 (v:=?_) rfl rfl ?_ B ?_
  rotate_left
  · (intro w Y;clear Y;go_simp;try with_reducible rfl)
  try simp only [ss9]
 refine wpAnyH_done (by kernel_rfl) ?_ _
 have Ps:=Z9 (SyI.later g E B)
 clear B E HP cx cy t
 by_cases hz:z<0
 · have U:decide (z<0)=true:=decide_eq_true hz
   have dQ:¬0≤z:=by omega
   have o:(!decide (z<0))=false:=by rw [U];rfl
   first|rw [o]|rw [U]
   go_wp2_with fail
   exact ⟨Q-1,by omega,i,h,by omega,by omega,by omega,by omega,Ps.out,Fr.mk rfl ⟨rfl,rfl,rfl,rfl,rfl,rfl,rfl,rfl,rfl,rfl,trivial⟩⟩
 · have U:decide (z<0)=false:=decide_eq_false hz
   have dQ:0≤z:=by omega
   have o:(!decide (z<0))=true:=by rw [U];rfl
   first|rw [o]|rw [U]
   go_wp2_with fail
   exact ⟨Q-1,by omega,h+1,j,by omega,by omega,by omega,by omega,Ps.out,Fr.mk rfl ⟨rfl,rfl,rfl,rfl,rfl,rfl,rfl,rfl,rfl,rfl,trivial⟩⟩
noncomputable def sym24_code':Code:=((Tryz.f140.body.bind (fromReg 24)).getD .skip)
theorem zsu (A n F:Nat) (C:Array Value) (P:World→Prop) (j:∀ (args:Array Value) (w:World),(callFunc F args).run Tryz.prog w = .ok (.enter F args) w) (T:∀ V B:World,P V→Chg [A] V B→P B) (M:∀ (V:World) (a b:Nat),P V→a<n→b<n→Calls Tryz.prog F (#[.int .i64 a, .int .i64 b]++C) V (CmpI V)) (hn:n≤1000) {R:Ending→World→Prop} (O:∀ w':World,Chg [A] V w'→InR w' A n→R (.returned (.tuple #[])) w') (a m b:Nat) (h1:a+2≤m) (h2:m+2≤b) (h3:b≤n) (L:∀ (I G E:Nat) (B:World),I<G→G<E→E≤n→E-I<b-a→InR B A n→P B→Calls Tryz.prog 140 #[.slice (some ⟨A,0,none⟩) n n, .int .i64 I, .int .i64 G, .int .i64 E,(.func (.func F) #[] C)] B (SoR A n B)) (W:World) (H:SyI P A n V W) (c:Act) (hc:Fr 220 [(0, .slice (some ⟨A,0,none⟩) n n),(1, .int .i64 a),(2, .int .i64 m),(3, .int .i64 b),(4,(.func (.func F) #[] C))] c):firstWp Tryz.prog sym24_code' (bodyPost Tryz.prog Tryz.f140 R) c W:=by
 obtain ⟨s,rfl,u⟩:=hc
 simp only [rl9]
 obtain ⟨g,f,Z,Y,X,_⟩:=u
 rw [g,f,Z,Y,X]
 clear g f Z Y X
 obtain ⟨d,hd⟩:=nm9 ((a+b) / 2)
 obtain ⟨N,U⟩:=nm9 (d+m)
 have he:((a:Int)+(b:Int)) / 2=(d:Int):=by omega
 have x:(d:Int)+(m:Int)=(N:Int):=by omega
 have h:a<d:=by omega
 have i:d<b:=by omega
 have z:2*d≤a+b:=by omega
 have y:a+b≤2*d+1:=by omega
 have D:=Z9 U
 clear hd U
 refine zas ?_
 intro _ _
 by_cases Q:d<m
 · have l:(d:Int)<(m:Int):=by omega
   have o:=D.out
   obtain ⟨lo,p⟩:=nm9 (N-b)
   have v:(N:Int)-(b:Int)=(lo:Int):=by omega
   have t:lo≤d:=by omega
   have K:d≤N:=by omega
   have J:N≤n+lo:=by omega
   clear o p
   go_upto_region 32 with fail
   refine zao (by assumption) ?_
   refine zky A n F C P j T M hn O a m b d N (N-1) lo d h3 (by omega) D.out (by have:=D.out;omega) h i t (by omega) K J L _ H _ ?_
   exact Fr.mk rfl ⟨rfl,rfl,rfl,rfl,rfl,rfl,rfl,rfl,rfl,trivial⟩
 · have l:¬(d:Int)<(m:Int):=by omega
   have K:m≤N:=by have:=D.out;omega
   have J:N≤n+a:=by have:=D.out;omega
   go_upto_region 32 with fail
   refine zao (by assumption) ?_
   refine zky A n F C P j T M hn O a m b d N (N-1) a m h3 (by omega) D.out (by have:=D.out;omega) h i (by omega) (by omega) K J L _ H _ ?_
   exact Fr.mk rfl ⟨rfl,rfl,rfl,rfl,rfl,rfl,rfl,rfl,rfl,trivial⟩
theorem zjo (A n F:Nat) (C:Array Value) (P:World→Prop) (J:∀ (args:Array Value) (w:World),(callFunc F args).run Tryz.prog w = .ok (.enter F args) w) (I:∀ V B:World,P V→Chg [A] V B→P B) (H:∀ (V:World) (a b:Nat),P V→a<n→b<n→Calls Tryz.prog F (#[.int .i64 a, .int .i64 b]++C) V (CmpI V)) (hn:n≤1000):∀ (w a m b:Nat) (V:World),b-a≤w→a<m→m<b→b≤n→InR V A n→P V→Calls Tryz.prog 140 #[.slice (some ⟨A,0,none⟩) n n, .int .i64 a, .int .i64 m, .int .i64 b,(.func (.func F) #[] C)] V (SoR A n V)
 | 0,a,m,b,V,hw,h1,h2,h3,h,h0=>by omega
 | w + 1, a, m, b, V, hw, h1, h2, h3, h, h0 => by
   have M:∀ (G E D:Nat) (B:World),G<E→E<D→D≤n→D-G<b-a→InR B A n→P B→Calls Tryz.prog 140 #[.slice (some ⟨A,0,none⟩) n n, .int .i64 G, .int .i64 E, .int .i64 D,(.func (.func F) #[] C)] B (SoR A n B):=fun G E D B g1 g2 g3 g4 R g6=>zjo A n F C P J I H hn w G E D B (by omega) g1 g2 g3 R g6
   have L:SyI P A n V V:=⟨Chg.refl _ _,h,h0⟩
   have K:∀ w':World,Chg [A] V w'→InR w' A n→SoR A n V (.returned (.tuple #[])) w':=fun w' g1 g2=>⟨rfl,g1,g2⟩
   have T:=Z9 M
   clear h h0 M
   go_enter Tryz.func140,Tryz.ntmps140
   by_cases N:m=a+1
   · have hq:(m:Int)-(a:Int)=1:=by omega
     have U:=Z9 N
     clear N
     go_upto_region 1 with fail
     refine zba (by assumption) (by assumption) ?_
     refine zwo A n F C P J I H hn K a m b h1 h2 h3 _ L _ ?_
     exact Fr.mk rfl ⟨rfl,rfl,rfl,rfl,rfl,trivial⟩
   have hq:¬(m:Int)-(a:Int)=1:=by omega
   by_cases O:b=m+1
   · have X:(b:Int)-(m:Int)=1:=by omega
     have U:=Z9 O
     clear O
     go_upto_region 13 with fail
     refine zba (by assumption) (by assumption) ?_
     refine zth A n F C P J I H hn K a m b h1 h2 h3 _ L _ ?_
     exact Fr.mk rfl ⟨rfl,rfl,rfl,rfl,rfl,trivial⟩
   have X:¬(b:Int)-(m:Int)=1:=by omega
   go_upto_region 24 with fail
   refine zao (by assumption) ?_
   refine zsu A n F C P J I H hn K a m b (by omega) (by omega) h3 T.out _ L _ ?_
   exact Fr.mk rfl ⟨rfl,rfl,rfl,rfl,rfl,trivial⟩
def StA (I:World→Prop) (n:Nat) (FR:List (Nat×Value)) (m:Nat) (c:Act) (wr:World):Prop:=∃ a b:Nat,b=a+20∧a≤n∧n≤a+m∧I wr∧Fr 63 ((7, .int .i64 (a:Int))::(8, .int .i64 (b:Int))::(6, .int .i64 20)::FR) c
def StB (I:World→Prop) (n:Nat) (FR:List (Nat×Value)) (m:Nat) (c:Act) (wr:World):Prop:=∃ s:Nat,0<s∧s≤2*n+20∧n≤s+m∧I wr∧Fr 63 ((6, .int .i64 (s:Int))::FR) c
def StC (I:World→Prop) (n s:Nat) (FR:List (Nat×Value)) (m:Nat) (c:Act) (wr:World):Prop:=∃ a b:Nat,b=a+2*s∧a≤n∧n≤a+m∧I wr∧Fr 63 ((7, .int .i64 (a:Int))::(8, .int .i64 (b:Int))::(6, .int .i64 (s:Int))::FR) c
theorem zwc (B n F:Nat) (C:Array Value) (P:World→Prop) (Z:∀ (args:Array Value) (w:World),(callFunc F args).run Tryz.prog w = .ok (.enter F args) w) (H:∀ V j:World,P V→Chg [B] V j→P j) (Y:∀ (V:World) (a b:Nat),P V→a<n→b<n→Calls Tryz.prog F (#[.int .i64 a, .int .i64 b]++C) V (CmpI V)) (hn:n≤1000) (V:World) (h:InR V B n) (h0:P V):Calls Tryz.prog 137 #[.slice (some ⟨B,0,none⟩) n n, .int .i64 n,(.func (.func F) #[] C)] V (SoR B n V):=by
 have o:SyI P B n V V:=⟨Chg.refl _ _,h,h0⟩
 clear h h0
 go_enter Tryz.func137,Tryz.ntmps137
 go_wp2_with fail
 refine wp_loop_rounds (n+1) (zav (StA (SyI P B n V) n [(0, .slice (some ⟨B,0,none⟩) n n),(1, .int .i64 n),(2,(.func (.func F) #[] C))]) (fun m c wr N => ?_) n _ _ ⟨0,20,rfl,Nat.zero_le _,by omega,o,Fr.mk rfl ⟨rfl,rfl,rfl,rfl,rfl,rfl,trivial⟩⟩)
 clear o
 obtain ⟨a,b,hb,i,hm,A,hc⟩:=N
 obtain ⟨s,rfl,X⟩:=hc
 simp only [rl9]
 obtain ⟨R,O,I,L,K,J,_⟩:=X
 rw [R,O,I,L,K,J]
 clear R O I L K J
 have U:=Z9 hb
 clear hb
 by_cases T:b≤n
 · have Ad:(b:Int)≤(n:Int):=by omega
   have W:a≤b:=by have:=U.out;omega
   go_wp2_with fail
   refine (zpz B n F C P Z H Y hn a b wr A.ix A.p W T).mono ?_
   rintro d w9 ⟨rfl,D,E⟩
   have M:SyI P B n V w9:=⟨A.ch.trans D,E,H _ _ A.p D⟩
   clear D E A
   go_wp2_with fail
   exact ⟨m-1,by have:=U.out;omega,b,b+20,rfl,T,by have:=U.out;omega,M,Fr.mk rfl ⟨rfl,rfl,rfl,rfl,rfl,rfl,trivial⟩⟩
 have Ad:¬(b:Int)≤(n:Int):=by omega
 have Aq:(n:Int)<(b:Int):=by omega
 go_wp2_with fail
 refine (zpz B n F C P Z H Y hn a n wr A.ix A.p i (Nat.le_refl _)).mono ?_
 rintro d w9 ⟨rfl,D,E⟩
 have M:SyI P B n V w9:=⟨A.ch.trans D,E,H _ _ A.p D⟩
 clear D E A U
 go_wp2_with fail
 refine wp_loop_rounds (n+1) (zav (StB (SyI P B n V) n [(0, .slice (some ⟨B,0,none⟩) n n),(1, .int .i64 n),(2,(.func (.func F) #[] C))]) (fun m c wr N => ?_) n _ _ ⟨20,by omega,by omega,by omega,M,Fr.mk rfl ⟨rfl,rfl,rfl,rfl,trivial⟩⟩)
 clear M
 obtain ⟨z,Ia,Og,Cl,A,hc⟩:=N
 obtain ⟨s,rfl,X⟩:=hc
 simp only [rl9]
 obtain ⟨I,L,K,J,_⟩:=X
 rw [I,L,K,J]
 clear I L K J
 by_cases MJ:z<n
 rotate_left
 · have Q:¬(z:Int)<(n:Int):=by omega
   go_wp2_with fail
   go_end0
   exact ⟨rfl,A.ch,A.ix⟩
 have Q:(z:Int)<(n:Int):=by omega
 obtain ⟨y,g⟩:=nm9 (2*z)
 have ey:2*(z:Int)=(y:Int):=by omega
 have v:(z:Int)*2=(y:Int):=by omega
 have G:=Z9 g
 clear g
 go_upto_region 8 with fail
 go_wp2_with fail
 refine wp_loop_rounds (n+1) (zav (StC (SyI P B n V) n z [(0, .slice (some ⟨B,0,none⟩) n n),(1, .int .i64 n),(2,(.func (.func F) #[] C))]) (fun u c wr N => ?_) n _ _ ⟨0,y,by have:=G.out;omega,Nat.zero_le _,by omega,A,Fr.mk rfl ⟨rfl,rfl,rfl,rfl,rfl,rfl,trivial⟩⟩)
 clear A
 obtain ⟨a,b,hb,i,Jr,A,hc⟩:=N
 obtain ⟨s,rfl,X⟩:=hc
 simp only [rl9]
 obtain ⟨R,O,I,L,K,J,_⟩:=X
 rw [R,O,I,L,K,J]
 clear R O I L K J
 obtain ⟨q,hq⟩:=nm9 (a+z)
 have x:(a:Int)+(z:Int)=(q:Int):=by omega
 have l:a<q:=by omega
 have YU:q<b:=by omega
 have f:b=a+y:=by have:=G.out;omega
 have U:=Z9 hb
 have HQ:=Z9 hq
 have HBQ:=Z9 f
 clear hb hq f
 by_cases T:b≤n
 · have Qm:(b:Int)≤(n:Int):=by omega
   go_wp2_with fail
   refine (zjo B n F C P Z H Y hn (b-a) a q b wr (Nat.le_refl _) l YU T A.ix A.p).mono ?_
   rintro d w9 ⟨rfl,D,E⟩
   have M:SyI P B n V w9:=⟨A.ch.trans D,E,H _ _ A.p D⟩
   clear D E A
   go_wp2_with fail
   exact ⟨u-1,by omega,b,b+y,by have:=G.out;omega,T,by omega,M,Fr.mk rfl ⟨rfl,rfl,rfl,rfl,rfl,rfl,trivial⟩⟩
 have Qm:¬(b:Int)≤(n:Int):=by omega
 have Pf:(n:Int)<(b:Int):=by omega
 by_cases NB:q<n
 · have t:(q:Int)<(n:Int):=by omega
   go_wp2_with fail
   refine (zjo B n F C P Z H Y hn (n-a) a q n wr (Nat.le_refl _) l NB (Nat.le_refl _) A.ix A.p).mono ?_
   rintro d w9 ⟨rfl,D,E⟩
   have M:SyI P B n V w9:=⟨A.ch.trans D,E,H _ _ A.p D⟩
   clear D E A
   go_wp2_with fail
   exact ⟨m-1,by omega,y,by have:=G.out;omega,by have:=G.out;omega,by have:=G.out;omega,M,Fr.mk rfl ⟨rfl,rfl,rfl,rfl,trivial⟩⟩
 have t:¬(q:Int)<(n:Int):=by omega
 go_wp2_with fail
 exact ⟨m-1,by omega,y,by have:=G.out;omega,by have:=G.out;omega,by have:=G.out;omega,A,Fr.mk rfl ⟨rfl,rfl,rfl,rfl,trivial⟩⟩
theorem zsv (A n F:Nat) (C:Array Value) (P:World→Prop) (I:∀ (args:Array Value) (w:World),(callFunc F args).run Tryz.prog w = .ok (.enter F args) w) (E:∀ V B:World,P V→Chg [A] V B→P B) (D:∀ (V:World) (a b:Nat),P V→a<n→b<n→Calls Tryz.prog F (#[.int .i64 a, .int .i64 b]++C) V (CmpI V)) (hn:n≤1000) (V:World) (h:InR V A n) (h0:P V):Calls Tryz.prog 133 #[.slice (some ⟨A,0,none⟩) n n,(.func (.func F) #[] C)] V (SoR A n V):=by
 go_enter Tryz.func133,Tryz.ntmps133
 go_wp2_with fail
 refine (zwc A n F C P I E D hn V h h0).mono ?_
 rintro J w9 ⟨rfl,H,G⟩
 go_wp2_with fail
 go_end0
 exact ⟨rfl,H,G⟩
theorem zih (a b:Bool) (V:World):Calls Tryz.prog 115 #[.bool a, .bool b] V fun e w'=>(∃ z:Int,e = .returned (.int .i64 z))∧w'=V:=by
 cases a<;>cases b
 all_goals
  go_enter Tryz.func115,Tryz.ntmps115
  go_wp2
  go_ret
  exact ⟨⟨_,rfl⟩,rfl⟩
theorem zii (g:Nat) (x y z:Int) (V:World) (hB:Blk V g 3 #[.int .i64 x, .int .i64 y, .int .i64 z]):Calls Tryz.prog 113 #[.slice (some ⟨g,0,none⟩) 3 3] V (CmpI V):=by
 have x0:=hB.at 0 _ rfl
 have x1:=hB.at 1 _ rfl
 have A:=hB.at 2 _ rfl
 go_enter Tryz.func113,Tryz.ntmps113
 go_wp2_with fail
 go_loopw [8] (fun i wr => ∃ k:Nat,k≤3∧i = .int .i64 k∧wr=V) (fun i _=>3-(intOf i).toNat)
 case atStart=>exact ⟨0,by omega,rfl,rfl⟩
 case round =>
  obtain ⟨k,hk,rfl,rfl⟩:=hrel
  by_cases hlt:k<3
  · obtain ⟨u,hu⟩:∃ u:Int,wr.cell? ⟨g,k,none⟩=some (.int .i64 u):=by
     have B:k=0∨k=1∨k=2:=by omega
     rcases B with rfl|rfl|rfl
     · exact ⟨x,x0⟩
     · exact ⟨y,x1⟩
     · exact ⟨z,A⟩
    have h2:(k:Int)<3:=by omega
    clear x0 x1 A
    by_cases h0:u=0
    · subst h0
      go_wp2_with fail
      go_roundw
      case rel=>first|exact ⟨k+1,by omega,rfl,rfl⟩|exact ⟨k+1,by omega,rfl,trivial⟩
      case measure=>simp [intOf];omega
    · go_wp2_with fail
      go_ret
      exact ⟨u,rfl,Below.refl _ _⟩
  · have h2:¬(k:Int)<3:=by omega
    go_wp2_with fail
    go_ret
    exact ⟨0,rfl,Below.refl _ _⟩
theorem zsw (g6 a b n:Nat) (A1:Option Addr) (c1:Nat) (due:List Pc) (hn:due.length=n) (V:World) (hg:V.cell? ⟨g6,0,none⟩=some (.slice A1 n c1)) (hR:RowsAt V V.heap.size 10 Pc.row A1 due) (ok:∀ p∈due,p.ok) (ha:a<n) (hb:b<n) (Jq:n≤1000):Calls Tryz.prog 112 #[.int .i64 a, .int .i64 b, .pointer (some ⟨g6,0,none⟩)] V (CmpI V):=by
 obtain ⟨p,hp⟩:∃ p,due[a]? = some p:=⟨_,List.getElem?_eq_getElem (by omega)⟩
 obtain ⟨q,hq⟩:∃ q,due[b]? = some q:=⟨_,List.getElem?_eq_getElem (by omega)⟩
 have jI:=ok p (List.mem_of_getElem? hp)
 have NA:=ok q (List.mem_of_getElem? hq)
 obtain ⟨I,H,rfl,Pp,hc⟩:=hR (by omega)
 have x0:V.cell? ⟨I,H+a*10+0,none⟩=some (.bool p.f.lost):=hc a p hp 0 _ rfl
 have x1:V.cell? ⟨I,H+a*10+1,none⟩=some (.int .i64 p.f.d):=hc a p hp 1 _ rfl
 have x2:V.cell? ⟨I,H+a*10+2,none⟩=some (.bool p.f.again):=hc a p hp 2 _ rfl
 have x3:V.cell? ⟨I,H+a*10+3,none⟩=some (.int .i64 p.f.ad):=hc a p hp 3 _ rfl
 have Z:V.cell? ⟨I,H+a*10+4,none⟩=some (.int .i64 p.no):=hc a p hp 4 _ rfl
 have x5:V.cell? ⟨I,H+a*10+5,none⟩=some (.string { data := #[97] }):=hc a p hp 5 _ rfl
 have x6:V.cell? ⟨I,H+a*10+6,none⟩=some (.string { data := #[98] }):=hc a p hp 6 _ rfl
 have x7:V.cell? ⟨I,H+a*10+7,none⟩=some (.int .i64 p.sent):=hc a p hp 7 _ rfl
 have T:V.cell? ⟨I,H+a*10+8,none⟩=some (.bool p.second):=hc a p hp 8 _ rfl
 have Q:V.cell? ⟨I,H+a*10+9,none⟩=some (.slice p.A p.zs.length p.c):=hc a p hp 9 _ rfl
 have j:V.cell? ⟨I,H+b*10+0,none⟩=some (.bool q.f.lost):=hc b q hq 0 _ rfl
 have y:V.cell? ⟨I,H+b*10+1,none⟩=some (.int .i64 q.f.d):=hc b q hq 1 _ rfl
 have x:V.cell? ⟨I,H+b*10+2,none⟩=some (.bool q.f.again):=hc b q hq 2 _ rfl
 have u:V.cell? ⟨I,H+b*10+3,none⟩=some (.int .i64 q.f.ad):=hc b q hq 3 _ rfl
 have R:V.cell? ⟨I,H+b*10+4,none⟩=some (.int .i64 q.no):=hc b q hq 4 _ rfl
 have t:V.cell? ⟨I,H+b*10+5,none⟩=some (.string { data := #[97] }):=hc b q hq 5 _ rfl
 have o:V.cell? ⟨I,H+b*10+6,none⟩=some (.string { data := #[98] }):=hc b q hq 6 _ rfl
 have m:V.cell? ⟨I,H+b*10+7,none⟩=some (.int .i64 q.sent):=hc b q hq 7 _ rfl
 have P:V.cell? ⟨I,H+b*10+8,none⟩=some (.bool q.second):=hc b q hq 8 _ rfl
 have l:V.cell? ⟨I,H+b*10+9,none⟩=some (.slice q.A q.zs.length q.c):=hc b q hq 9 _ rfl
 simp only [Nat.add_zero] at x0 j
 have a0:(0:Int)≤(a:Int):=by omega
 have a1:(a:Int)<(n:Int):=by omega
 have b0:(0:Int)≤(b:Int):=by omega
 have b1:(b:Int)<(n:Int):=by omega
 have k1:=Z9 fun (W:World)=>zde p jI W
 have k2:=Z9 fun (W:World)=>zde q NA W
 unfold Pc.row at k1 k2
 clear hc hR ok jI NA hp hq
 go_enter Tryz.func112,Tryz.ntmps112
 go_upto_region 1 with fail
 refine wp_region_held_drew (S:=fun w'=>Below V.heap.size V w') (by kernel_rfl) (Below.drew (Below.refl _ _)) (fun B => ?_)
 obtain ⟨X,L⟩:=nm9 V.drew
 rw [← L] at B ⊢
 clear L
 iterate 3
  refine tkM 12 (v:=?_) rfl rfl ?_ B ?_
  rotate_left
  · (intro w C;have Tc:=zae C hg;clear C;go_simp;try with_reducible rfl)
  try simp only [ss9]
 refine tk1 (i:=3) (v := .agg #[.bool p.f.lost, .int .i64 p.f.d, .bool p.f.again, .int .i64 p.f.ad, .int .i64 p.no, .string { data := #[97] }, .string { data := #[98] }, .int .i64 p.sent, .bool p.second, .slice p.A p.zs.length p.c]) rfl (Or.inl ⟨by rfl,?_⟩) B ?_
 · (intro w C;have c0:=zae C x0;have c1:=zae C x1;have c2:=zae C x2;have c3:=zae C x3;have c4:=zae C Z;have c5:=zae C x5;have c6:=zae C x6;have c7:=zae C x7;have c8:=zae C T;have c9:=zae C Q;clear C;go_simp;try with_reducible rfl)
 try simp only [ss9]
 first
  | (refine tkA 4 (v:=?_) rfl ?_ B ?_
     rotate_left
     · (intro w C;have c0:=zae C hg;clear C;go_simp;try with_reducible rfl)
     try simp only [ss9]
     iterate 2
      refine tkM 12 (v:=?_) rfl rfl ?_ B ?_
      rotate_left
      · (intro w C;clear C;go_simp;try with_reducible rfl)
      try simp only [ss9]
     refine tk1 (i:=7) (v := .agg #[.bool q.f.lost, .int .i64 q.f.d, .bool q.f.again, .int .i64 q.f.ad, .int .i64 q.no, .string { data := #[97] }, .string { data := #[98] }, .int .i64 q.sent, .bool q.second, .slice q.A q.zs.length q.c]) rfl (Or.inl ⟨by rfl,?_⟩) B ?_
     · (intro w C;have c0:=zae C j;have c1:=zae C y;have c2:=zae C x;have c3:=zae C u;have c4:=zae C R;have c5:=zae C t;have c6:=zae C o;have c7:=zae C m;have c8:=zae C P;have c9:=zae C l;clear C;go_simp;try with_reducible rfl)
     try simp only [ss9])
  | skip
 refine rd2 8 9 (by kernel_rfl) rfl rfl (fun K D=>?_) fun K D=>?_
 · go_simp
   have hP:V.heap.size≤X.heap.size:=B.size
   obtain ⟨gP,eP⟩:=nm9 X.heap.size
   have G:Hid (Blk (X.alloc (.cells #[.bool false, .int .i64 0, .bool false, .int .i64 0, .int .i64 0, .string { data := #[] }, .string { data := #[] }, .int .i64 0, .bool false, .slice none 0 0] 255)) X.heap.size 255 ([.bool false, .int .i64 0, .bool false, .int .i64 0, .int .i64 0, .string { data := #[] }, .string { data := #[] }, .int .i64 0, .bool false, .slice none 0 0]:List Value).toArray):=Z9 (Blk.new _ _ _)
   refine D.out _ _ ?_ (fun E => ?_)
   · exact zaj B _
   clear D K B
   have B:=E
   clear E
   try simp only [ss9]
   rw [← eP] at G hP ⊢
   obtain ⟨Y,g⟩:=nm9 (X.alloc (.cells #[.bool false, .int .i64 0, .bool false, .int .i64 0, .int .i64 0, .string { data := #[] }, .string { data := #[] }, .int .i64 0, .bool false, .slice none 0 0] 255))
   rw [← g] at G B ⊢
   clear g eP
   obtain ⟨X,L⟩:=nm9 Y
   subst L
   refine rd1 9 (by kernel_rfl) rfl fun K D=>?_
   go_simp
   have hQ:V.heap.size≤X.heap.size:=B.size
   obtain ⟨gQ,eQ⟩:=nm9 X.heap.size
   have F:Hid (Blk (X.alloc (.cells #[.bool false, .int .i64 0, .bool false, .int .i64 0, .int .i64 0, .string { data := #[] }, .string { data := #[] }, .int .i64 0, .bool false, .slice none 0 0] 255)) X.heap.size 255 ([.bool false, .int .i64 0, .bool false, .int .i64 0, .int .i64 0, .string { data := #[] }, .string { data := #[] }, .int .i64 0, .bool false, .slice none 0 0]:List Value).toArray):=Z9 (Blk.new _ _ _)
   have Ao:gP≠gQ:=by have:=G.out.lt;omega
   replace G:=Z9 (G.out.push (.cells #[.bool false, .int .i64 0, .bool false, .int .i64 0, .int .i64 0, .string { data := #[] }, .string { data := #[] }, .int .i64 0, .bool false, .slice none 0 0] 255))
   refine D.out _ _ ?_ (fun E => ?_)
   · exact zaj B _
   clear D K B
   have B:=E
   clear E
   try simp only [ss9]
   rw [← eQ] at F hQ ⊢
   obtain ⟨Y,g⟩:=nm9 (X.alloc (.cells #[.bool false, .int .i64 0, .bool false, .int .i64 0, .int .i64 0, .string { data := #[] }, .string { data := #[] }, .int .i64 0, .bool false, .slice none 0 0] 255))
   rw [← g] at F B G ⊢
   clear g eQ
   obtain ⟨X,L⟩:=nm9 Y
   subst L
   have Cc:gP≠gQ:=Ao
   refine rd1 10 (by kernel_rfl) rfl fun K D=>?_
   refine zam rfl 255 (.tmp 6) (.tmp 11) rfl gP 0 rfl 255 [.bool false, .int .i64 0, .bool false, .int .i64 0, .int .i64 0, .string { data := #[] }, .string { data := #[] }, .int .i64 0, .bool false, .slice none 0 0] G.out [.bool p.f.lost, .int .i64 p.f.d, .bool p.f.again, .int .i64 p.f.ad, .int .i64 p.no, .string { data := #[97] }, .string { data := #[98] }, .int .i64 p.sent, .bool p.second, .slice p.A p.zs.length p.c] rfl zci (Nat.le_refl 10) rfl [.bool p.f.lost, .int .i64 p.f.d, .bool p.f.again, .int .i64 p.f.ad, .int .i64 p.no, .string { data := #[97] }, .string { data := #[98] }, .int .i64 p.sent, .bool p.second, .slice p.A p.zs.length p.c] rfl ?_
   intro WP BP OP
   have N:=OP.bel (show Bel V X from B) hP
   replace F:=Z9 (OP.blk F.out Cc.symm)
   replace G:=Z9 BP
   refine D.out _ _ N (fun E => ?_)
   clear D K B N
   have B:=E
   clear E BP OP
   try simp only [ss9]
   obtain ⟨X,L⟩:=nm9 WP
   subst L
   refine rd1 11 (by kernel_rfl) rfl fun K D=>?_
   refine zam rfl 255 (.tmp 7) (.tmp 15) rfl gQ 0 rfl 255 [.bool false, .int .i64 0, .bool false, .int .i64 0, .int .i64 0, .string { data := #[] }, .string { data := #[] }, .int .i64 0, .bool false, .slice none 0 0] F.out [.bool q.f.lost, .int .i64 q.f.d, .bool q.f.again, .int .i64 q.f.ad, .int .i64 q.no, .string { data := #[97] }, .string { data := #[98] }, .int .i64 q.sent, .bool q.second, .slice q.A q.zs.length q.c] rfl zci (Nat.le_refl 10) rfl [.bool q.f.lost, .int .i64 q.f.d, .bool q.f.again, .int .i64 q.f.ad, .int .i64 q.no, .string { data := #[97] }, .string { data := #[98] }, .int .i64 q.sent, .bool q.second, .slice q.A q.zs.length q.c] rfl ?_
   intro WQ BQ OQ
   have N:=OQ.bel (show Bel V X from B) hQ
   replace G:=Z9 (OQ.blk G.out Cc)
   replace F:=Z9 BQ
   refine D.out _ _ N (fun E => ?_)
   clear D K B N
   have B:=E
   clear E BQ OQ
   try simp only [ss9]
   obtain ⟨X,L⟩:=nm9 WQ
   subst L
   refine wpAnyH_done (by kernel_rfl) ?_ _
   clear x0 j x1 y x2 x x3 u Z R x5 t x6 o x7 m T P Q l hg
   have x0:=G.out.at 0 (.bool p.f.lost) rfl
   have j:=F.out.at 0 (.bool q.f.lost) rfl
   have x1:=G.out.at 1 (.int .i64 p.f.d) rfl
   have y:=F.out.at 1 (.int .i64 q.f.d) rfl
   have x2:=G.out.at 2 (.bool p.f.again) rfl
   have x:=F.out.at 2 (.bool q.f.again) rfl
   have x3:=G.out.at 3 (.int .i64 p.f.ad) rfl
   have u:=F.out.at 3 (.int .i64 q.f.ad) rfl
   have Z:=G.out.at 4 (.int .i64 p.no) rfl
   have R:=F.out.at 4 (.int .i64 q.no) rfl
   have x5:=G.out.at 5 (.string { data := #[97] }) rfl
   have t:=F.out.at 5 (.string { data := #[97] }) rfl
   have x6:=G.out.at 6 (.string { data := #[98] }) rfl
   have o:=F.out.at 6 (.string { data := #[98] }) rfl
   have x7:=G.out.at 7 (.int .i64 p.sent) rfl
   have m:=F.out.at 7 (.int .i64 q.sent) rfl
   have T:=G.out.at 8 (.bool p.second) rfl
   have P:=F.out.at 8 (.bool q.second) rfl
   have Q:=G.out.at 9 (.slice p.A p.zs.length p.c) rfl
   have l:=F.out.at 9 (.slice q.A q.zs.length q.c) rfl
   have iA:=Z9 B
   clear B G F
   go_upto_region 2 with fail
   refine wp_region_held_drew (S:=fun w'=>Below X.heap.size X w') (by kernel_rfl) (Below.drew (Below.refl _ _)) (fun B => ?_)
   obtain ⟨U,O⟩:=nm9 X.drew
   rw [← O] at B ⊢
   clear O
   refine tk1 (i:=0) (v := .agg #[.bool p.f.lost, .int .i64 p.f.d, .bool p.f.again, .int .i64 p.f.ad, .int .i64 p.no, .string { data := #[97] }, .string { data := #[98] }, .int .i64 p.sent, .bool p.second, .slice p.A p.zs.length p.c]) rfl (Or.inl ⟨by rfl,?_⟩) B ?_
   · (intro w C;have c0:=zae C x0;have c1:=zae C x1;have c2:=zae C x2;have c3:=zae C x3;have c4:=zae C Z;have c5:=zae C x5;have c6:=zae C x6;have c7:=zae C x7;have c8:=zae C T;have c9:=zae C Q;clear C;go_simp;try with_reducible rfl)
   try simp only [ss9]
   refine tk1 (i:=2) (v := .agg #[.bool q.f.lost, .int .i64 q.f.d, .bool q.f.again, .int .i64 q.f.ad, .int .i64 q.no, .string { data := #[97] }, .string { data := #[98] }, .int .i64 q.sent, .bool q.second, .slice q.A q.zs.length q.c]) rfl (Or.inl ⟨by rfl,?_⟩) B ?_
   · (intro w C;have c0:=zae C j;have c1:=zae C y;have c2:=zae C x;have c3:=zae C u;have c4:=zae C R;have c5:=zae C t;have c6:=zae C o;have c7:=zae C m;have c8:=zae C P;have c9:=zae C l;clear C;go_simp;try with_reducible rfl)
   try simp only [ss9]
   refine tkB 5 rfl B ?_
   try simp only [ss9]
   refine tkA 6 (v:=?_) rfl ?_ B ?_
   rotate_left
   · (intro w C;have c0:=zae C Z;clear C;go_simp;try with_reducible rfl)
   try simp only [ss9]
   refine tkB 7 rfl B ?_
   try simp only [ss9]
   refine tkA 8 (v:=?_) rfl ?_ B ?_
   rotate_left
   · (intro w C;have c0:=zae C R;clear C;go_simp;try with_reducible rfl)
   try simp only [ss9]
   refine tkB 10 rfl B ?_
   try simp only [ss9]
   refine tkA 11 (v:=?_) rfl ?_ B ?_
   rotate_left
   · (intro w C;have c0:=zae C T;clear C;go_simp;try with_reducible rfl)
   try simp only [ss9]
   refine tkB 12 rfl B ?_
   try simp only [ss9]
   refine tkA 13 (v:=?_) rfl ?_ B ?_
   rotate_left
   · (intro w C;have c0:=zae C P;clear C;go_simp;try with_reducible rfl)
   try simp only [ss9]
   refine rd1 1 (by kernel_rfl) rfl fun K D=>?_
   go_simp
   refine (k1.out _).mono ?_
   rintro h J ⟨rfl,M⟩
   refine D.out _ _ ?_ (fun E => ?_)
   · exact zak M B
   clear D K B M
   have B:=E
   clear E
   try simp only [ss9]
   obtain ⟨U,O⟩:=nm9 J
   subst O
   refine rd1 3 (by kernel_rfl) rfl fun K D=>?_
   go_simp
   refine (k2.out _).mono ?_
   rintro h J ⟨rfl,M⟩
   refine D.out _ _ ?_ (fun E => ?_)
   · exact zak M B
   clear D K B M
   have B:=E
   clear E
   try simp only [ss9]
   obtain ⟨U,O⟩:=nm9 J
   subst O
   refine rd1 4 (by kernel_rfl) rfl fun K D=>?_
   go_simp
   refine (zcz _ _ _).mono ?_
   rintro h J ⟨rfl,rfl⟩
   refine D.out _ _ ?_ (fun E => ?_)
   · exact B
   clear D K B
   have B:=E
   clear E
   try simp only [ss9]
   refine rd1 9 (by kernel_rfl) rfl fun K D=>?_
   go_simp
   refine (zcz _ _ _).mono ?_
   rintro h J ⟨rfl,rfl⟩
   refine D.out _ _ ?_ (fun E => ?_)
   · exact B
   clear D K B
   have B:=E
   clear E
   try simp only [ss9]
   refine rd1 14 (by kernel_rfl) rfl fun K D=>?_
   go_simp
   refine (zih _ _ _).mono ?_
   rintro h J ⟨⟨z3,rfl⟩,rfl⟩
   refine D.out _ _ ?_ (fun E => ?_)
   · exact B
   clear D K B
   have B:=E
   clear E
   try simp only [ss9]
   generalize (if p.at_<q.at_ then (-1:Int) else if q.at_<p.at_ then 1 else 0)=z1
   generalize (if p.no<q.no then (-1:Int) else if q.no<p.no then 1 else 0)=z2
   refine rd1 15 (by kernel_rfl) rfl fun K D=>?_
   go_simp
   obtain ⟨gB,eB⟩:=nm9 J.heap.size
   have HB:Hid (Blk (J.alloc (.cells #[.int .i64 z1, .int .i64 z2, .int .i64 z3] 3)) J.heap.size 3 #[.int .i64 z1, .int .i64 z2, .int .i64 z3]):=Z9 (Blk.new _ _ _)
   refine D.out _ _ ?_ (fun E => ?_)
   · exact zaj B _
   clear D K B
   have B:=E
   clear E
   try simp only [ss9]
   rw [← eB] at HB ⊢
   clear eB
   refine rd1 16 (by kernel_rfl) rfl fun K D=>?_
   go_simp
   refine (zii gB z1 z2 z3 _ HB.out).mono ?_
   rintro h U3 ⟨z,rfl,M⟩
   refine D.out _ _ ?_ (fun E => ?_)
   · exact zak M B
   clear D K B M
   have B:=E
   clear E
   try simp only [ss9]
   refine tkB 17 rfl B ?_
   try simp only [ss9]
   refine wpAnyH_done (by kernel_rfl) ?_ _
   have N:=Z9 (iA.out.trans (B.mono iA.out.size))
   clear B iA HB x0 j x1 y x2 x x3 u Z R x5 t x6 o x7 m T P Q l
   go_wp2_with fail
   go_ret
   exact ⟨z,rfl,N.out⟩
 · go_simp
   have hQ:V.heap.size≤X.heap.size:=B.size
   obtain ⟨gQ,eQ⟩:=nm9 X.heap.size
   have F:Hid (Blk (X.alloc (.cells #[.bool false, .int .i64 0, .bool false, .int .i64 0, .int .i64 0, .string { data := #[] }, .string { data := #[] }, .int .i64 0, .bool false, .slice none 0 0] 255)) X.heap.size 255 ([.bool false, .int .i64 0, .bool false, .int .i64 0, .int .i64 0, .string { data := #[] }, .string { data := #[] }, .int .i64 0, .bool false, .slice none 0 0]:List Value).toArray):=Z9 (Blk.new _ _ _)
   refine D.out _ _ ?_ (fun E => ?_)
   · exact zaj B _
   clear D K B
   have B:=E
   clear E
   try simp only [ss9]
   rw [← eQ] at F hQ ⊢
   obtain ⟨Y,g⟩:=nm9 (X.alloc (.cells #[.bool false, .int .i64 0, .bool false, .int .i64 0, .int .i64 0, .string { data := #[] }, .string { data := #[] }, .int .i64 0, .bool false, .slice none 0 0] 255))
   rw [← g] at F B ⊢
   clear g eQ
   obtain ⟨X,L⟩:=nm9 Y
   subst L
   refine rd1 8 (by kernel_rfl) rfl fun K D=>?_
   go_simp
   have hP:V.heap.size≤X.heap.size:=B.size
   obtain ⟨gP,eP⟩:=nm9 X.heap.size
   have G:Hid (Blk (X.alloc (.cells #[.bool false, .int .i64 0, .bool false, .int .i64 0, .int .i64 0, .string { data := #[] }, .string { data := #[] }, .int .i64 0, .bool false, .slice none 0 0] 255)) X.heap.size 255 ([.bool false, .int .i64 0, .bool false, .int .i64 0, .int .i64 0, .string { data := #[] }, .string { data := #[] }, .int .i64 0, .bool false, .slice none 0 0]:List Value).toArray):=Z9 (Blk.new _ _ _)
   have Ao:gQ≠gP:=by have:=F.out.lt;omega
   replace F:=Z9 (F.out.push (.cells #[.bool false, .int .i64 0, .bool false, .int .i64 0, .int .i64 0, .string { data := #[] }, .string { data := #[] }, .int .i64 0, .bool false, .slice none 0 0] 255))
   refine D.out _ _ ?_ (fun E => ?_)
   · exact zaj B _
   clear D K B
   have B:=E
   clear E
   try simp only [ss9]
   rw [← eP] at G hP ⊢
   obtain ⟨Y,g⟩:=nm9 (X.alloc (.cells #[.bool false, .int .i64 0, .bool false, .int .i64 0, .int .i64 0, .string { data := #[] }, .string { data := #[] }, .int .i64 0, .bool false, .slice none 0 0] 255))
   rw [← g] at G B F ⊢
   clear g eP
   obtain ⟨X,L⟩:=nm9 Y
   subst L
   have Cc:gP≠gQ:=Ao.symm
   refine rd1 10 (by kernel_rfl) rfl fun K D=>?_
   refine zam rfl 255 (.tmp 6) (.tmp 11) rfl gP 0 rfl 255 [.bool false, .int .i64 0, .bool false, .int .i64 0, .int .i64 0, .string { data := #[] }, .string { data := #[] }, .int .i64 0, .bool false, .slice none 0 0] G.out [.bool p.f.lost, .int .i64 p.f.d, .bool p.f.again, .int .i64 p.f.ad, .int .i64 p.no, .string { data := #[97] }, .string { data := #[98] }, .int .i64 p.sent, .bool p.second, .slice p.A p.zs.length p.c] rfl zci (Nat.le_refl 10) rfl [.bool p.f.lost, .int .i64 p.f.d, .bool p.f.again, .int .i64 p.f.ad, .int .i64 p.no, .string { data := #[97] }, .string { data := #[98] }, .int .i64 p.sent, .bool p.second, .slice p.A p.zs.length p.c] rfl ?_
   intro WP BP OP
   have N:=OP.bel (show Bel V X from B) hP
   replace F:=Z9 (OP.blk F.out Cc.symm)
   replace G:=Z9 BP
   refine D.out _ _ N (fun E => ?_)
   clear D K B N
   have B:=E
   clear E BP OP
   try simp only [ss9]
   obtain ⟨X,L⟩:=nm9 WP
   subst L
   refine rd1 11 (by kernel_rfl) rfl fun K D=>?_
   refine zam rfl 255 (.tmp 7) (.tmp 15) rfl gQ 0 rfl 255 [.bool false, .int .i64 0, .bool false, .int .i64 0, .int .i64 0, .string { data := #[] }, .string { data := #[] }, .int .i64 0, .bool false, .slice none 0 0] F.out [.bool q.f.lost, .int .i64 q.f.d, .bool q.f.again, .int .i64 q.f.ad, .int .i64 q.no, .string { data := #[97] }, .string { data := #[98] }, .int .i64 q.sent, .bool q.second, .slice q.A q.zs.length q.c] rfl zci (Nat.le_refl 10) rfl [.bool q.f.lost, .int .i64 q.f.d, .bool q.f.again, .int .i64 q.f.ad, .int .i64 q.no, .string { data := #[97] }, .string { data := #[98] }, .int .i64 q.sent, .bool q.second, .slice q.A q.zs.length q.c] rfl ?_
   intro WQ BQ OQ
   have N:=OQ.bel (show Bel V X from B) hQ
   replace G:=Z9 (OQ.blk G.out Cc)
   replace F:=Z9 BQ
   refine D.out _ _ N (fun E => ?_)
   clear D K B N
   have B:=E
   clear E BQ OQ
   try simp only [ss9]
   obtain ⟨X,L⟩:=nm9 WQ
   subst L
   refine wpAnyH_done (by kernel_rfl) ?_ _
   clear x0 j x1 y x2 x x3 u Z R x5 t x6 o x7 m T P Q l hg
   have x0:=G.out.at 0 (.bool p.f.lost) rfl
   have j:=F.out.at 0 (.bool q.f.lost) rfl
   have x1:=G.out.at 1 (.int .i64 p.f.d) rfl
   have y:=F.out.at 1 (.int .i64 q.f.d) rfl
   have x2:=G.out.at 2 (.bool p.f.again) rfl
   have x:=F.out.at 2 (.bool q.f.again) rfl
   have x3:=G.out.at 3 (.int .i64 p.f.ad) rfl
   have u:=F.out.at 3 (.int .i64 q.f.ad) rfl
   have Z:=G.out.at 4 (.int .i64 p.no) rfl
   have R:=F.out.at 4 (.int .i64 q.no) rfl
   have x5:=G.out.at 5 (.string { data := #[97] }) rfl
   have t:=F.out.at 5 (.string { data := #[97] }) rfl
   have x6:=G.out.at 6 (.string { data := #[98] }) rfl
   have o:=F.out.at 6 (.string { data := #[98] }) rfl
   have x7:=G.out.at 7 (.int .i64 p.sent) rfl
   have m:=F.out.at 7 (.int .i64 q.sent) rfl
   have T:=G.out.at 8 (.bool p.second) rfl
   have P:=F.out.at 8 (.bool q.second) rfl
   have Q:=G.out.at 9 (.slice p.A p.zs.length p.c) rfl
   have l:=F.out.at 9 (.slice q.A q.zs.length q.c) rfl
   have iA:=Z9 B
   clear B G F
   go_upto_region 2 with fail
   refine wp_region_held_drew (S:=fun w'=>Below X.heap.size X w') (by kernel_rfl) (Below.drew (Below.refl _ _)) (fun B => ?_)
   obtain ⟨U,O⟩:=nm9 X.drew
   rw [← O] at B ⊢
   clear O
   refine tk1 (i:=0) (v := .agg #[.bool p.f.lost, .int .i64 p.f.d, .bool p.f.again, .int .i64 p.f.ad, .int .i64 p.no, .string { data := #[97] }, .string { data := #[98] }, .int .i64 p.sent, .bool p.second, .slice p.A p.zs.length p.c]) rfl (Or.inl ⟨by rfl,?_⟩) B ?_
   · (intro w C;have c0:=zae C x0;have c1:=zae C x1;have c2:=zae C x2;have c3:=zae C x3;have c4:=zae C Z;have c5:=zae C x5;have c6:=zae C x6;have c7:=zae C x7;have c8:=zae C T;have c9:=zae C Q;clear C;go_simp;try with_reducible rfl)
   try simp only [ss9]
   refine tk1 (i:=2) (v := .agg #[.bool q.f.lost, .int .i64 q.f.d, .bool q.f.again, .int .i64 q.f.ad, .int .i64 q.no, .string { data := #[97] }, .string { data := #[98] }, .int .i64 q.sent, .bool q.second, .slice q.A q.zs.length q.c]) rfl (Or.inl ⟨by rfl,?_⟩) B ?_
   · (intro w C;have c0:=zae C j;have c1:=zae C y;have c2:=zae C x;have c3:=zae C u;have c4:=zae C R;have c5:=zae C t;have c6:=zae C o;have c7:=zae C m;have c8:=zae C P;have c9:=zae C l;clear C;go_simp;try with_reducible rfl)
   try simp only [ss9]
   refine tkB 5 rfl B ?_
   try simp only [ss9]
   refine tkA 6 (v:=?_) rfl ?_ B ?_
   rotate_left
   · (intro w C;have c0:=zae C Z;clear C;go_simp;try with_reducible rfl)
   try simp only [ss9]
   refine tkB 7 rfl B ?_
   try simp only [ss9]
   refine tkA 8 (v:=?_) rfl ?_ B ?_
   rotate_left
   · (intro w C;have c0:=zae C R;clear C;go_simp;try with_reducible rfl)
   try simp only [ss9]
   refine tkB 10 rfl B ?_
   try simp only [ss9]
   refine tkA 11 (v:=?_) rfl ?_ B ?_
   rotate_left
   · (intro w C;have c0:=zae C T;clear C;go_simp;try with_reducible rfl)
   try simp only [ss9]
   refine tkB 12 rfl B ?_
   try simp only [ss9]
   refine tkA 13 (v:=?_) rfl ?_ B ?_
   rotate_left
   · (intro w C;have c0:=zae C P;clear C;go_simp;try with_reducible rfl)
   try simp only [ss9]
   refine rd1 1 (by kernel_rfl) rfl fun K D=>?_
   go_simp
   refine (k1.out _).mono ?_
   rintro h J ⟨rfl,M⟩
   refine D.out _ _ ?_ (fun E => ?_)
   · exact zak M B
   clear D K B M
   have B:=E
   clear E
   try simp only [ss9]
   obtain ⟨U,O⟩:=nm9 J
   subst O
   refine rd1 3 (by kernel_rfl) rfl fun K D=>?_
   go_simp
   refine (k2.out _).mono ?_
   rintro h J ⟨rfl,M⟩
   refine D.out _ _ ?_ (fun E => ?_)
   · exact zak M B
   clear D K B M
   have B:=E
   clear E
   try simp only [ss9]
   obtain ⟨U,O⟩:=nm9 J
   subst O
   refine rd1 4 (by kernel_rfl) rfl fun K D=>?_
   go_simp
   refine (zcz _ _ _).mono ?_
   rintro h J ⟨rfl,rfl⟩
   refine D.out _ _ ?_ (fun E => ?_)
   · exact B
   clear D K B
   have B:=E
   clear E
   try simp only [ss9]
   refine rd1 9 (by kernel_rfl) rfl fun K D=>?_
   go_simp
   refine (zcz _ _ _).mono ?_
   rintro h J ⟨rfl,rfl⟩
   refine D.out _ _ ?_ (fun E => ?_)
   · exact B
   clear D K B
   have B:=E
   clear E
   try simp only [ss9]
   refine rd1 14 (by kernel_rfl) rfl fun K D=>?_
   go_simp
   refine (zih _ _ _).mono ?_
   rintro h J ⟨⟨z3,rfl⟩,rfl⟩
   refine D.out _ _ ?_ (fun E => ?_)
   · exact B
   clear D K B
   have B:=E
   clear E
   try simp only [ss9]
   generalize (if p.at_<q.at_ then (-1:Int) else if q.at_<p.at_ then 1 else 0)=z1
   generalize (if p.no<q.no then (-1:Int) else if q.no<p.no then 1 else 0)=z2
   refine rd1 15 (by kernel_rfl) rfl fun K D=>?_
   go_simp
   obtain ⟨gB,eB⟩:=nm9 J.heap.size
   have HB:Hid (Blk (J.alloc (.cells #[.int .i64 z1, .int .i64 z2, .int .i64 z3] 3)) J.heap.size 3 #[.int .i64 z1, .int .i64 z2, .int .i64 z3]):=Z9 (Blk.new _ _ _)
   refine D.out _ _ ?_ (fun E => ?_)
   · exact zaj B _
   clear D K B
   have B:=E
   clear E
   try simp only [ss9]
   rw [← eB] at HB ⊢
   clear eB
   refine rd1 16 (by kernel_rfl) rfl fun K D=>?_
   go_simp
   refine (zii gB z1 z2 z3 _ HB.out).mono ?_
   rintro h U3 ⟨z,rfl,M⟩
   refine D.out _ _ ?_ (fun E => ?_)
   · exact zak M B
   clear D K B M
   have B:=E
   clear E
   try simp only [ss9]
   refine tkB 17 rfl B ?_
   try simp only [ss9]
   refine wpAnyH_done (by kernel_rfl) ?_ _
   have N:=Z9 (iA.out.trans (B.mono iA.out.size))
   clear B iA HB x0 j x1 y x2 x x3 u Z R x5 t x6 o x7 m T P Q l
   go_wp2_with fail
   go_ret
   exact ⟨z,rfl,N.out⟩
end
section
open Go.RowKit
theorem zpm (due:List Pc) (B:Nat) (hl:due.length≤1000) (ok:∀ p∈due,p.ok):SortK due B:=by
 intro V A g6 A1 c1 f h1 h2 h3 h4 h5 h6
 refine zsv A due.length 112 #[.pointer (some ⟨g6,0,none⟩)] (fun W=>W.cell? ⟨g6,0,none⟩=some (.slice A1 due.length c1)∧RowsAv W [A] 10 Pc.row A1 due) (fun _ _=>by kernel_rfl) (fun W W' h hc=>⟨zbo hc (by simp;exact fun e=>h2 e.symm) h.1,h.2.chg hc (fun _ h=>h)⟩) (fun W a b h C hb => ?_) hl V ⟨f,h5,h6⟩ ⟨h3,h4⟩
 exact zsw g6 a b due.length A1 c1 due rfl W h.1 h.2.1 ok C hb hl
theorem zkz {α : Type} (p : α → Bool):∀ l:List α, (l.filter p).length+(l.filter fun a => !p a).length=l.length
 | []=>rfl
 | a :: l => by
   have h:=zkz p l
   cases hp:p a
   · rw [List.filter_cons,if_neg (by rw [hp];decide),List.filter_cons,if_pos (by rw [hp];rfl),List.length_cons,List.length_cons]
     omega
   · rw [List.filter_cons,if_pos hp,List.filter_cons,if_neg (by rw [hp];decide),List.length_cons,List.length_cons]
     omega
theorem PktG.ok {k:Sb.Pkt} (h:Sb.PktG i k):k.ok:=by
 have h1:=h.sq
 have h2:=h.i60
 have h3:=h.ti0
 have h4:=h.ti1
 have h5:0≤k.ty∧k.ty≤127:=by
  rcases h.ty with e|e
  · rcases zal.1 e with e|e|e<;>omega
  · omega
 exact ⟨h5.1,h5.2,by omega,by omega,by omega,by omega,h.src.1,h.src.2,h.bd,h.len⟩
section
variable {W0 W W' V:World} {S:List Nat} {base gW gc:Nat} {v v':VL} {k:Ca} {P:List Sb.Pkt}
theorem SyM.put (h:SyM W S base gW gc v k) (hc:Chg [gW] W W') (hb:Blk W' gW 86 (v'.row gc).toArray) (B:v'.sA=v.sA) (D:v'.sc=v.sc) (C:v'.ss=v.ss) (hd:RowsAv W' S 2 duRow v'.dA v'.ds) (hq:QAv W' S v'.u.A v'.u.l):SyM W' S base gW gc v' k:=by
 have hs:∀ x ∈ [gW],x∈S:=by intro x hx;simp at hx;rw [hx];exact h.gS
 have m:Mv [gW] S W S W':=Mv.of_chg hc hs
 have n1:∀ g,ownB v.sA=some g→g ∉ [gW]:=fun g hg hx=>by simp at hx;rw [hx] at hg;exact h.sW hg
 refine ⟨hb,h.ca.mv m (by simp;exact fun e=>h.ne e.symm) (fun g hg hx=>by simp at hx;rw [hx] at hg;exact h.pW hg),h.gS,h.ne,h.pW,?_,?_,?_,?_,?_,?_,hd,hq⟩
 · rw [B,D,C];exact hc.owns h.sent n1
 · rw [B];exact h.sW
 · rw [B];exact h.sC
 · rw [B];exact h.sP
 · rw [B];exact h.sS
 · rw [C];exact fun f hf=>m.ints (h.ints f hf)
theorem SyM.rcv {ps:List Pc} (h:SyM V S base gW gc v k) (hp:∀ p∈ps,p∈k.ps) (hb:Blk W' gc 253 (Ca.row { k with pA:=rA,pc:=rc,ps:=ps,now:=now }).toArray) (ho:Owns W' V.heap.size 255 10 rA ps.length rc (ps.flatMap Pc.row)) (E:base≤V.heap.size) (hc:Chg [gc] V W'):SyM W' ((ownB rA).toList++S) base gW gc v { k with pA:=rA,pc:=rc,ps:=ps,now:=now } := by
 have hl:=h.ca.lt
 have hs:∀ x ∈ [gc],x∈S:=by intro x hx;simp at hx;rw [hx];exact h.ca.gcS
 have hr:∀ g,ownB rA=some g→V.heap.size≤g∧g<W'.heap.size:=fun g hg=>ho.block g hg
 have B:∀ g∈S,ownB rA≠some g:=fun g hg e=>by have:=(hr g e).1;have:=hl g hg;omega
 have m:Mv [gc] S V ((ownB rA).toList++S) W':=by
  refine ⟨fun x hx=>List.mem_append_right _ hx,fun x hx => ?_,hc,hs,fun x hx => ?_⟩
  · rcases List.mem_append.1 hx with hx|hx
    · exact .inr (hr x (by simpa using hx)).1
    · exact .inl hx
  · rcases List.mem_append.1 hx with hx|hx
    · exact .inr (hr x (by simpa using hx)).2
    · exact .inl hx
 have D:gW ∉ [gc]:=by simp;exact h.ne
 have C:∀ g,ownB v.sA=some g→g ∉ [gc]:=fun g hg hx=>by simp at hx;rw [hx] at hg;exact h.sC hg
 refine ⟨hc.blk h.blk D,⟨hb,ho.base_mono E,B gc h.ca.gcS,List.mem_append_right _ h.ca.gcS,fun g hg=>List.mem_append_left _ (by rw [show ownB rA=some g from hg];simp),m.rows h.ca.fts,fun p A=>⟨m.ints (h.ca.pay p (hp p A)).1,(h.ca.pay p (hp p A)).2⟩,fun p A=>h.ca.ok p (hp p A),h.ca.fok,fun x hx=>(m.lt x hx).elim (fun h1=>Nat.lt_of_lt_of_le (hl x h1) hc.size) id⟩,List.mem_append_right _ h.gS,h.ne,B gW h.gS,hc.owns h.sent C,h.sW,h.sC,fun g hg=>B g (h.sS g hg),fun g hg=>List.mem_append_right _ (h.sS g hg),fun f hf=>m.ints (h.ints f hf),m.rows h.due,m.q h.q⟩
structure TkM (W0 W:World) (S:List Nat) (base gW gc:Nat) (v:VL) (k:Ca):Prop where
 m:SyM W S base gW gc v k
 bel:Bel W0 W
 lo:∀ x∈S,W0.heap.size≤x
 cap:v.ds.length≤v.dc
 base:base≤W.heap.size
theorem TkM.later (h:TkM W0 W S base gW gc v k) (hb:Below W.heap.size W W'):TkM W0 W' S base gW gc v k:=⟨h.m.later hb,Chg.bel (Chg.of_below (S:=[]) hb) h.bel (by simp),h.lo,h.cap,Nat.le_trans h.base hb.size⟩
theorem TkM.lnm (h:TkM W0 W S base gW gc v k):LnM W S gW v:=by
 have hl:=SyM.lvs h.m
 exact ⟨h.cap,h.m.gS,h.m.ca.lt,h.m.due,⟨hl.rows.1,fun h0 b off e hb=>hl.rows.2 h0 b off e (by simp at hb;rw [hb];simp)⟩,fun f hf=>(hl.ints f hf).sub (by simp)⟩
theorem TkM.put (h:TkM W0 W S base gW gc v k) (hc:Chg [gW] W W') (hb:Blk W' gW 86 (v'.row gc).toArray) (D:v'.sA=v.sA) (C:v'.sc=v.sc) (B:v'.ss=v.ss) (hd:RowsAv W' S 2 duRow v'.dA v'.ds) (hq:QAv W' S v'.u.A v'.u.l) (E:v'.ds.length≤v'.dc):TkM W0 W' S base gW gc v' k :=
 ⟨h.m.put hc hb D C B hd hq,Chg.bel hc h.bel (by intro x hx;simp at hx;rw [hx];exact h.lo gW h.m.gS),h.lo,E,Nat.le_trans h.base hc.size⟩
theorem TkM.time (h:TkM W0 W S base gW gc v k) (hc:Chg [gW] W W') (hb:Blk W' gW 86 (VL.row { v with now:=t } gc).toArray):TkM W0 W' S base gW gc { v with now:=t } k:=by
 have hs:∀ x ∈ [gW],x∈S:=by intro x hx;simp at hx;rw [hx];exact h.m.gS
 exact h.put hc hb rfl rfl rfl (h.m.due.chg hc hs) (h.m.q.chg hc hs) h.cap
end
def PcG (P:List Sb.Pkt) (ps:List Pc):Prop:=∀ p∈ps,∃ (i:Nat) (k:Sb.Pkt),P[i]? = some k∧p.zs=Pk.bytes k.pk
structure TkI (P:List Sb.Pkt) (v:VL) (k:Ca) (m:Nat):Prop where
 lng:LnG v P
 sent:Sb.Sent P
 p60:P.length≤60
 now:k.now≤v.now
 ks:k.sent=(P.length:Int)
 l0:0≤k.lost
 l1:k.lost≤(P.length:Int)
 fl:k.fs.length≤2000
 cnt:v.count+(m:Int)+(k.ps.length:Int)≤2*(P.length:Int)
 par:PcG P k.ps
structure Same (v v':VL):Prop where
 p:v'.p=v.p
 st:v'.st=v.st
 ow:v'.ow=v.ow
 ss:v'.ss=v.ss
 sA:v'.sA=v.sA
 sc:v'.sc=v.sc
 cd:v'.u.p.codec=v.u.p.codec
theorem Same.trans (h:Same v v1) (h2:Same v1 v2):Same v v2:=⟨h2.p.trans h.p,h2.st.trans h.st,h2.ow.trans h.ow,h2.ss.trans h.ss,h2.sA.trans h.sA,h2.sc.trans h.sc,h2.cd.trans h.cd⟩
def TkUI (W0:World) (base gW gc:Nat) (P:List Sb.Pkt) (v0:VL) (T:Int) (n:Nat) (v:VL) (k:Ca) (W:World):Prop :=
 (∃ S,TkM W0 W S base gW gc v k)∧TkI P v k 0∧Same v0 v∧v.now≤T
def TkUJ (W0:World) (base gW gc:Nat) (P:List Sb.Pkt) (v0:VL) (T:Int) (n:Nat) (v:VL) (k:Ca) (W:World) (A:Option Addr) (ds:List Dg) (j:Nat):Prop :=
 (∃ S,TkM W0 W S base gW gc v k)∧(RowsAv W [gW] 5 Dg.row A ds∧∀ d∈ds,IntsAv W [gW] .u8 d.A d.zs∧d.zs.length≤d.c∧∃ (i:Nat) (k:Sb.Pkt),P[i]? = some k∧d.zs=Pk.bytes k.pk)∧j≤ds.length∧TkI P v k (ds.length-j)∧Same v0 v∧v.now≤T
theorem zxs {S:List Nat} {k:Ca} (M:TkM W0 W S base gW gc v k) (I:TkI P v k (m+1)) (hk:P[i]? = some kk) (t1:v.now≤1000000) (Oj:(Pk.bytes kk.pk).length=dn) (Uj:dn≤dc) (Q:IntsAt W W.heap.size .u8 DA (Pk.bytes kk.pk)) :
 Calls Tryz.prog 78 #[.pointer (some ⟨gW,0,none⟩), .slice DA dn dc] W fun e w'=>e = .returned (.tuple #[])∧∃ v',TkM W0 w' S base gW gc v' k∧TkI P v' k m∧Same v v'∧v'.now=v.now∧Chg [gW] W w':=by
 have L:=I.lng
 have hg:=I.sent i kk hk
 have nH:=I.p60
 have Zw:=I.cnt
 have fB:=L.st.c0
 have Qj:=L.lis.now0
 obtain ⟨u',C,sds,f1,f2,f3,z,j,As,Ub,y,t,Um,x⟩:=L.arr I.sent hk (by omega) t1
 have Ai:=L.len
 have Qu:=hg.sq
 have jP:=(List.getElem?_eq_some_iff.1 hk).1
 have Cr:kk.ty≠101:=by
  rcases hg.ty with e|e
  · rcases zal.1 e with e|e|e<;>omega
  · omega
 have B:=PktG.ok hg
 have g:kk.sq<(v.ss.length:Int):=by rw [L.ssl];omega
 have AR:=L.lis.chk v.now (Int.le_refl _) (by omega)
 have U:=L.lis.wf.seed
 refine (zpk S gW gc v kk B u' C sds DA dn dc W M.m.blk Oj Uj Q M.lnm z (by omega) g Cr As (by omega) y (by omega) t Qj (by omega) fB (by omega) (fun V Y cm Z T X R E f => ?_)).mono ?_
 · have C7:Wts V V.heap.size v.u.A v.u.l:=(M.m.q.wts.keep (fun _ hp=>E.cell hp)).more E.size
   have hi:∀ a∈v.u.l,I64 a.w.m.sq:=fun a o=>by
    have h9:=L.lis.i64 I.sent a.w (by rw [← L.uq];exact List.mem_map_of_mem o)
    exact ⟨by omega,by omega⟩
   have ET:RC V v.u.p v.u.A v.u.l v.u.n v.u.c (kk.rx Y cm Z T X R) v.now:=⟨L.uq,L.un,by omega,L.uc,L.um,C7,hi,L.lis.okW I.sent,U.1,U.2,B.ty0,Int.le_trans B.ty1 (by decide),B.sq0,B.sq1,B.ti0,B.ti1,B.len,f,by omega,by omega⟩
   have h:=zed ET L.lis.wf rfl AR hg.ty f1 f2
   have e:Sb.recv0 v.u.p v.now (kk.rx Y cm Z T X R).arr=(u',C,sds):=f3
   rw [e] at h
   exact h
 · rintro e w' ⟨rfl,A',n',c',l',Se,Sc,dA,Oc,v',O,gE,D,q1,q2,d,b,hQ,F⟩
   have L':=x A' n' c' l' Se Sc dA Oc v' O q1 q2 d b
   have e0:v'.u=⟨u',A',n',c',l'⟩∧v'.now=v.now∧v'.ss=v.ss∧v'.sA=v.sA∧v'.sc=v.sc∧v'.p=v.p∧v'.st=v.st∧v'.ow=v.ow∧v'.count=v.count+1:=by
    rw [O]
    unfold VL.beg
    split<;>exact ⟨rfl,rfl,rfl,rfl,rfl,rfl,rfl,rfl,rfl⟩
   obtain ⟨N,K,J,H,G,e6,e7,e8,e9⟩:=e0
   refine ⟨rfl,v',M.put F gE H G J D.due (by rw [N];exact hQ) D.cap,⟨L',I.sent,I.p60,by rw [K];exact I.now,I.ks,I.l0,I.l1,I.fl,by rw [e9];push_cast at Zw ⊢; omega,I.par⟩,⟨e6,e7,e8,J,H,G,by rw [N];exact Um⟩,K,F⟩
theorem zxt (hT:T≤1000000) (Y:t≤T):UnK gW gc t (TkUI W0 base gW gc P v0 T) (TkUJ W0 base gW gc P v0 T) where
 ib:=fun n v k W h=>by
  obtain ⟨⟨S,M⟩,_⟩:=h
  exact M.m.blk
 il:=fun n v k W h W' hb=>by
  obtain ⟨⟨S,M⟩,h⟩:=h
  exact ⟨⟨S,M.later hb⟩,h⟩
 ib2:=fun n v k W h=>by
  obtain ⟨⟨S,M⟩,_⟩:=h
  exact M.m.ne
 nx:=fun n v k W h=>by
  obtain ⟨⟨S,M⟩,I,_⟩:=h
  have h1:=I.cnt
  have h2:=I.p60
  have h3:=I.lng.st.c0
  exact zdk gc k W M.m.ca.blk (Owns.rows (l:=_) (row:=Pc.row) M.m.ca.own rfl (fun a=>rfl)) M.m.ca.ok (by omega)
 rc:=fun n v k W h hn s hs W1 Pr g V Z=>by
  obtain ⟨⟨S,M⟩,I,C,G⟩:=h
  obtain ⟨p,hp,z,tQ⟩:=hs
  have h1:=I.cnt
  have h2:=I.p60
  have h3:=I.lng.st.c0
  have oN:=I.now
  have u:v.now≤s:=by omega
  have Dn:p.at_≤s:=by omega
  have o:s≤T:=by omega
  clear z
  have B:TkM W0 V S base gW gc { v with now:=s } k:=(M.time g Pr).later Z
  have ca:=B.m.ca
  have Qx:(dueP s k.ps).length≤k.ps.length:=by unfold dueP;exact List.length_filter_le _ _
  have y:p∈dueP s k.ps:=by unfold dueP;rw [List.mem_filter];exact ⟨hp,decide_eq_true Dn⟩
  have Ok:0<(dueP s k.ps).length:=List.length_pos_of_mem y
  have O:∀ q∈dueP s k.ps,q∈k.ps:=fun q hq=>by unfold dueP at hq;exact (List.mem_filter.1 hq).1
  have L:∀ q∈restP s k.ps,q∈k.ps:=fun q hq=>by unfold restP at hq;exact (List.mem_filter.1 hq).1
  have YI:(dueP s k.ps).length+(restP s k.ps).length=k.ps.length:=by
   unfold dueP restP
   exact zkz (fun p=>decide (p.at_≤s)) k.ps
  refine (zoc gc base k s V ca.blk ⟨Owns.rows (l:=_) (row:=Pc.row) ca.own rfl (fun a=>rfl),fun h0 b off e hb=>by
   simp at hb
   rw [hb] at e
   exact ca.ne (by rw [e];rfl)⟩ ca.ok (by omega) (fun q hq=>⟨(ca.pay q hq).1.sub (fun x hx=>by simp at hx;rw [hx];exact ca.gcS),(ca.pay q hq).2⟩) (by omega) (by omega) Ok (zpm _ _ (by omega) (fun q hq=>ca.ok q (O q hq)))).mono ?_
  rintro e w' ⟨A',c',ds,rA,rc,rfl,Iw,Id,Q,N,AJ,R,D⟩
  have H:∀ x ∈ [gW],x<V.heap.size:=by intro x hx;simp at hx;rw [hx];exact B.m.low
  refine ⟨A',c',ds, { k with pA:=rA,pc:=rc,ps:=restP s k.ps,now:=s }, rfl,by omega,by omega,D,fun w2 Fi E=>⟨⟨(ownB rA).toList++S,?_⟩,⟨?_,fun d hd=>⟨?_,?_,?_⟩⟩,Nat.zero_le _,?_,C.trans ⟨rfl,rfl,rfl,rfl,rfl,rfl,rfl⟩,o⟩⟩
  · have M2:=B.m.rcv L AJ R B.base D
    have Om:=Chg.bel D B.bel (by intro x hx;simp at hx;rw [hx];exact B.lo gc ca.gcS)
    have M3:TkM W0 w' ((ownB rA).toList++S) base gW gc { v with now:=s } _:=⟨M2,Om,fun x hx=>by
     rcases List.mem_append.1 hx with hx|hx
     · have:=(R.block x (by simpa using hx)).1
       have:=B.bel.size
       omega
     · exact B.lo x hx,B.cap,Nat.le_trans B.base D.size⟩
    exact M3.time (t:=s) E Fi
  · exact (RowsAv.of_new Q H).chg E (fun _ h=>h)
  · exact (IntsAv.of_new (N d hd).1 H).chg E (fun _ h=>h)
  · exact (N d hd).2
  · obtain ⟨q,hq,X⟩:=Id d hd
    obtain ⟨i,kk,f,c⟩:=I.par q (O q hq)
    exact ⟨i,kk,f,by rw [X,c]⟩
  · refine ⟨I.lng.at_ u,I.sent,I.p60,Int.le_refl _,I.ks,I.l0,I.l1,I.fl,?_,fun q hq=>I.par q (L q hq)⟩
    show v.count+((ds.length-0:Nat):Int)+((restP s k.ps).length:Int)≤_
    omega
 jb:=fun n v k W A ds j h=>by
  obtain ⟨⟨S,M⟩,_⟩:=h
  exact M.m.blk
 jr:=fun n v k W A ds j h=>h.2.1.1.1
 ar:=fun n v k W A ds j d h hd=>by
  obtain ⟨⟨S,M⟩,⟨hr,F⟩,hj,I,C,G⟩:=h
  have oP:=(List.getElem?_eq_some_iff.1 hd).1
  obtain ⟨z1,U,i,kk,hk,J⟩:=F d (List.mem_of_getElem? hd)
  obtain ⟨m,hm⟩:∃ m,ds.length-j=m+1:=⟨ds.length-j-1,by omega⟩
  rw [hm] at I
  refine (zxs M I hk (by omega) (by rw [J]) U (by rw [← J];exact z1.1)).mono ?_
  rintro e w' ⟨rfl,v',M',I',w,e',K⟩
  refine ⟨rfl,v',⟨S,M'⟩,⟨hr.chg K (fun _ h=>h),fun d hd=>⟨(F d hd).1.chg K (fun _ h=>h),(F d hd).2⟩⟩,by omega,?_,C.trans w,by omega⟩
  have:ds.length-(j+1)=m:=by omega
  rw [this]
  exact I'
 fi:=fun n v k W A ds h=>by
  obtain ⟨M,_,_,I,C,G⟩:=h
  rw [Nat.sub_self] at I
  exact ⟨M,I,C,G⟩
theorem zla {S:List Nat} {k:Ca} (M:TkM W0 W S base gW gc v k) (I:TkI P v k 0) (h1:v.now≤t) (h2:t≤1000000) :
 Calls Tryz.prog 35 #[.pointer (some ⟨gW,0,none⟩), .int .i64 t] W fun e w'=>e = .returned (.tuple #[])∧∃ (B:List Nat) (v':VL) (k':Ca),TkM W0 w' B base gW gc v' k'∧TkI P v' k' 0∧Same v v'∧v'.now=t:=by
 refine zig (zxt (P:=P) (v0:=v) h2 (Int.le_refl t)) v k W ⟨⟨S,M⟩,I,⟨rfl,rfl,rfl,rfl,rfl,rfl,rfl⟩,h1⟩ (fun n v' k' W1 D _ W' hB E => ?_)
 obtain ⟨⟨B,G⟩,A,F,C⟩:=D
 have e:max v'.now t=t:=by omega
 rw [e] at hB
 exact ⟨rfl,B,_,k',G.time E hB,⟨A.lng.at_ C,A.sent,A.p60,Int.le_trans A.now C,A.ks,A.l0,A.l1,A.fl,A.cnt,A.par⟩,F.trans ⟨rfl,rfl,rfl,rfl,rfl,rfl,rfl⟩,rfl⟩
theorem zmo (f:Ft) (no now:Int) (A:Option Addr) (c:Nat) (zs:List Int):(copies f no now A c zs).length≤2∧∀ p∈copies f no now A c zs,p.zs=zs:=by
 unfold copies
 split
 · exact ⟨by simp,fun p hp=>by cases hp⟩
 · split
   · refine ⟨by simp,fun p hp => ?_⟩
     simp at hp
     rcases hp with rfl|rfl<;>rfl
   · refine ⟨by simp,fun p hp => ?_⟩
     simp at hp
     rw [hp]
structure TkS (c:Int) (i:Nat) (v:VL) (P:List Sb.Pkt):Prop where
 spk:Sb.SpkI c v.p.p i P.length
 n:v.p.n=0
 cm:v.p.c≤maxLen
 ow:v.ow=v.st
 st:Dlt.valid v.st.1 v.st.2=true
theorem TkS.same (h:TkS c i v P) (s:Same v v'):TkS c i v' P:=⟨by rw [s.p];exact h.spk,by rw [s.p];exact h.n,by rw [s.p];exact h.cm,by rw [s.ow,s.st];exact h.ow,by rw [s.st];exact h.st⟩
theorem zwd (h:TkS c i v P) (hi:i<60) (A:speechB v.u.p.codec=true) {zs:List Int} (zl:zs.length=160) (zb:Within (-32768) 32767 zs) (hx:(Sb.send0 v.p.p zs).2=[x]) :
 Sb.PktG P.length (sayX v c x).1∧Dlt.valid (sayX v c x).2.2.1 (sayX v c x).2.2.2=true∧((speechB (sayX v c x).1.ty=true∧(sayX v c x).2.1=Sb.decS (sayX v c x).1.ty (sayX v c x).1.pl∧(sayX v c x).2.1.length=160)∨((sayX v c x).1.ty=13∧(sayX v c x).2.1=[])):=by
 obtain ⟨more,T,R,V,hk⟩:=h.spk.step zs hi zl zb
 have B:=h.spk.sent zs zb
 have D:=h.spk.src
 have U:=h.spk.le
 have G:=h.spk.sp
 rw [hx] at B
 obtain ⟨k1,O,J,I,H⟩:=hk x (by rw [hx];simp)
 have M:¬(13:Int)=c:=by rcases zal.1 G with e|e|e<;>omega
 have C:x.src=v.p.p.src:=by
  cases B with
  | noise _ h1 h2 z h3 h4=>exact h2
  | speech _ h1 h2 h3=>exact h2
 by_cases hc:x.ty=c
 · have E:(Sb.decS c x.pl).length=160:=by
    cases B with
    | noise _ h1 h2 z h3 h4=>exact absurd (h1.symm.trans hc) M
    | speech _ h1 h2 h3=>rw [h3];exact Sb.encS_len c _ zs G h.spk.cod zl
   have F:=Sb.enc_in v.u.p.codec v.st (Sb.decS c x.pl) h.st E
   have N:=Sb.encS_len v.u.p.codec v.st (Sb.decS c x.pl) A h.st E
   have e:sayX v c x=({ x with ty:=v.u.p.codec,pl:=(Sb.enc v.u.p.codec v.st (Sb.decS c x.pl)).1 }, Sb.decS v.u.p.codec (Sb.enc v.u.p.codec v.st (Sb.decS c x.pl)).1,(Sb.enc v.u.p.codec v.st (Sb.decS c x.pl)).2):=by unfold sayX;rw [if_pos hc]
   rw [e]
   refine ⟨⟨k1,by omega,by show 0≤x.ti;omega,by show x.ti≤9600;omega, .inl A,by show (Sb.enc _ _ _).1.length≤1500;omega,F.1,fun K => ?_,by show 0≤x.src∧x.src≤4294967295;rw [C];exact D⟩,F.2.2, .inl ⟨A,rfl,N⟩⟩
   have L:v.u.p.codec=13:=K
   rw [L] at A
   exact absurd A (by decide)
 · have e:sayX v c x=(x,[],v.st):=by unfold sayX;rw [if_neg hc]
   rw [e]
   have hn:x.ty=13∧x.pl.length=1:=by
    cases B with
    | noise _ h1 h2 z h3 h4=>exact ⟨h1,by rw [h3];rfl⟩
    | speech _ h1 h2 h3=>exact absurd h1 hc
   exact ⟨⟨k1,by omega,by show 0≤x.ti;omega,by show x.ti≤9600;omega,J,I,H,fun _=>hn.2,by show 0≤x.src∧x.src≤4294967295;rw [C];exact D⟩,h.st, .inr ⟨hn.1,rfl⟩⟩
theorem zhe {α : Type} {l:List α} {a x : α} (h:(l ++ [a])[i]? = some x):l[i]? = some x∨(i=l.length∧x=a):=by
 by_cases hi:i<l.length
 · rw [List.getElem?_append_left hi] at h
   exact .inl h
 · rw [List.getElem?_append_right (by omega)] at h
   have h0:i-l.length=0:=by
    have:=(List.getElem?_eq_some_iff.1 h).1
    simp at this
    omega
   rw [h0] at h
   simp at h
   exact .inr ⟨by omega,h.symm⟩
theorem zxu {S:List Nat} {k:Ca} {zs:List Int} (M:TkM W0 W S base gW gc v k) (I:TkI P v k 0) (h:TkS c i v P) (hi:i<60) (n2:v.now≤1000000) (O:IntsAt W W.heap.size .i16 ZA zs) (zl:zs.length=160) (zb:Within (-32768) 32767 zs) :
 Calls Tryz.prog 34 #[.pointer (some ⟨gW,0,none⟩), .slice ZA 160 zc] W fun e w'=>e = .returned (.tuple #[])∧∃ (C:List Nat) (v':VL) (k':Ca) (J:List Sb.Pkt),TkM W0 w' C base gW gc v' k'∧TkI J v' k' 0∧TkS c (i+1) v' J∧v'.now=v.now:=by
 obtain ⟨more,A,o,D,hk⟩:=h.spk.step zs hi zl zb
 have L:=I.lng
 have H:=L.lis.sp
 have T:=I.cnt
 have g:=I.p60
 have l:=L.st.c0
 have t:=h.spk.le
 have R:=I.ks
 have u:=I.l0
 have z:=I.l1
 refine zpv M.m h.spk hi h.n h.cm L.ssl.symm H h.ow h.st O zl zb M.base I.now L.lis.now0 n2 (by omega) (by omega) I.fl (by omega) (by omega) (fun h0 W' A1 c1 G F m => ?_) (fun x hx W' A1 c1 C k' A' c' sA sc Z fc G F V Y X y K m => ?_)
 · rw [h0] at A
   have A:more=0:=A.symm
   rw [A] at D
   refine ⟨S,_,k,P,⟨F,Chg.bel m.chg M.bel M.lo,M.lo,M.cap,Nat.le_trans M.base m.chg.size⟩,⟨⟨L.lis,L.uq,L.un,L.uc,L.um,L.ds,L.done,L.ssl,L.ssP,L.st⟩,I.sent,I.p60,I.now,I.ks,I.l0,I.l1,I.fl,I.cnt,I.par⟩,⟨D,rfl,G,h.ow,h.st⟩,rfl⟩
 · rw [hx] at A
   have A:more=1:=A.symm
   rw [A] at D
   obtain ⟨hg,hv,b⟩:=zwd h hi H zl zb hx
   obtain ⟨c2,c3⟩:=zmo (fateOf k) k.sent v.now A' c' (Pk.bytes (sayX v c x).1.pk)
   have N:∀ x∈C,W0.heap.size≤x:=fun x hx=>by
    rcases m.new x hx with E|E
    · exact M.lo x E
    · exact Nat.le_trans M.bel.size E
   have B:(P ++ [(sayX v c x).1]).length=P.length+1:=by simp
   refine ⟨C,_,k',P ++ [(sayX v c x).1],⟨F,Chg.bel m.chg M.bel M.lo,N,M.cap,Nat.le_trans M.base m.chg.size⟩,⟨⟨L.lis.more _,L.uq,L.un,L.uc,L.um,L.ds,L.done,?_,fun j kk f h1 h2 => ?_,L.st⟩,fun j kk h1 => ?_,by omega,by rw [Y];exact Int.le_refl _,by rw [V,R,B];push_cast;omega,by omega,by rw [B];push_cast;omega,by rw [X.1];exact I.fl,?_,fun p hp => ?_⟩,⟨by rw [B];exact D,rfl,G,rfl,hv⟩,rfl⟩
   · show (v.ss ++ [_]).length=_
     rw [List.length_append,L.ssl,B];rfl
   · have h2:(v.ss ++ [(⟨Z,fc,(sayX v c x).2.1⟩:TF)])[j]? = some f:=h2
     have d:=(List.getElem?_eq_some_iff.1 h1).1
     rcases zhe h1 with h1|⟨h1,rfl⟩
     · have U:=(List.getElem?_eq_some_iff.1 h1).1
       rw [List.getElem?_append_left (by rw [L.ssl];exact U)] at h2
       exact L.ssP j kk f h1 h2
     · rcases zhe h2 with h2|⟨h2,rfl⟩
       · have:=(List.getElem?_eq_some_iff.1 h2).1
         rw [L.ssl] at this
         omega
       · exact b
   · rcases zhe h1 with h1|⟨rfl,rfl⟩
     · exact I.sent j kk h1
     · exact hg
   · rw [K,List.length_append,B]
     show v.count+((0:Nat):Int)+_≤_
     push_cast at T ⊢
     omega
   · rw [K] at hp
     rcases List.mem_append.1 hp with hp|hp
     · obtain ⟨j,kk,h1,h2⟩:=I.par p hp
       exact ⟨j,kk,by rw [List.getElem?_append_left (List.getElem?_eq_some_iff.1 h1).1];exact h1,h2⟩
     · exact ⟨P.length,(sayX v c x).1,by simp,c3 p hp⟩
end
section
attribute [local go_sem ↓] zab zac
attribute [local go_sem] zaa zad
open Go.RowKit
theorem zsx (k1 A bl bm:Int) (hc:Jb.cfg bl bm) (A2:Option Addr) (c2:Nat) (fs:List Ft) (hl:fs.length≤2000):TkI [] (vl0 (Sb.new (cod3 k1) 7 1 1).1 (Sb.new (cod3 A) 8 bl bm).1) ⟨A2,c2,fs,none,0,[],0,0,0⟩ 0∧TkS (cod3 k1) 0 (vl0 (Sb.new (cod3 k1) 7 1 1).1 (Sb.new (cod3 A) 8 bl bm).1) []:=by
 have h1:=(Sb.SpkI.startS (c:=cod3 k1) (l:=1) (m:=1) (s:=7) (zdw k1) (by decide) (by decide) (by decide)).1
 have h2:=(Sb.SpkI.startS (c:=cod3 A) (l:=bl) (m:=bm) (s:=8) (zdw A) hc (by decide) (by decide)).1
 have e:=Sb.new_src (c:=cod3 A) (l:=bl) (m:=bm) (s:=8) (zdw A) hc
 have C:(Jb.new bl bm).1.q=[]∧(Jb.new bl bm).1.now=0∧(Jb.new bl bm).1.done = -1:=by unfold Jb.new;rw [if_pos hc];exact ⟨rfl,rfl,rfl⟩
 have I:=Jb.small_new bl bm hc
 obtain ⟨q1,H⟩:=nm9 ((Sb.new (cod3 k1) 7 1 1).1)
 obtain ⟨q2,E⟩:=nm9 ((Sb.new (cod3 A) 8 bl bm).1)
 rw [← H] at h1 ⊢
 rw [← E] at h2 ⊢
 have D:q2 = { Sb.Pt.zero with codec:=cod3 A,src:=8,mrk:=true,jt:=(Jb.new bl bm).1,seed:=8 } := by rw [E,e]
 have B:q2.jt=(Jb.new bl bm).1:=by rw [D]
 have G:Sb.LisG q2 0 0 []:=⟨h2.wf,by rw [h2.codec];exact zdw A,h2.cod,h2.tn, .inl h2.tk,by rw [h2.ht];decide,by rw [B];exact I,(by rw [B,C.1];intro w hw;cases hw),by rw [B,C.2.1];exact Int.le_refl _,(by rw [B,C.1];intro a F;cases F)⟩
 refine ⟨⟨⟨G,?_,rfl,Nat.le_refl _,by show 0≤maxLen;decide,?_,?_,rfl,fun i k f h=>by simp at h,?_⟩,fun i k h=>by simp at h,by simp,Int.le_refl _,rfl,Int.le_refl _,by simp,hl,by simp;exact Int.le_refl _,fun p hp=>by cases hp⟩,⟨h1,rfl,by show 0≤maxLen;decide,rfl,by show Dlt.valid 0 0=true;decide⟩⟩
 · show []=q2.jt.q
   rw [B,C.1]
 · show []=q2.jt.q.map wtP
   rw [B,C.1];rfl
 · show -1=q2.jt.done
   rw [B,C.2.2]
 · have:q2.st=Rep.St.zero:=by rw [D];rfl
   show Sb.StG q2.st 0 0 0
   rw [this]
   exact ⟨Int.le_refl _,fun _=>rfl,fun h=>absurd h (by decide)⟩
structure TkE (W0 W:World) (gW gc:Nat) (v:VL):Prop where
 blk:Blk W gW 86 (v.row gc).toArray
 bel:Bel W0 W
 lo:W0.heap.size≤gW
 wf:v.u.p.wf
 valid:v.u.p.valid=true
 uq:v.u.l.map TW.w=v.u.p.jt.q
 un:v.u.l.length=v.u.n
 uc:v.u.n≤v.u.c
 um:v.u.c≤maxLen
 un2:v.u.n≤200
 q:QAv W [gW] v.u.A v.u.l
 i64:∀ a∈v.u.l,I64 a.w.m.sq
 pay:∀ a∈v.u.l,a.w.m.pl.length≤1000000
 st:Sb.StG v.u.p.st v.count v.least v.most
 c5:v.count≤450
theorem zwe {S:List Nat} {k:Ca} (M:TkM W0 W S base gW gc v k) (I:TkI P v k 0) (n1:v.now≤now) (n2:now≤100000000) :
 Calls Tryz.prog 36 #[.pointer (some ⟨gW,0,none⟩), .int .i64 now] W fun e w'=>e = .returned (.tuple #[])∧∃ v',TkE W0 w' gW gc v':=by
 have L:=I.lng.at_ n1
 have g:=I.cnt
 have f:=I.p60
 have K:=L.len
 have o:=I.lng.lis.now0
 obtain ⟨p1,H,F,A⟩:=L.play I.sent (by show v.count≤450;omega) (by show now≤_;omega)
 have hi:∀ a∈v.u.l,I64 a.w.m.sq:=fun a D=>by
  have B:=L.lis.i64 I.sent a.w (by rw [← L.uq];exact List.mem_map_of_mem D)
  exact ⟨by omega,by omega⟩
 have d:v.u.n≤200:=K.2
 have t:v.ds.length≤200:=K.1
 have Y:∀ x ∈ [gW],x∈S:=by intro x hx;simp at hx;rw [hx];exact M.m.gS
 have c:=M.m.low
 refine zgi gW gc v now W M.m.blk L.lis.wf L.uq L.un (by omega) L.uc L.um (M.m.q.sub Y) hi (L.lis.chk now (Int.le_refl _) (by omega)) (L.lis.okW I.sent) (R:=fun w' => ∃ v',TkE W0 w' gW gc v') (fun V A' n' c' l' U sc ls q1 q2 O N b G hB J => ?_)
 have hQ:=b [gW] (by intro x hx;simp at hx;rw [hx];exact c)
 have C:=M.lnm.chg J (fun _ h=>h)
 have E:LnM V S gW { v with now:=now,u:=⟨(Sb.run v.u.p now).1,A',n',c',l'⟩ } := ⟨C.cap,C.gS,C.lt,C.due,C.sent,C.ints⟩
 have i:ls.length≤200:=by
  have B:=congrArg List.length G
  rw [List.length_map] at B
  have H:(Sb.run v.u.p now).2.length≤200:=H
  omega
 have p1:HeedP { v with now:=now } (Sb.run v.u.p now).2:=p1
 refine (zif S gW gc ls.length { v with now:=now,u:=⟨(Sb.run v.u.p now).1,A',n',c',l'⟩ } U sc ls V hB E.cap E.gS E.due (E.hds hQ.2) rfl (by omega) (fun j x hx=>p1.ts G j x hx) (fun p hp=>p1.2 p (by rw [← G,List.length_map];exact hp))).mono ?_
 rintro e w' ⟨y,c9,rfl,X⟩
 have A:Sb.LisG (Sb.run v.u.p now).1 (v.count+1) now P:=A
 have Z:Chg [gW] W w':=J.trans X.ch
 refine ⟨rfl,_,X.blk,Chg.bel Z M.bel (by intro x hx;simp at hx;rw [hx];exact M.lo gW M.m.gS),M.lo gW M.m.gS,A.wf,A.valid,q1,q2,O,N,?_,hQ.1.chg X.ch (fun _ h=>h),fun a D => ?_,fun a D => ?_,?_,by show v.count≤450;omega⟩
 · have B:=A.sm.ok.2.2.2.2.1
   have T:=congrArg List.length q1
   rw [List.length_map] at T
   show n'≤200
   omega
 · have B:=A.i64 I.sent a.w (by rw [← q1];exact List.mem_map_of_mem D)
   exact ⟨by omega,by omega⟩
 · have B:=A.okW I.sent a.w (by rw [← q1];exact List.mem_map_of_mem D)
   have:=B.len
   omega
 · show Sb.StG (Sb.run v.u.p now).1.st v.count v.least v.most
   have F:(Sb.run v.u.p now).1.st=v.u.p.st:=F
   rw [F]
   exact L.st
def TalkR (bl bm:Int) (W:World) (e:Ending) (w':World):Prop:=∃ (gW gc:Nat) (v:VL),e = .returned (.tuple #[.pointer (some ⟨gW,0,none⟩), .bool (decide (Jb.cfg bl bm))])∧(Jb.cfg bl bm→TkE W w' gW gc v)∧(¬Jb.cfg bl bm→Blk w' gW 86 (v.row gc).toArray)∧Bel W w'∧W.heap.size≤gW
def TkJ (W0:World) (gW gc base:Nat) (c:Int) (FR:List (Nat×Value)) (m:Nat) (a:Act) (wr:World):Prop:=∃ (i:Nat) (S:List Nat) (v:VL) (k:Ca) (P:List Sb.Pkt),m+i=60∧TkM W0 wr S base gW gc v k∧TkI P v k 0∧TkS c i v P∧v.now≤20*(i:Int)∧Fr 68 ((8, .int .i64 (i:Int))::FR) a
theorem zsy (k1 B bl bm:Int) (A:Option Addr) (c:Nat) (fs:List Ft) (LA:Option Addr) (lc:Nat) (ls:List Int) (W:World) (T:RowsAt W W.heap.size 4 Ft.row A fs) (hl:fs.length≤maxLen) (a1:0≤k1∧k1≤255) (a2:0≤B∧B≤255) (hL:IntsAt W W.heap.size .u16 LA ls) (hz:Within 0 65535 ls) (eK:ls.length≤maxLen):Calls Tryz.prog 16 #[.agg #[.int .u8 k1, .int .u8 B, .int .i64 bl, .int .i64 bm, .slice A fs.length c], .slice LA ls.length lc] W (TalkR bl bm W):=by
 have D:=Blk.new W 77 #[.int .u8 k1, .int .u8 B, .int .i64 bl, .int .i64 bm, .slice A fs.length c]
 have b:Below W.heap.size W (W.alloc (.cells #[.int .u8 k1, .int .u8 B, .int .i64 bl, .int .i64 bm, .slice A fs.length c] 77)):=(Below.refl _ _).alloc (Nat.le_refl _) _
 have fM:=(T.keep (fun _ hp=>b.cell hp)).more b.size
 obtain ⟨W1,Ah⟩:=nm9 (W.alloc (.cells #[.int .u8 k1, .int .u8 B, .int .i64 bl, .int .i64 bm, .slice A fs.length c] 77))
 rw [← Ah] at D b fM
 obtain ⟨g2,Fa⟩:=nm9 W.heap.size
 rw [← Fa] at D
 have kB:=Z9 (zik k1 B bl bm A c fs W1 fM hl a1 a2)
 have x0:=D.at 0 (.int .u8 k1) rfl
 have x1:=D.at 1 (.int .u8 B) rfl
 have x2:=D.at 2 (.int .i64 bl) rfl
 have x3:=D.at 3 (.int .i64 bm) rfl
 have x4:=D.at 4 (.slice A fs.length c) rfl
 have HL:=Z9 hL
 have HZ:=Z9 hz
 have HW:=Z9 Ah
 have HG:=Z9 Fa
 have Oq:=Z9 b
 clear T fM hL hz D b Ah Fa
 go_enter Tryz.func16,Tryz.ntmps16
 go_upto_region 1 with fail
 rw [← HW.out,← HG.out]
 go_wp2_with fail
 refine kB.out.mono ?_
 rintro e w2 ⟨gW,gc,A2,c2,rfl,b1,b2,h1,h2,hO,n1,n2,Om⟩
 have w:Below W.heap.size W w2:=Oq.out.trans (Om.mono Oq.out.size)
 have ZU:=Oq.out.size
 have o:=b1.at 110 (.bool false) rfl
 by_cases G:Jb.cfg bl bm
 rotate_left
 · have T:TalkR bl bm W (.returned (.tuple #[.pointer (some ⟨gW,0,none⟩), .bool false])) w2:=⟨gW,gc,_,by rw [decide_eq_false G],fun h=>absurd h G,fun _=>b1,w,by omega⟩
   have HR:=Z9 T
   clear b1 b2 T w o x0 x1 x2 x3 x4 kB Om hO n1 n2
   rw [decide_eq_false G]
   go_wp2_with fail
   go_ret2
   exact HR.out
 have Oi:((fs.take 120).map Ft.cut).length≤2000:=by simp;omega
 have M:=zlc (W:=W1) (fs:=(fs.take 120).map Ft.cut) (fun f hf=>by
  obtain ⟨x,_,rfl⟩:=List.mem_map.1 hf
  exact x.cut_ok) b1 b2 h2 hO n1 n2
 obtain ⟨I,TS⟩:=zsx k1 B bl bm G A2 c2 _ Oi
 have M0:TkM W w2 [gW,gc] w2.heap.size gW gc _ _:=⟨M,w,by intro x hx;simp at hx;rcases hx with e|e<;>rw [e]<;>omega,Nat.le_refl _,Nat.le_refl _⟩
 have u:=Z9 (⟨M0,I,TS⟩:TkM W w2 [gW,gc] w2.heap.size gW gc _ _∧TkI [] _ _ 0∧TkS (cod3 k1) 0 _ [])
 have rR:=Z9 G
 rw [decide_eq_true G]
 have zO:W.heap.size≤gW:=by omega
 clear M M0 I TS Oi G b1 b2 hO n1 n2 Om x0 x1 x2 x3 x4 kB w
 go_upto_region 4 with fail
 go_wp2_with fail
 refine wp_loop_rounds 61 (zav (TkJ W gW gc w2.heap.size (cod3 k1) [(1, .slice LA ls.length lc),(6, .pointer (some ⟨gW,0,none⟩))]) (fun m a wr hJ => ?_) 60 _ _ ⟨0,_,_,_,_,rfl,u.out.1,u.out.2.1,u.out.2.2,Int.le_refl _,Fr.mk rfl ⟨rfl,rfl,rfl,trivial⟩⟩)
 clear u o
 obtain ⟨i,S,v,k,P,hm,M,I,TS,Bj,ha⟩:=hJ
 obtain ⟨s,rfl,Ak⟩:=ha
 simp only [rl9]
 obtain ⟨e8,e1,e6,_⟩:=Ak
 rw [e8,e1,e6]
 clear e8 e1 e6
 have o:=M.m.blk.at 110 (.bool false) rfl
 have Qj:=I.lng.lis.now0
 have HM:=Z9 M
 have HI:=Z9 I
 have SU:=Z9 TS
 clear M I TS
 by_cases hi:i<60
 rotate_left
 · have Xd:¬(i:Int)<60:=by omega
   have NT:decide ((i:Int)<60)=false:=decide_eq_false Xd
   have Pm:=HM.out.m.blk.at 97 (.int .i64 v.now) rfl
   have Sn:IntKind.i64.wrap (v.now+4000)=v.now+4000:=by simp only [IntKind.wrap,IntKind.bits,IntKind.signed];simp;omega
   have O:=Z9 (zla HM.out HI.out (t:=v.now+4000) (by omega) (by omega))
   go_wp2_with fail
   refine O.out.mono ?_
   rintro e w3 ⟨rfl,S3,J,k3,H,n,p,X⟩
   have Ua:IntKind.i64.wrap (J.now+200000)=J.now+200000:=by rw [X];simp only [IntKind.wrap,IntKind.bits,IntKind.signed];simp;omega
   have sJ:=H.m.blk.at 97 (.int .i64 J.now) rfl
   have kP:=Z9 (zwe H n (now:=J.now+200000) (by omega) (by omega))
   clear H n p X Pm o Sn O
   go_wp2_with fail
   refine kP.out.mono ?_
   rintro e w4 ⟨rfl,v4,E4⟩
   have UO:=Z9 E4
   clear sJ Ua kP E4
   go_wp2_with fail
   go_ret2
   exact ⟨gW,gc,v4,by rw [decide_eq_true rR.out];rfl,fun _=>UO.out,fun h=>absurd rR.out h,UO.out.bel,zO⟩
 have Xd:(i:Int)<60:=by omega
 have NT:decide ((i:Int)<60)=true:=decide_eq_true Xd
 have Ct:(0:Int)≤(i:Int):=by omega
 have Sn:IntKind.i64.wrap (20*(i:Int))=20*(i:Int):=by simp only [IntKind.wrap,IntKind.bits,IntKind.signed];simp;omega
 have O:=Z9 (zla HM.out HI.out (t:=20*(i:Int)) Bj (by omega))
 go_upto_region 7 with fail
 go_wp2_with fail
 refine O.out.mono ?_
 rintro e w3 ⟨rfl,S3,J,k3,H,n,p,X⟩
 have Y:=Z9 H
 have lD:=Z9 n
 have FG:=Z9 (SU.out.same p)
 have Z:=Z9 X
 clear H n p X o Sn O Bj HM HI SU
 have y:=Z9 fun (ZA:Option Addr) (zs:List Int) (zc:Nat) (V:World) (hV:Below w3.heap.size w3 V) (hZ:IntsAt V V.heap.size .i16 ZA zs) (zl:zs.length=160) (zb:Within (-32768) 32767 zs)=>zxu (zc:=zc) (Y.out.later hV) lD.out FG.out hi (by rw [Z.out];omega) hZ zl zb
 by_cases jP:i<ls.length
 · have zG:(i:Int)<(ls.length:Int):=by omega
   have MK:ls.getD i 0∈ls:=by rw [List.getD_eq_getElem?_getD,List.getElem?_eq_getElem jP];exact List.getElem_mem jP
   have PV:IntsAt w3 w3.heap.size .u16 LA ls:=(HL.out.keep (fun _ hp=>Y.out.bel.cell hp)).more Y.out.bel.size
   obtain ⟨N7,WT,rfl,u7,Cd⟩:=PV (by omega)
   have x0:w3.cell? ⟨N7,WT+i,none⟩=some (.int .u16 (ls.getD i 0)):=Cd i jP
   have Q:=HZ.out _ MK
   obtain ⟨z,MM⟩:=nm9 (ls.getD i 0)
   rw [← MM] at x0 Q
   have N:=Z9 (zdx z i Q.1 Q.2 Ct (by omega) w3)
   clear PV Cd Q MK MM
   go_upto_region 11 with fail
   go_wp2_with fail
   refine N.out.mono ?_
   rintro e w4 ⟨zs,ZA,zl,zb,rfl,L,g⟩
   have R:=Z9 (y.out ZA zs 160 w4 g L.1 zl zb)
   clear N L zl zb g x0
   go_wp2_with fail
   refine R.out.mono ?_
   rintro e w5 ⟨rfl,d,v5,E,F,j,l,K,U⟩
   have C:=Z9 (⟨j,l,K,U.trans Z.out⟩:TkM W w5 d w2.heap.size gW gc v5 E∧TkI F v5 E 0∧TkS (cod3 k1) (i+1) v5 F∧v5.now=20*(i:Int))
   clear j l K U R y Y lD FG Z
   go_wp2_with fail
   exact ⟨m-1,by omega,i+1,d,v5,E,F,by omega,C.out.1,C.out.2.1,C.out.2.2.1,by have:=C.out.2.2.2;push_cast;omega,Fr.mk rfl ⟨rfl,rfl,rfl,trivial⟩⟩
 · have zG:¬(i:Int)<(ls.length:Int):=by omega
   have N:=Z9 (zdx 5000 i (by decide) (by decide) Ct (by omega) w3)
   go_upto_region 11 with fail
   go_wp2_with fail
   refine N.out.mono ?_
   rintro e w4 ⟨zs,ZA,zl,zb,rfl,L,g⟩
   have R:=Z9 (y.out ZA zs 160 w4 g L.1 zl zb)
   clear N L zl zb g
   go_wp2_with fail
   refine R.out.mono ?_
   rintro e w5 ⟨rfl,d,v5,E,F,j,l,K,U⟩
   have C:=Z9 (⟨j,l,K,U.trans Z.out⟩:TkM W w5 d w2.heap.size gW gc v5 E∧TkI F v5 E 0∧TkS (cod3 k1) (i+1) v5 F∧v5.now=20*(i:Int))
   clear j l K U R y Y lD FG Z
   go_wp2_with fail
   exact ⟨m-1,by omega,i+1,d,v5,E,F,by omega,C.out.1,C.out.2.1,C.out.2.2.1,by have:=C.out.2.2.2;push_cast;omega,Fr.mk rfl ⟨rfl,rfl,rfl,trivial⟩⟩
end
section
attribute [local go_sem] zaa zad
open Go.RowKit
theorem zmp (a b:List Int):u8s (a++b)=u8s a++u8s b:=List.map_append
def RpPutR (base:Nat) (w:World) (A:Option Addr) (out:List Int) (e:Ending) (w':World):Prop :=
 ∃ (A':Option Addr) (c':Nat),e = .returned (.slice A' out.length c')∧Owns w' base 5 1 A' out.length c' (u8s out)∧Grow w A w' A'
theorem zcj9' (f:Int→List Int) (xs:List Int) (k:Nat) (h:k<xs.length):(xs.take (k+1)).flatMap f=(xs.take k).flatMap f++f (xs.getD k 0):=by
 rw [List.take_succ_eq_append_getElem h,List.flatMap_append,List.getD_eq_getElem?_getD,List.getElem?_eq_getElem h]
 simp
theorem zmq {c:Nat} {b:Int} {e:TypeId} (h:Owns w base e 1 A (a.length+1) c (u8s a ++ [.int .u8 b])):Owns w base e 1 A (a ++ [b]).length c (u8s (a ++ [b])):=by
 rw [List.length_append,zmp]
 exact h
section
variable (w:World) (base:Nat) (A:Option Addr) (c:Nat) (bs:List Int) (n:Nat) (N:Option Addr) (cN:Nat) (xs:List Int)
theorem zmr (ho:Owns w base 5 1 A bs.length c (u8s bs)) (R:base≤w.heap.size) (hn:n≤8) (I:IntsAt w w.heap.size .u64 N xs) (hd:∀ b off,N=some ⟨b,off,none⟩→some b≠ownB A) (hx:Within 0 18446744073709551615 xs) (hl:xs.length≤4) (hb:bs.length≤100000) (H:Nat) (u:H=xs.length) :
 Calls Tryz.prog 40 #[.slice A bs.length c, .int .i64 n, .slice N H cN] w (RpPutR base w A (bs++xs.flatMap (be n))):=by
 subst u
 have C:=Z9 ho
 have l:=Z9 I
 have o:=Z9 hd
 have i:=Z9 hx
 have j:=Z9 R
 clear ho I hd hx R
 go_enter Tryz.func40,Tryz.ntmps40
 go_wp2_with fail
 go_loopg [0,12] xs.length (fun gk s0 g wr => ∃ (k:Nat) (A':Option Addr) (c':Nat) (out:List Int),gk+k=xs.length∧g = .int .i64 k∧s0 = .slice A' out.length c'∧Hid (out=bs++(xs.take k).flatMap (be n))∧Hid (out.length≤bs.length+8*k)∧Hid (Owns wr base 5 1 A' out.length c' (u8s out))∧Hid (Grow w A wr A'))
 case atStart=>exact ⟨0,A,c,bs,rfl,rfl,rfl,Z9 (by simp),Z9 (by omega),C,Z9 (Grow.refl w A)⟩
 case round =>
  clear C
  obtain ⟨k,A',c',out,hg,rfl,rfl,M,L,C,D⟩:=hrel
  by_cases hlt:k<xs.length
  · obtain ⟨b,off,rfl,Bb,qc⟩:=l.out (by omega)
    have hc:wr.cell? ⟨b,off+k,none⟩=some (.int .u64 (xs.getD k 0)):=D.out.cell (qc k hlt) (o.out b off rfl)
    obtain ⟨x0,x1⟩:=i.out.at hlt
    have P:=zcj9' (be n) xs k hlt
    generalize xs.getD k 0=x at *
    have h:=Z9 P
    have Z:=Z9 x1
    clear qc P x1
    have Ct:(0:Int)≤(k:Int):=by omega
    have v:(k:Int)<(xs.length:Int):=by omega
    have Qj:(n:Int)≤8:=by omega
    go_wp2_with fail
    obtain ⟨V,rfl⟩:=nm9 gk
    go_loopg [0,9] n (fun gk s0 T wr => ∃ (r:Nat) (A':Option Addr) (c':Nat) (B F:List Int),r=gk∧r≤n∧T = .int .i64 ((r:Int)-1)∧s0 = .slice A' B.length c'∧Hid (B=out++F)∧Hid (be n x=F++be r x)∧Hid (Owns wr base 5 1 A' B.length c' (u8s B))∧Hid (Grow w A wr A'))
    case atStart=>exact ⟨n,A',c',out,[],rfl,Nat.le_refl _,rfl,rfl,Z9 (by simp),Z9 rfl,C,D⟩
    case round =>
     clear C D hc
     obtain ⟨r,A',c',B,F,hr,W,rfl,rfl,E,G,C,D⟩:=hrel
     have y:B.length≤out.length+8:=by
      have h1:=E.out
      have h2:=congrArg List.length G.out
      rw [List.length_append,zap,zap] at h2
      rw [h1,List.length_append];omega
     have z:B.length≤200000:=by have:=L.out;omega
     clear y
     have X:=Nat.le_trans j.out D.out.size
     by_cases Y:r=0
     · subst Y
       have Qi:((0:Nat):Int)-1<0:=by omega
       go_wp2_with fail
       go_roundg (V-1)
       case measure=>omega
       case rel =>
        refine ⟨k+1,A',c',B,by omega,by go_num,rfl,Z9 ?_,Z9 ?_,C,D⟩
        · rw [E.out,M.out,h.out,G.out];simp [be]
        · have h1:=E.out
          have h2:=congrArg List.length G.out
          rw [List.length_append,zap,zap] at h2
          have:=L.out
          rw [h1,List.length_append];omega
     · obtain ⟨q,rfl⟩:∃ q,r=q+1:=⟨r-1,by omega⟩
       have O:((q+1:Nat):Int)-1=(q:Int):=by omega
       rw [O]
       have hf:=zgq q x x0
       have J:=zhr q
       have m:=Z9 hf
       have t:=Z9 J
       have Q:(q:Int)<8:=by omega
       have a:(0:Int)≤(q:Int):=by omega
       have U:=Z.out
       clear O hf J
       go_wp2_with (at_builtin;go_loud (refine zan rfl _ _ 69 rfl base 5 1 1 (.int .u8 0) Tryz.underlying69 zog rfl (by decide) A' B.length c' (u8s B) rfl C.out [.int .u8 _] rfl (by simp [Value.oneCell']) rfl (by unfold maxLen;omega) (by omega) X ?_);intro A2 c2 w2 d p f)
       go_roundg (gk-1)
       case measure=>omega
       case rel =>
        refine ⟨q,A2,c2,B ++ [x / 256 ^ q % 256],F ++ [x / 256 ^ q % 256],by omega,by omega,rfl,by rw [List.length_append];rfl,Z9 ?_,Z9 ?_,Z9 (zmq ?_),Z9 (D.out.step p f)⟩
        · rw [E.out,List.append_assoc]
        · rw [G.out,m.out];simp
        · rw [← t.out]
          exact d
  · obtain rfl:k=xs.length:=by omega
    have v:(xs.length:Int)≤(xs.length:Int):=Int.le_refl _
    have he:=M.out
    rw [List.take_length] at he
    have K:=Z9 he
    clear he
    go_wp2_with fail
    go_ret
    exact ⟨A',c',by rw [K.out];rfl,by rw [← K.out];exact C.out,D.out⟩
end
end
section
open Go.RowKit
theorem zpn (n:Nat) (hn:n≤8) (x:Int):be n (x % 18446744073709551616)=be n x:=by
 have h:x % 18446744073709551616=x+256 ^ n*(256 ^ (8-n) * -(x / 18446744073709551616)):=by
  rw [← Int.mul_assoc,← Int.pow_add,show n+(8-n)=8 by omega]
  have:(256:Int) ^ 8=18446744073709551616:=by decide
  rw [this];omega
 rw [h,zty]
namespace Rep
structure Rpt where
 sender:Bool
 source:Int
 clock:Int
 time:Int
 packets:Int
 octets:Int
 blocks:List Bk
def Bk.cells (b:Bk):List Value:=[.int .u32 b.source, .int .u8 b.frac, .int .i64 b.lost, .int .u32 b.high, .int .u32 b.jit, .int .u32 b.last, .int .u32 b.delay]
def Bk.bytes (b:Bk):List Int:=be 4 b.source++be 1 b.frac++be 3 b.lost++(be 4 b.high++be 4 b.jit++be 4 b.last++be 4 b.delay)
def Bk.fit (b:Bk):Prop := -8388608≤b.lost∧b.lost≤8388607
instance (b:Bk):Decidable b.fit:=by unfold Bk.fit;exact inferInstance
def sizeR (sender:Bool) (n:Nat):Int:=8+(n:Int)*24+if sender then 20 else 0
def Rpt.front (r:Rpt):List Int:=[128+(r.blocks.length:Int),if r.sender then 200 else 201]++be 2 (sizeR r.sender r.blocks.length / 4-1)++be 4 r.source++(if r.sender then be 8 r.clock++(be 4 r.time++be 4 r.packets++be 4 r.octets) else [])
def Rpt.bytes (r:Rpt):List Int:=r.front++r.blocks.flatMap Bk.bytes
def Rpt.plain (r:Rpt):Prop:=r.clock=0∧r.time=0∧r.packets=0∧r.octets=0
instance (r:Rpt):Decidable r.plain:=by unfold Rpt.plain;exact inferInstance
def enc (r:Rpt):List Int×Int:=if 31<r.blocks.length then ([],4) else if ¬(∀ b∈r.blocks,b.fit) then ([],3) else if r.sender=false∧¬r.plain then ([],2) else (r.bytes,0)
def Bk.ok (b:Bk):Prop:=(0≤b.source∧b.source≤4294967295)∧(0≤b.frac∧b.frac≤255)∧(-9223372036854775808≤b.lost∧b.lost≤9223372036854775807)∧(0≤b.high∧b.high≤4294967295)∧(0≤b.jit∧b.jit≤4294967295)∧(0≤b.last∧b.last≤4294967295)∧0≤b.delay∧b.delay≤4294967295
def Rpt.ok (r:Rpt):Prop:=(0≤r.source∧r.source≤4294967295)∧(0≤r.clock∧r.clock≤18446744073709551615)∧(0≤r.time∧r.time≤4294967295)∧(0≤r.packets∧r.packets≤4294967295)∧(0≤r.octets∧r.octets≤4294967295)∧∀ b∈r.blocks,b.ok
end Rep
def PutL (w W:World) (out:List Int) (e:Ending) (w':World):Prop :=
 ∃ (A':Option Addr) (c':Nat),e = .returned (.slice A' out.length c')∧Owns w' w.heap.size 5 1 A' out.length c' (u8s out)∧Bel w w'∧(∀ (g:Nat) (t:TypeId) (cs:Array Value),t≠5→Blk W g t cs→Blk w' g t cs)
theorem zdt (w W:World) (A:Option Addr) (c:Nat) (bs:List Int) (n:Nat) (B:Nat) (xs:List Int) (cs:List Value) (J:cs=xs.map (Value.int .u64)) (U:Bel w W) (F:Owns W w.heap.size 5 1 A bs.length c (u8s bs)) (hn:n≤8) (hx:Within 0 18446744073709551615 xs) (hl:xs.length≤4) (hb:bs.length≤100000) (I:B=xs.length) (E:Nat) (H:E=W.heap.size) :
 Calls Tryz.prog 40 #[.slice A bs.length c, .int .i64 n, .slice (some ⟨E,0,none⟩) B B] (W.alloc (.cells cs.toArray 94)) (PutL w W (bs++xs.flatMap (be n))):=by
 subst H
 have C:=Owns.alloc F (.cells cs.toArray 94)
 refine (zmr _ w.heap.size A c bs n _ B xs C (Nat.le_trans U.size (by simp)) hn (IntsAt.new W 94 .u64 xs cs J) ?_ hx hl hb B I).mono ?_
 · intro b off e he
   injection e with e
   injection e with G K
   subst G
   have:=(F.block _ he.symm).2
   omega
 · rintro e w' ⟨A',c',rfl,ho,D⟩
   refine ⟨A',c',rfl,ho,D.bel C (U.push _) (Nat.le_refl _),fun g t cs ht hB => ?_⟩
   exact D.blk (hB.push _) (zgs C (hB.push _) ht)
theorem zlb (s:Bool) (n:Nat) (w:World) (hn:n≤1000):Calls Tryz.prog 41 #[.bool s, .int .i64 n] w fun e w'=>e = .returned (.int .i64 (Rep.sizeR s n))∧w=w':=by
 unfold Rep.sizeR
 have h1:(n:Int)≤1000:=by omega
 cases s
 all_goals
  go_enter Tryz.func41,Tryz.ntmps41
  go_wp2
  go_ret
  exact ⟨ztu (by simp),rfl⟩
def RpEncR (R:List Int×Int) (w:World) (e:Ending) (w':World):Prop :=
 ∃ (A:Option Addr) (c:Nat),e = .returned (.tuple #[.slice A R.1.length c, .int .u8 R.2])∧IntsNew w.heap.size w' .u8 A R.1∧Below w.heap.size w w'
theorem zxv {l:List Rep.Bk} (h:RowsAt w B 7 Rep.Bk.cells A l) {k:Nat} {a:Rep.Bk} (C:l[k]? = some a):∃ b off,A=some ⟨b,off,none⟩∧b<B ∧
 w.cell? ⟨b,off+k*7,none⟩=some (.int .u32 a.source)∧w.cell? ⟨b,off+k*7+1,none⟩=some (.int .u8 a.frac)∧w.cell? ⟨b,off+k*7+2,none⟩=some (.int .i64 a.lost)∧w.cell? ⟨b,off+k*7+3,none⟩=some (.int .u32 a.high)∧w.cell? ⟨b,off+k*7+4,none⟩=some (.int .u32 a.jit)∧w.cell? ⟨b,off+k*7+5,none⟩=some (.int .u32 a.last)∧w.cell? ⟨b,off+k*7+6,none⟩=some (.int .u32 a.delay):=by
 obtain ⟨b,off,rfl,hb,hc⟩:=h (by have:=(List.getElem?_eq_some_iff.1 C).1;omega)
 exact ⟨b,off,rfl,hb,hc k a C 0 _ rfl,hc k a C 1 _ rfl,hc k a C 2 _ rfl,hc k a C 3 _ rfl,hc k a C 4 _ rfl,hc k a C 5 _ rfl,hc k a C 6 _ rfl⟩
theorem zms {α : Type} (f : α → List Int) (l:List α) (k:Nat) (a : α) (h:l[k]? = some a):(l.take (k+1)).flatMap f=(l.take k).flatMap f++f a:=by
 have hk:=(List.getElem?_eq_some_iff.1 h).1
 rw [List.take_succ_eq_append_getElem hk,List.flatMap_append]
 have:l[k]=a:=(List.getElem?_eq_some_iff.1 h).2
 rw [this];simp
section
variable (so cl ti pa oc:Int) (Bl:Option Addr) (l:List Rep.Bk) (cb:Nat) (w:World)
theorem zpo (hl:l.length≤31) (hR:Rep.Rpt.ok ⟨false,so,cl,ti,pa,oc,l⟩) (hB:RowsAt w w.heap.size 7 Rep.Bk.cells Bl l):Calls Tryz.prog 18 #[.agg #[.bool false, .int .u32 so, .int .u64 cl, .int .u32 ti, .int .u32 pa, .int .u32 oc, .slice Bl l.length cb]] w (RpEncR (Rep.enc ⟨false,so,cl,ti,pa,oc,l⟩) w):=by
 obtain ⟨⟨so0,so1⟩,⟨RA,DY⟩,⟨ti0,ti1⟩,⟨WR,WO⟩,⟨WX,WW⟩,y⟩:=hR
 simp only at so0 so1 RA DY ti0 ti1 WR WO WX WW y
 have DM:¬31<(⟨false,so,cl,ti,pa,oc,l⟩:Rep.Rpt).blocks.length:=by simp only;omega
 have lB:Hid (∀ b∈l, ¬b.fit→Rep.enc ⟨false,so,cl,ti,pa,oc,l⟩=([],3)):=Z9 (fun b hb hf=>by unfold Rep.enc;rw [if_neg DM,if_pos (fun h=>hf (h b hb))])
 have Q9:Hid ((∀ b∈l,b.fit)→Rep.enc ⟨false,so,cl,ti,pa,oc,l⟩=if (false=false∧¬(⟨false,so,cl,ti,pa,oc,l⟩:Rep.Rpt).plain) then ([],2) else ((⟨false,so,cl,ti,pa,oc,l⟩:Rep.Rpt).bytes,0)):=Z9 (fun h=>by unfold Rep.enc;rw [if_neg DM,if_neg (fun hn=>hn h)])
 generalize Rep.enc ⟨false,so,cl,ti,pa,oc,l⟩=R at *
 have HBK:=Z9 y
 have HB:=Z9 hB
 have Y:=Z9 (And.intro RA DY)
 have NO:(l.length:Int)≤31:=by omega
 clear y hB DM DY
 go_enter Tryz.func18,Tryz.ntmps18
 go_wp2_with fail
 go_loopg [18] l.length (fun gk Jo wr => ∃ k:Nat,gk+k=l.length∧Jo = .int .i64 k∧Hid (∀ b∈l.take k,b.fit)∧Hid (Blk wr w.heap.size 96 #[.bool false, .int .u32 so, .int .u64 cl, .int .u32 ti, .int .u32 pa, .int .u32 oc, .slice Bl l.length cb])∧Hid (Bel w wr))
 case atStart=>exact ⟨0,rfl,rfl,Z9 (fun b hb=>by simp at hb),Z9 (Blk.new w _ _),Z9 ((Bel.refl w).push _)⟩
 case round =>
  obtain ⟨k,hg,rfl,HF,B,U⟩:=hrel
  by_cases hlt:k<l.length
  · obtain ⟨a,I⟩:∃ a,l[k]? = some a:=⟨_,List.getElem?_eq_getElem hlt⟩
    obtain ⟨bb,off,rfl,Bb,e0,e1,e2,e3,e4,e5,e6⟩:=zxv (HB.out.keep (fun p hp=>U.out.cell hp)) I
    have Ct:(0:Int)≤(k:Int):=by omega
    have Cn:(k:Int)<(l.length:Int):=by omega
    by_cases hf:a.fit
    · have pC:=hf
      obtain ⟨f0,f1⟩:=pC
      have Z2:=Z9 hf
      have HAA:=Z9 I
      clear hf I
      have t1:decide (a.lost < -8388608)=false:=by simp;omega
      have t2:decide (8388607<a.lost)=false:=by simp;omega
      go_wp2_with fail
      go_roundg (gk-1)
      case measure=>omega
      case rel =>
       refine ⟨k+1,by omega,by go_num,Z9 (fun b hb => ?_),Z9 (B.out.push _),Z9 (U.out.push _)⟩
       rw [List.take_succ_eq_append_getElem hlt] at hb
       rcases List.mem_append.1 hb with hb|hb
       · exact HF.out b hb
       · rw [List.mem_singleton.1 hb,(List.getElem?_eq_some_iff.1 HAA.out).2]
         exact Z2.out
    · have Up:=lB.out a (List.mem_of_getElem? I) hf
      subst Up
      by_cases u:a.lost < -8388608
      · have t1:decide (a.lost < -8388608)=true:=by simpa using u
        clear hf I u
        go_wp2_with fail
        go_ret2
        exact ⟨none,0,rfl,IntsNew.nil,U.out.push _⟩
      · have t1:decide (a.lost < -8388608)=false:=by simpa using u
        have t2:decide (8388607<a.lost)=true:=by
         have:¬(-8388608≤a.lost∧a.lost≤8388607):=hf
         simp;omega
        clear hf I u
        go_wp2_with fail
        go_ret2
        exact ⟨none,0,rfl,IntsNew.nil,U.out.push _⟩
  · obtain rfl:k=l.length:=by omega
    have Cn:(l.length:Int)≤(l.length:Int):=Int.le_refl _
    have t:=Q9.out (by have:=HF.out;rwa [List.take_length] at this)
    by_cases hp:(⟨false,so,cl,ti,pa,oc,l⟩:Rep.Rpt).plain
    rotate_left
    · rw [if_pos (And.intro (by first|trivial|rfl) hp)] at t
      subst t
      have i:¬(cl=0∧ti=0∧pa=0∧oc=0):=hp
      clear hp
      by_cases z0:cl=0
      rotate_left
      · have y0:(cl==0)=false:=by rw [beq_eq_false_iff_ne];exact z0
        clear z0 i
        have c0:=B.out.at 0 _ rfl
        have c1:=B.out.at 1 _ rfl
        have c2:=B.out.at 2 _ rfl
        have c3:=B.out.at 3 _ rfl
        have K:=B.out.at 4 _ rfl
        have c5:=B.out.at 5 _ rfl
        have J:=B.out.at 6 _ rfl
        have j:=B.out.lt
        go_wp2_with fail
        go_ret2
        exact ⟨none,0,rfl,IntsNew.nil,U.out.push _⟩
      subst z0
      by_cases z1:ti=0
      rotate_left
      · have y1:(ti==0)=false:=by rw [beq_eq_false_iff_ne];exact z1
        clear z1 i
        have c0:=B.out.at 0 _ rfl
        have c1:=B.out.at 1 _ rfl
        have c2:=B.out.at 2 _ rfl
        have c3:=B.out.at 3 _ rfl
        have K:=B.out.at 4 _ rfl
        have c5:=B.out.at 5 _ rfl
        have J:=B.out.at 6 _ rfl
        have j:=B.out.lt
        go_wp2_with fail
        go_ret2
        exact ⟨none,0,rfl,IntsNew.nil,U.out.push _⟩
      subst z1
      by_cases x:pa=0
      rotate_left
      · have y2:(pa==0)=false:=by rw [beq_eq_false_iff_ne];exact x
        clear x i
        have c0:=B.out.at 0 _ rfl
        have c1:=B.out.at 1 _ rfl
        have c2:=B.out.at 2 _ rfl
        have c3:=B.out.at 3 _ rfl
        have K:=B.out.at 4 _ rfl
        have c5:=B.out.at 5 _ rfl
        have J:=B.out.at 6 _ rfl
        have j:=B.out.lt
        go_wp2_with fail
        go_ret2
        exact ⟨none,0,rfl,IntsNew.nil,U.out.push _⟩
      subst x
      by_cases v:oc=0
      rotate_left
      · have y3:(oc==0)=false:=by rw [beq_eq_false_iff_ne];exact v
        clear v i
        have c0:=B.out.at 0 _ rfl
        have c1:=B.out.at 1 _ rfl
        have c2:=B.out.at 2 _ rfl
        have c3:=B.out.at 3 _ rfl
        have K:=B.out.at 4 _ rfl
        have c5:=B.out.at 5 _ rfl
        have J:=B.out.at 6 _ rfl
        have j:=B.out.lt
        go_wp2_with fail
        go_ret2
        exact ⟨none,0,rfl,IntsNew.nil,U.out.push _⟩
      subst v
      exact absurd ⟨rfl,rfl,rfl,rfl⟩ i
    rw [if_neg (fun h=>h.2 hp)] at t
    obtain ⟨h1,h2,h3,h4⟩:cl=0∧ti=0∧pa=0∧oc=0:=hp
    subst h1 h2 h3 h4 t
    have c0:=B.out.at 0 _ rfl
    have c1:=B.out.at 1 _ rfl
    have c2:=B.out.at 2 _ rfl
    have c3:=B.out.at 3 _ rfl
    have K:=B.out.at 4 _ rfl
    have c5:=B.out.at 5 _ rfl
    have J:=B.out.at 6 _ rfl
    have j:=B.out.lt
    have ks:=Z9 fun W=>zlb false l.length W (by omega)
    have Cj:Rep.sizeR false l.length=8+(l.length:Int)*24+0:=by simp [Rep.sizeR]
    rw [Cj] at ks
    clear Cj
    go_wp2_with fail
    refine (ks.out _).mono ?_
    rintro e w1 ⟨rfl,rfl⟩
    go_wp2_with fail
    have U1:Bel w ((wr.alloc (.cells #[.int .u64 0, .int .u32 0, .int .u32 0, .int .u32 0] 141)).alloc (.cells #[.int .u8 (128+(l.length:Int)), .int .u8 201] 5)):=(U.out.push _).push _
    have O1:Owns ((wr.alloc (.cells #[.int .u64 0, .int .u32 0, .int .u32 0, .int .u32 0] 141)).alloc (.cells #[.int .u8 (128+(l.length:Int)), .int .u8 201] 5)) w.heap.size 5 1 (some ⟨wr.heap.size+1,0,none⟩) 2 2 (u8s [128+(l.length:Int),201]):=by
     have h:=Owns.lit (wr.alloc (.cells #[.int .u64 0, .int .u32 0, .int .u32 0, .int .u32 0] 141)) w.heap.size 5 (u8s [128+(l.length:Int),201]) 2 (Nat.le_trans U.out.size (by simp)) (by unfold maxLen;omega) rfl
     rw [zaq] at h
     exact h
    have BA:=(B.out.push (.cells #[.int .u64 0, .int .u32 0, .int .u32 0, .int .u32 0] 141)).push (.cells #[.int .u8 (128+(l.length:Int)), .int .u8 201] 5)
    have BS:=(Blk.new wr 141 #[.int .u64 0, .int .u32 0, .int .u32 0, .int .u32 0]).push (.cells #[.int .u8 (128+(l.length:Int)), .int .u8 201] 5)
    obtain ⟨W0,X⟩:=nm9 (((wr.alloc (.cells #[.int .u64 0, .int .u32 0, .int .u32 0, .int .u32 0] 141)).alloc (.cells #[.int .u8 (128+(l.length:Int)), .int .u8 201] 5)))
    have Zu:wr.heap.size+1+1=W0.heap.size:=by rw [X,zbt]
    rw [← X] at U1 O1 BA BS ⊢
    have D:=Z9 O1
    have C:=Z9 U1
    have E:=Z9 BA
    have HS:=Z9 BS
    have Ai:[128+(l.length:Int),201].length≤60:=by simp
    clear X U1 O1 BA BS U B c0 c1 c2 c3 K c5 J
    refine (zdt w W0 _ _ [128+(l.length:Int),201] 2 1 [(8+(l.length:Int)*24) / 4-1] [.int .u64 ((8+(l.length:Int)*24) / 4-1)] rfl C.out D.out (by omega) (by intro z hz;simp at hz;have:=Y.out;omega) (by simp) (by omega) rfl _ Zu).mono ?_
    rintro e w1 ⟨A1,Uq,rfl,H,G,F⟩
    clear C D
    generalize Sv:([128+(l.length:Int),201]++List.flatMap (be 2) [(8+(l.length:Int)*24) / 4-1])=o1 at *
    have Sp:o1.length≤60+2:=by rw [← Sv,List.length_append];simp [zap]<;>omega
    have Xx:=Z9 Sv
    have D:=Z9 H
    have C:=Z9 G
    have Z:=Z9 (F _ _ _ (by decide) E.out)
    clear E
    have E:=Z
    clear Z
    have c:=Z9 (F _ _ _ (by decide) HS.out)
    clear HS
    have HS:=c
    clear c
    clear H G F Sv
    have c0:=E.out.at 0 _ rfl
    have c1:=E.out.at 1 _ rfl
    have c2:=E.out.at 2 _ rfl
    have c3:=E.out.at 3 _ rfl
    have K:=E.out.at 4 _ rfl
    have c5:=E.out.at 5 _ rfl
    have J:=E.out.at 6 _ rfl
    have d0:=HS.out.at 0 _ rfl
    have d1:=HS.out.at 1 _ rfl
    have d2:=HS.out.at 2 _ rfl
    have d3:=HS.out.at 3 _ rfl
    go_wp2_with fail
    clear c0 c1 c2 c3 K c5 J d0 d1 d2 d3
    refine (zdt w w1 _ _ o1 4 1 [so] [.int .u64 (so)] rfl C.out D.out (by omega) (by intro z hz;simp at hz;have:=Y.out;omega) (by simp) (by omega) rfl _ rfl).mono ?_
    rintro e w2 ⟨A2,Xs,rfl,H,G,F⟩
    clear C D
    generalize Ji:(o1++List.flatMap (be 4) [so])=o2 at *
    have oE:o2.length≤o1.length+4:=by rw [← Ji,List.length_append];simp [zap]<;>omega
    have Sg:=Z9 Ji
    have D:=Z9 H
    have C:=Z9 G
    have Z:=Z9 (F _ _ _ (by decide) E.out)
    clear E
    have E:=Z
    clear Z
    have c:=Z9 (F _ _ _ (by decide) HS.out)
    clear HS
    have HS:=c
    clear c
    clear H G F Ji
    have c0:=E.out.at 0 _ rfl
    have c1:=E.out.at 1 _ rfl
    have c2:=E.out.at 2 _ rfl
    have c3:=E.out.at 3 _ rfl
    have K:=E.out.at 4 _ rfl
    have c5:=E.out.at 5 _ rfl
    have J:=E.out.at 6 _ rfl
    have d0:=HS.out.at 0 _ rfl
    have d1:=HS.out.at 1 _ rfl
    have d2:=HS.out.at 2 _ rfl
    have d3:=HS.out.at 3 _ rfl
    go_wp2_with fail
    clear c0 c1 c2 c3 K c5 J d0 d1 d2 d3
    have NJ:o2.length≤200:=by omega
    have rN:Hid (o2=(⟨false,so,0,0,0,0,l⟩:Rep.Rpt).front):=Z9 (by
     unfold Rep.Rpt.front
     rw [← Sg.out,← Xx.out]
     simp [Rep.sizeR])
    clear Xx Sg
    go_loopg [8,97] l.length (fun gk s8 Je wq => ∃ (k:Nat) (A':Option Addr) (c':Nat) (out:List Int),gk+k=l.length∧Je = .int .i64 k∧s8 = .slice A' out.length c'∧Hid (out=o2++(l.take k).flatMap Rep.Bk.bytes)∧Hid (out.length≤200+24*k)∧Hid (Owns wq w.heap.size 5 1 A' out.length c' (u8s out))∧Hid (Bel w wq))
    case atStart=>exact ⟨0,A2,Xs,o2,rfl,rfl,rfl,Z9 (by simp),Z9 (by omega),D,C⟩
    case round =>
     clear D C E HS
     obtain ⟨k,A',c',out,hg,rfl,rfl,UM,TX,D,C⟩:=hrel
     by_cases hlt:k<l.length
     · obtain ⟨a,I⟩:∃ a,l[k]? = some a:=⟨_,List.getElem?_eq_getElem hlt⟩
       obtain ⟨⟨L2,qF⟩,⟨Sy,QT⟩,⟨K7,K6⟩,⟨J8,J7⟩,⟨J6,J5⟩,⟨J4,J3⟩,J2,J1⟩:=HBK.out a (List.mem_of_getElem? I)
       obtain ⟨bb,off,rfl,Bb,e0,e1,e2,e3,e4,e5,e6⟩:=zxv (HB.out.keep (fun p hp=>C.out.cell hp)) I
       have Ct:(0:Int)≤(k:Int):=by omega
       have Cn:(k:Int)<(l.length:Int):=by omega
       have Bf:=zms Rep.Bk.bytes l k a I
       have Hw:=Z9 Bf
       have aY:=TX.out
       have ZV:out.length≤1000:=by omega
       obtain ⟨a0,V,T,P,O,N,M⟩:=a
       simp only at L2 qF Sy QT K7 K6 J8 J7 J6 J5 J4 J3 J2 J1 e0 e1 e2 e3 e4 e5 e6
       clear I Bf aY
       go_wp2_with fail
       have A:=Z9 (Blk.new wr 88 #[.int .u32 a0, .int .u8 V, .int .i64 T, .int .u32 P, .int .u32 O, .int .u32 N, .int .u32 M])
       have Bq:=Z9 (Owns.alloc D.out (.cells #[.int .u32 a0, .int .u8 V, .int .i64 T, .int .u32 P, .int .u32 O, .int .u32 N, .int .u32 M] 88))
       have FF:=Z9 (Bel.push C.out (.cells #[.int .u32 a0, .int .u8 V, .int .i64 T, .int .u32 P, .int .u32 O, .int .u32 N, .int .u32 M] 88))
       obtain ⟨W0,X⟩:=nm9 (wr.alloc (.cells #[.int .u32 a0, .int .u8 V, .int .i64 T, .int .u32 P, .int .u32 O, .int .u32 N, .int .u32 M] 88))
       have Zu:wr.heap.size+1=W0.heap.size:=by rw [X,zaq]
       rw [← X] at A Bq FF ⊢
       clear D C X e0 e1 e2 e3 e4 e5 e6
       have D:=Bq
       have C:=FF
       clear Bq FF
       refine (zdt w W0 _ _ out 4 1 [a0] [.int .u64 (a0)] rfl C.out D.out (by omega) (by intro z hz;simp at hz;have:=Y.out;omega) (by simp) (by omega) rfl _ Zu).mono ?_
       rintro e lM ⟨A11,qM,rfl,H,G,F⟩
       clear C D
       generalize Q:(out++List.flatMap (be 4) [a0])=m at *
       have zA:m.length≤out.length+4:=by rw [← Q,List.length_append];simp [zap]<;>omega
       have GE:=Z9 Q
       have D:=Z9 H
       have C:=Z9 G
       have L:=Z9 (F _ _ _ (by decide) A.out)
       clear A
       have A:=L
       clear L
       clear H G F Q
       have f0:=A.out.at 0 _ rfl
       have f1:=A.out.at 1 _ rfl
       have f2:=A.out.at 2 _ rfl
       have g:=A.out.at 3 _ rfl
       have f4:=A.out.at 4 _ rfl
       have f:=A.out.at 5 _ rfl
       have d:=A.out.at 6 _ rfl
       go_wp2_with fail
       clear f0 f1 f2 g f4 f d
       refine (zdt w lM _ _ m 1 1 [V] [.int .u64 (V)] rfl C.out D.out (by omega) (by intro z hz;simp at hz;have:=Y.out;omega) (by simp) (by omega) rfl _ rfl).mono ?_
       rintro e lL ⟨A12,EG,rfl,H,G,F⟩
       clear C D
       generalize fR:(m++List.flatMap (be 1) [V])=n at *
       have yZ:n.length≤m.length+1:=by rw [← fR,List.length_append];simp [zap]<;>omega
       have GD:=Z9 fR
       have D:=Z9 H
       have C:=Z9 G
       have L:=Z9 (F _ _ _ (by decide) A.out)
       clear A
       have A:=L
       clear L
       clear H G F fR
       have f0:=A.out.at 0 _ rfl
       have f1:=A.out.at 1 _ rfl
       have f2:=A.out.at 2 _ rfl
       have g:=A.out.at 3 _ rfl
       have f4:=A.out.at 4 _ rfl
       have f:=A.out.at 5 _ rfl
       have d:=A.out.at 6 _ rfl
       go_wp2_with fail
       clear f0 f1 f2 g f4 f d
       refine (zdt w lL _ _ n 3 1 [T % 18446744073709551616] [.int .u64 (T % 18446744073709551616)] rfl C.out D.out (by omega) (by intro z hz;simp at hz;have:=Y.out;omega) (by simp) (by omega) rfl _ rfl).mono ?_
       rintro e wI ⟨A13,EF,rfl,H,G,F⟩
       clear C D
       generalize fQ:(n++List.flatMap (be 3) [T % 18446744073709551616])=o at *
       have yY:o.length≤n.length+3:=by rw [← fQ,List.length_append];simp [zap]<;>omega
       have GC:=Z9 fQ
       have D:=Z9 H
       have C:=Z9 G
       have L:=Z9 (F _ _ _ (by decide) A.out)
       clear A
       have A:=L
       clear L
       clear H G F fQ
       have f0:=A.out.at 0 _ rfl
       have f1:=A.out.at 1 _ rfl
       have f2:=A.out.at 2 _ rfl
       have g:=A.out.at 3 _ rfl
       have f4:=A.out.at 4 _ rfl
       have f:=A.out.at 5 _ rfl
       have d:=A.out.at 6 _ rfl
       go_wp2_with fail
       clear f0 f1 f2 g f4 f d
       refine (zdt w wI _ _ o 4 4 [P,O,N,M] [.int .u64 (P), .int .u64 (O), .int .u64 (N), .int .u64 (M)] rfl C.out D.out (by omega) (by intro z hz;simp at hz;have:=Y.out;omega) (by simp) (by omega) rfl _ rfl).mono ?_
       rintro e w14 ⟨A14,qL,rfl,H,G,F⟩
       clear C D
       generalize fP:(o++List.flatMap (be 4) [P,O,N,M])=LU at *
       have yX:LU.length≤o.length+16:=by rw [← fP,List.length_append];simp [zap]<;>omega
       have GB:=Z9 fP
       have D:=Z9 H
       have C:=Z9 G
       clear H G F fP
       go_wp2_with fail
       go_roundg (gk-1)
       case measure=>omega
       case rel =>
        refine ⟨k+1,A14,qL,LU,by omega,by go_num,rfl,Z9 ?_,Z9 ?_,D,C⟩
        · rw [← GB.out,← GC.out,← GD.out,← GE.out,UM.out,Hw.out]
          simp [Rep.Bk.bytes,zpn,List.append_assoc]
        · have:=TX.out
          omega
     · obtain rfl:k=l.length:=by omega
       have Cn:(l.length:Int)≤(l.length:Int):=Int.le_refl _
       have he:out=(⟨false,so,0,0,0,0,l⟩:Rep.Rpt).bytes:=by rw [UM.out,rN.out,List.take_length];rfl
       have HE:=Z9 he
       clear he
       go_wp2_with fail
       go_ret2
       refine ⟨A',c',by rw [← HE.out];rfl,?_,C.out⟩
       rw [← HE.out]
       exact IntsNew.of_own D.out (Nat.le_refl _)
end
namespace Rep
def Rpt.zero:Rpt:=⟨false,0,0,0,0,0,[]⟩
def blockAt (bs:List Int) (at_:Nat):Bk:=⟨fld bs at_ 4,fld bs (at_+4) 1,if 8388608≤fld bs (at_+5) 3 then fld bs (at_+5) 3-16777216 else fld bs (at_+5) 3,fld bs (at_+8) 4,fld bs (at_+12) 4,fld bs (at_+16) 4,fld bs (at_+20) 4⟩
def frontLen (sender:Bool):Nat:=if sender then 28 else 8
def Rpt.of (bs:List Int) (sender:Bool) (many:Nat):Rpt :=
 ⟨sender,fld bs 4 4,if sender then fld bs 8 8 else 0,if sender then fld bs 16 4 else 0,if sender then fld bs 20 4 else 0,if sender then fld bs 24 4 else 0,(List.range many).map fun i=>blockAt bs (frontLen sender+24*i)⟩
def dec (bs:List Int):Rpt×Int×Int :=
 if bs.length<4 then (Rpt.zero,bs.length,6) else
 if bs.getD 0 0 / 32≠4 then (Rpt.zero,0,15) else
 if bs.getD 1 0≠200∧bs.getD 1 0≠201 then (Rpt.zero,1,15) else
 if 256*bs.getD 2 0+bs.getD 3 0+1≠sizeR (bs.getD 1 0==200) (bs.getD 0 0 % 32).toNat / 4 then (Rpt.zero,2,5) else
 if (bs.length:Int)<sizeR (bs.getD 1 0==200) (bs.getD 0 0 % 32).toNat then (Rpt.zero,bs.length,6) else
 (Rpt.of bs (bs.getD 1 0==200) (bs.getD 0 0 % 32).toNat,sizeR (bs.getD 1 0==200) (bs.getD 0 0 % 32).toNat,0)
end Rep
end
section
attribute [local go_sem] zaa zad
open Go.RowKit
def RpNextR (ga:Nat) (t:TypeId) (p n:Nat) (bs:List Int) (w:World) (e:Ending) (w':World):Prop :=
 e = .returned (.int .u64 (fld bs p n))∧Only ga w w'∧Blk w' ga t #[.int .i64 ((p+n:Nat):Int)]
theorem zpp (x z:Int) (x0:0≤x) (x1:x≤72057594037927935) (z0:0≤z) (z1:z≤255):bits BinOp.or IntKind.u64 (x*256) z=256*x+z:=by
 obtain ⟨n0,rfl⟩:=Int.eq_ofNat_of_zero_le x0
 obtain ⟨n1,rfl⟩:=Int.eq_ofNat_of_zero_le z0
 have e:((n0:Int)*256)=((n0*256:Nat):Int):=by omega
 have h:n0*256 ||| n1=n0*256+n1:=by
  rw [show (256:Nat)=2 ^ 8 from rfl,← Nat.shiftLeft_eq,Nat.shiftLeft_add_eq_or_of_lt (by omega)]
 rw [e,bits_or_u64_nat (n0*256) n1 (by omega) (by omega),h]
 omega
section
variable (A:Option Addr) (c:Nat) (bs:List Int) (gb ga:Nat) (p n:Nat) (w:World) (B N:Nat)
theorem zfg (E:IntsAt w B .u8 A bs) (hb:Within 0 255 bs) (hB:B≤ga) (hg:Blk w gb 69 #[.slice A N c]) (hp:Blk w ga 3 #[.int .i64 p]) (O:gb≠ga) (hn:n≤8) (hl:p+n≤bs.length) (J:bs.length=N) (hm:bs.length≤maxLen) :
 Calls Tryz.prog 42 #[.int .i64 n, .pointer (some ⟨gb,0,none⟩), .pointer (some ⟨ga,0,none⟩)] w (RpNextR ga 3 p n bs w):=by
 subst J
 have M:=Z9 E
 have F:=Z9 hb
 have C:=Z9 hp
 have L:=Z9 hg
 unfold maxLen at hm
 clear E hb hp hg
 go_enter Tryz.func42,Tryz.ntmps42
 go_wp2
 go_loopg [5,7] n (fun gk I H wr => ∃ k:Nat,gk+k=n∧H = .int .i64 k∧I = .int .u64 (fld bs p k)∧Hid (Blk wr ga 3 #[.int .i64 ((p+k:Nat):Int)])∧Hid (Only ga w wr))
 case atStart=>exact ⟨0,rfl,rfl,rfl,C,Z9 (Only.refl _ _)⟩
 case round =>
  clear C
  obtain ⟨k,T,rfl,rfl,C,D⟩:=hrel
  by_cases hlt:k<n
  · obtain ⟨b,off,rfl,d,qc⟩:=M.out (by omega)
    have hc:=D.out.cell (qc (p+k) (by omega)) (by simp only;omega)
    have Z:=(D.out.blk L.out O).at 0 _ rfl
    have X:=C.out.at 0 _ rfl
    have hz:=C.out.frozen
    obtain ⟨z0,z1⟩:=F.out.at (i:=p+k) (by omega)
    obtain ⟨v0,v1⟩:=zof bs p k F.out (by omega) (by omega)
    have G:=zri bs p k (by omega)
    have HS:=Z9 G
    clear qc G
    have U:((p+k:Nat):Int)<(bs.length:Int):=by omega
    have R:(0:Int)≤((p+k:Nat):Int):=by omega
    generalize bs.getD (p+k) 0=z at *
    generalize fld bs p k=v at *
    generalize hq:p+k=q at *
    have P:=zpp v z v0 v1 z0 z1
    have Y:(0:Int)≤(k:Int):=by omega
    have K:(k:Int)<(n:Int):=by omega
    have V:(n:Int)≤8:=by omega
    go_wp2_with fail
    go_roundg (gk-1)
    case measure=>omega
    case rel =>
     refine ⟨k+1,by omega,by go_num,by rw [HS.out],?_,Z9 (D.out.set 0 _)⟩
     have:=C.out.set_ 0 (.int .i64 ((p+(k+1):Nat):Int))
     have e:((p+(k+1):Nat):Int)=(q:Int)+1:=by omega
     rw [e] at this ⊢
     exact Z9 this
  · obtain rfl:k=n:=by omega
    have K:(k:Int)≤(k:Int):=Int.le_refl _
    go_wp2_with fail
    go_ret
    exact ⟨rfl,D.out,C.out⟩
end
def Rep.Rpt.row (r:Rep.Rpt) (Bl:Option Addr) (cb:Nat):Array Value := #[.bool r.sender, .int .u32 r.source, .int .u64 r.clock, .int .u32 r.time, .int .u32 r.packets, .int .u32 r.octets, .slice Bl r.blocks.length cb]
def RpDecR (R:Rep.Rpt×Int×Int) (w:World) (e:Ending) (w':World):Prop :=
 ∃ (Bl:Option Addr) (cb:Nat),e = .returned (.tuple #[.agg (R.1.row Bl cb), .int .i64 R.2.1, .int .u8 R.2.2])∧RowsNew w.heap.size w' 7 Rep.Bk.cells Bl R.1.blocks∧Bel w w'
theorem zmt (a b:Nat) (A:a<9223372036854775808) (hb:b<9223372036854775808):bits .or .i64 (a:Int) (b:Int)=((a ||| b:Nat):Int):=by
 have hx:a ||| b<2 ^ 63:=Nat.or_lt_two_pow (by omega) (by omega)
 show IntKind.i64.wrap ((BitVec.ofInt 64 (a:Int) ||| BitVec.ofInt 64 (b:Int)).toNat:Int)=_
 rw [BitVec.toNat_or,BitVec.ofInt_natCast,BitVec.ofInt_natCast,BitVec.toNat_ofNat,BitVec.toNat_ofNat,Nat.mod_eq_of_lt (by omega),Nat.mod_eq_of_lt (by omega)]
 have e:((a ||| b:Nat):Int) % 2 ^ 64=((a ||| b:Nat):Int):=Int.emod_eq_of_lt (by omega) (by omega)
 simp only [IntKind.wrap,IntKind.bits,IntKind.signed,e]
 rw [if_neg (by simp;omega)]
theorem zwf (x z:Int) (x0:0≤x) (x1:x≤255) (z0:0≤z) (z1:z≤255):bits BinOp.or IntKind.i64 (x*256) z=256*x+z:=by
 obtain ⟨n0,rfl⟩:=Int.eq_ofNat_of_zero_le x0
 obtain ⟨n1,rfl⟩:=Int.eq_ofNat_of_zero_le z0
 have e:((n0:Int)*256)=((n0*256:Nat):Int):=by omega
 have h:n0*256 ||| n1=n0*256+n1:=by
  rw [show (256:Nat)=2 ^ 8 from rfl,← Nat.shiftLeft_eq,Nat.shiftLeft_add_eq_or_of_lt (by omega)]
 rw [e,zmt (n0*256) n1 (by omega) (by omega),h]
 omega
theorem zwg (x:Int) (x0:0≤x) (x1:x≤255):bits BinOp.and IntKind.u8 x 31=x % 32:=by
 obtain ⟨n,rfl⟩:=Int.eq_ofNat_of_zero_le x0
 have h:∀ i:Fin 256,bits BinOp.and IntKind.u8 (i.val:Int) 31=(i.val:Int) % 32:=by decide +kernel
 exact h ⟨n,by omega⟩
theorem zpq {a:Addr} {v:Value} (h:W.cell? a=some v):W.drew.cell? a=some v:=h
theorem zef {b:Nat} {v:Value} (h:W.cell? ⟨b,o,none⟩=some v) (A:¬b=g) (u:Value):(W.setCell ⟨g,i,none⟩ u).cell? ⟨b,o,none⟩=some v:=zfr h A u
theorem zfh {b:Nat} {v:Value} (h:Only g W w') (A:¬b=g) (hc:W.cell? ⟨b,o,none⟩=some v):w'.cell? ⟨b,o,none⟩=some v:=h.cell hc A
theorem zyu (h:Only g W w'):(∀ b o, ¬b=g→w'.cell? ⟨b,o,none⟩=W.cell? ⟨b,o,none⟩)∧(∀ b o, ¬b=g→w'.frozen? ⟨b,o,none⟩=W.frozen? ⟨b,o,none⟩)∧w'.heap.size=W.heap.size:=by
 refine ⟨fun b o A => ?_,fun b o A => ?_,h.2⟩
 · have hb:w'.heap[b]? = W.heap[b]? := by
    by_cases hlt:b<W.heap.size
    · exact h.1.block b hlt (fun e=>A (by injection e))
    · rw [Array.getElem?_eq_none (show W.heap.size≤b by omega),Array.getElem?_eq_none (show w'.heap.size≤b by have:=h.2;omega)]
   simp only [World.cell?,hb]
 · have hb:w'.heap[b]? = W.heap[b]? := by
    by_cases hlt:b<W.heap.size
    · exact h.1.block b hlt (fun e=>A (by injection e))
    · rw [Array.getElem?_eq_none (show W.heap.size≤b by omega),Array.getElem?_eq_none (show w'.heap.size≤b by have:=h.2;omega)]
   simp only [World.frozen?,hb]
structure DState (w wx:World) (ga:Nat) (A:Option Addr) (c:Nat) (bs:List Int) (p:Nat) (row:List Value):Prop where
 ints:IntsAt w w.heap.size .u8 A bs
 bytes:Within 0 255 bs
 len:bs.length≤maxLen
 hg:w.heap.size+2≤ga
 hr:Blk wx (ga+1) 96 row.toArray
 hp:Blk wx ga 3 #[.int .i64 (p:Int)]
 hx:Blk wx w.heap.size 69 #[.slice A bs.length c]
 hz:Blk wx (w.heap.size+1) 96 #[.bool false, .int .u32 0, .int .u64 0, .int .u32 0, .int .u32 0, .int .u32 0, .slice none 0 0]
 hu:Bel w wx
 hs:ga+2≤wx.heap.size
section
variable {w wx w':World} {ga c p:Nat} {A:Option Addr} {bs:List Int} {row:List Value}
theorem DState.only (h:DState w wx ga A c bs p row) (ho:Only ga wx w') {q:Nat} (hp:Blk w' ga 3 #[.int .i64 (q:Int)]):DState w w' ga A c bs q row :=
 ⟨h.ints,h.bytes,h.len,h.hg,ho.blk h.hr (by omega),hp,ho.blk h.hx (by have:=h.hg;omega),ho.blk h.hz (by have:=h.hg;omega),ho.below h.hu (by have:=h.hg;omega),by rw [ho.2];exact h.hs⟩
theorem DState.grown (h:DState w wx ga A c bs p row) {r:Option Nat} (hg:wx.grownBy w' r) (hr:∀ g,r=some g→ga+2≤g):DState w w' ga A c bs p row :=
 have B:∀ g,g<ga+2→some g≠r:=fun g hlt e=>by have:=hr g e.symm;omega
 ⟨h.ints,h.bytes,h.len,h.hg,h.hr.grown hg (B _ (by omega)),h.hp.grown hg (B _ (by omega)),h.hx.grown hg (B _ (by have:=h.hg;omega)),h.hz.grown hg (B _ (by have:=h.hg;omega)),Below.grown h.hu hg h.hu.size (fun g e=>by have:=hr g e;have:=h.hg;omega),Nat.le_trans h.hs hg.size⟩
theorem DState.push (h:DState w wx ga A c bs p row) (o:Obj):DState w (wx.alloc o) ga A c bs p row:=h.grown (r:=none) (World.grownBy_alloc wx o _) (fun g e=>by cases e)
theorem DState.drew (h:DState w wx ga A c bs p row):DState w wx.drew ga A c bs p row:=⟨h.ints,h.bytes,h.len,h.hg,h.hr,h.hp,h.hx,h.hz,Bel.drew h.hu,h.hs⟩
theorem DState.undrew (h:DState w wx.drew ga A c bs p row):DState w wx ga A c bs p row:=⟨h.ints,h.bytes,h.len,h.hg,h.hr,h.hp,h.hx,h.hz,⟨h.hu.os,h.hu.tape,h.hu.output,h.hu.size,h.hu.block⟩,h.hs⟩
theorem DState.far (h:DState w wx ga A c bs p row) (g i:Nat) (hg:ga+2≤g) (v:Value):DState w (wx.setCell ⟨g,i,none⟩ v) ga A c bs p row :=
 h.grown (r:=some g) ⟨rfl,rfl,rfl,by simp [World.setCell],fun k hk B=>Below.heap_setCell wx _ v k (fun e=>B (by rw [e]))⟩ (fun _ e=>by injection e with e;omega)
theorem DState.set (h:DState w wx ga A c bs p row) (i:Nat) (v:Value):DState w (wx.setCell ⟨ga+1,i,none⟩ v) ga A c bs p (row.set i v) :=
 ⟨h.ints,h.bytes,h.len,h.hg,by have:=h.hr.set_ i v;simpa using this,h.hp.far (by simp) v,h.hx.far (by have:=h.hg;simp;omega) v,h.hz.far (by have:=h.hg;simp;omega) v,zah h.hu (by have:=h.hg;simp;omega) v,by have:=h.hs;simpa [World.setCell] using this⟩
theorem DState.call (h:DState w wx ga A c bs p row) (n q:Nat) (hn:n≤8) (hl:p+n≤bs.length) (hq:p+n=q):Calls Tryz.prog 42 #[.int .i64 n, .pointer (some ⟨w.heap.size,0,none⟩), .pointer (some ⟨ga,0,none⟩)] wx fun e w'=>e = .returned (.int .u64 (fld bs p n))∧Only ga wx w'∧Hid (DState w w' ga A c bs q row):=by
 subst hq
 refine (zfg A c bs w.heap.size ga p n wx w.heap.size bs.length (h.ints.below h.hu) h.bytes (by have:=h.hg;omega) h.hx h.hp (by have:=h.hg;omega) hn hl rfl h.len).mono ?_
 rintro e w1 ⟨rfl,ho,hp⟩
 exact ⟨rfl,ho,Z9 (h.only ho hp)⟩
end
theorem zxw {c p q:Nat} {zs row:List Value} (D:DState w (W1.alloc (.cells zs.toArray 96)) ga A c bs p zs) (hs:W1.heap.size=ga+1) (ho:Only ga W1 w') (hp:Blk w' ga 3 #[.int .i64 (q:Int)]) :
 Hid (DState w (w'.alloc (.cells row.toArray 96)) ga A c bs q row):=by
 have B:w'.heap.size=ga+1:=ho.2.trans hs
 have hg:=D.hg
 have C:∀ {g:Nat} {t:TypeId} {cs:Array Value}, g<ga+1→Blk (W1.alloc (.cells zs.toArray 96)) g t cs→Blk W1 g t cs:=fun hlt h=>by
  unfold Blk at h ⊢
  rwa [Below.heap_alloc W1 _ _ (by omega)] at h
 refine Z9 ⟨D.ints,D.bytes,D.len,D.hg,?_,hp.push _,(ho.blk (C (by omega) D.hx) (by omega)).push _,(ho.blk (C (by omega) D.hz) (by omega)).push _,?_,?_⟩
 · have:=Blk.new w' 96 row.toArray
   rwa [B] at this
 · refine Bel.push (ho.below (W:=w) (w:=W1) ?_ (by omega)) _
   have hu:=D.hu
   exact ⟨hu.os,hu.tape,hu.output,by omega,fun k hk=>by rw [← hu.block k hk,Below.heap_alloc W1 _ _ (by omega)]⟩
 · rw [zaq,B];exact Nat.le_refl _
theorem zxx {c p q:Nat} {zs:List Value} (D:DState w (W1.alloc (.cells zs.toArray 96)) ga A c bs p zs) (ho:Only ga (W1.alloc (.cells zs.toArray 96)) w') (hp:Blk w' ga 3 #[.int .i64 (q:Int)]) (row:List Value) (hl:zs.length=row.length) :
 Hid (DState w (setRow (ga+1) w' 0 row) ga A c bs q row):=by
 have B:=D.only ho hp
 have hg:=D.hg
 exact Z9 ⟨D.ints,D.bytes,D.len,D.hg,Blk.setRow B.hr row (by simpa using hl),Blk.farRow (by omega) _ _ _ B.hp,Blk.farRow (by omega) _ _ _ B.hx,Blk.farRow (by omega) _ _ _ B.hz,below_setRow (by omega) _ _ _ B.hu,by rw [zbn];exact B.hs⟩
theorem zsz (bs:List Int) (p:Nat) (hb:Within 0 255 bs) (hl:p+1≤bs.length):fld bs p 1 % 256=fld bs p 1∧IntKind.u8.wrap (fld bs p 1)=fld bs p 1:=by
 obtain ⟨h1,h2⟩:=zdc bs p 1 hb hl
 have h:fld bs p 1 % 256=fld bs p 1:=Int.emod_eq_of_lt h1 h2
 exact ⟨h,by rw [zgz,h]⟩
theorem zta (bs:List Int) (p:Nat) (hb:Within 0 255 bs) (hl:p+3≤bs.length):wrap64 (fld bs p 3)=fld bs p 3∧IntKind.i64.wrap (fld bs p 3)=fld bs p 3∧0≤fld bs p 3∧fld bs p 3<16777216:=by
 obtain ⟨h1,h2⟩:=zdc bs p 3 hb hl
 have A:fld bs p 3<16777216:=h2
 have h:wrap64 (fld bs p 3)=fld bs p 3:=IntWalk.wrap64_in _ ⟨by omega,by omega⟩
 refine ⟨h,?_,h1,A⟩
 have e:fld bs p 3 % 2 ^ 64=fld bs p 3:=Int.emod_eq_of_lt (by omega) (by omega)
 simp only [IntKind.wrap,IntKind.bits,IntKind.signed,e]
 rw [if_neg (by simp;omega)]
theorem zpr:(Tryz.prog.info? 88).map (fun i=>(i.zero,i.size,i.bytes))=some (some (.agg #[.int .u32 0, .int .u8 0, .int .i64 0, .int .u32 0, .int .u32 0, .int .u32 0, .int .u32 0]),7,32):=by kernel_rfl
theorem zfi {α : Type} (f:Nat → α) (g : α → List Value) (k:Nat):((List.range (k+1)).map f).flatMap g=((List.range k).map f).flatMap g++g (f k):=by simp [List.range_succ]
section
variable (A:Option Addr) (bs:List Int) (c:Nat) (w:World)
theorem zij (hA:IntsAt w w.heap.size .u8 A bs) (hz:Within 0 255 bs) (hm:bs.length≤maxLen) (mm:Nat) (h:4≤bs.length) (h2:bs.getD 0 0 / 32=4) (Cw:bs.getD 0 0 % 32=(mm:Int)) (h3:bs.getD 1 0=201) (gH:256*bs.getD 2 0+bs.getD 3 0+1=2+6*(mm:Int)) (h5:8+24*mm≤bs.length):Calls Tryz.prog 19 #[.slice A bs.length c] w (RpDecR (Rep.Rpt.of bs false mm,4*(2+6*(mm:Int)),0) w):=by
 have h4:¬bs.length<4:=by omega
 have HM:=Z9 hm
 have HB:=Z9 hz
 have qB:=hA
 obtain ⟨b,off,rfl,Bb,qc⟩:=hA (by omega)
 have HA:=Z9 qB
 clear qB
 have q0:=(zat (zat (show w.cell? ⟨b,off,none⟩=some (.int .u8 (bs.getD 0 0)) from qc 0 (by omega)) (.cells #[.slice (some ⟨b,off,none⟩) bs.length c] 69)) (.cells #[.bool false, .int .u32 0, .int .u64 0, .int .u32 0, .int .u32 0, .int .u32 0, .slice none 0 0] 96))
 obtain ⟨m0,n0⟩:=hz.at (i:=0) (by omega)
 have q1:=(zat (zat (show w.cell? ⟨b,off+1,none⟩=some (.int .u8 (bs.getD 1 0)) from qc 1 (by omega)) (.cells #[.slice (some ⟨b,off,none⟩) bs.length c] 69)) (.cells #[.bool false, .int .u32 0, .int .u64 0, .int .u32 0, .int .u32 0, .int .u32 0, .slice none 0 0] 96))
 obtain ⟨m1,n1⟩:=hz.at (i:=1) (by omega)
 have q2:=(zat (zat (show w.cell? ⟨b,off+2,none⟩=some (.int .u8 (bs.getD 2 0)) from qc 2 (by omega)) (.cells #[.slice (some ⟨b,off,none⟩) bs.length c] 69)) (.cells #[.bool false, .int .u32 0, .int .u64 0, .int .u32 0, .int .u32 0, .int .u32 0, .slice none 0 0] 96))
 obtain ⟨m2,n2⟩:=hz.at (i:=2) (by omega)
 have q3:=(zat (zat (show w.cell? ⟨b,off+3,none⟩=some (.int .u8 (bs.getD 3 0)) from qc 3 (by omega)) (.cells #[.slice (some ⟨b,off,none⟩) bs.length c] 69)) (.cells #[.bool false, .int .u32 0, .int .u64 0, .int .u32 0, .int .u32 0, .int .u32 0, .slice none 0 0] 96))
 obtain ⟨m3,n3⟩:=hz.at (i:=3) (by omega)
 generalize bs.getD 0 0=x0 at *
 generalize bs.getD 1 0=x1 at *
 generalize bs.getD 2 0=x2 at *
 generalize bs.getD 3 0=x3 at *
 unfold maxLen at hm
 clear hA hz qc
 have t0:(0:Int)<(bs.length:Int):=by omega
 have t1:(1:Int)<(bs.length:Int):=by omega
 have t2:(2:Int)<(bs.length:Int):=by omega
 have t3:(3:Int)<(bs.length:Int):=by omega
 have kk:=zwg x0 m0 n0
 rw [Cw] at kk
 have k1:(x0 / 32 != 4)=false:=by simp [h2]
 have yS:(mm:Int)≤31:=by omega
 have ks:=Z9 fun W=>zlb false mm W (by omega)
 obtain ⟨S,hS⟩:=nm9 (Rep.sizeR false mm)
 rw [← hS] at ks
 have x:S=4*(2+6*(mm:Int)):=by rw [hS];unfold Rep.sizeR;simp;omega
 clear hS h2 Cw
 subst h3
 have dZ:=zwf x2 x3 m2 n2 m3 n3
 have hq:S / 4=2+6*(mm:Int):=by omega
 have L:(256*x2+x3+1 != S / 4)=false:=by rw [hq,gH];simp
 rw [hq] at L
 have M:S.tdiv 4=2+6*(mm:Int):=by rw [x];exact Int.mul_tdiv_cancel_left _ (by decide)
 have k7:S≤(bs.length:Int):=by rw [x];omega
 rw [← x]
 have iI:=Z9 x
 have HMB:=Z9 yS
 clear gH hq x
 go_enter Tryz.func19,Tryz.ntmps19
 have U:=Z9 (Bel.push (Bel.push (Bel.refl w) (.cells #[.slice (some ⟨b,off,none⟩) bs.length c] 69)) (.cells #[.bool false, .int .u32 0, .int .u64 0, .int .u32 0, .int .u32 0, .int .u32 0, .slice none 0 0] 96))
 have B:=Z9 (Blk.new1 w (.cells #[.slice (some ⟨b,off,none⟩) bs.length c] 69) 96 #[.bool false, .int .u32 0, .int .u64 0, .int .u32 0, .int .u32 0, .int .u32 0, .slice none 0 0])
 have X:=Z9 ((Blk.new w 69 #[.slice (some ⟨b,off,none⟩) bs.length c]).push (.cells #[.bool false, .int .u32 0, .int .u64 0, .int .u32 0, .int .u32 0, .int .u32 0, .slice none 0 0] 96))
 go_wp2_with fail
 refine (ks.out _).mono ?_
 rintro e w1 ⟨rfl,rfl⟩
 go_wp2_with fail
 go_quiet (fail)
 rename_i nq _
 obtain ⟨W,T⟩:=nm9 ((((w.alloc (.cells #[.slice (some ⟨b,off,none⟩) bs.length c] 69)).alloc (.cells #[.bool false, .int .u32 0, .int .u64 0, .int .u32 0, .int .u32 0, .int .u32 0, .slice none 0 0] 96)).drewN nq))
 rw [← T]
 have HU:Hid (Bel w W):=by rw [T];exact Z9 (U.out.drewN nq)
 have HZ:Hid (Blk W (w.heap.size+1) 96 #[.bool false, .int .u32 0, .int .u64 0, .int .u32 0, .int .u32 0, .int .u32 0, .slice none 0 0]):=by rw [T];exact Z9 (B.out.drewN nq)
 have HX:Hid (Blk W w.heap.size 69 #[.slice (some ⟨b,off,none⟩) bs.length c]):=by rw [T];exact Z9 (X.out.drewN nq)
 have HG:Hid (W.heap.size=w.heap.size+2):=by rw [T];exact Z9 (by simp [World.drewN])
 have j:Hid (W.cell? ⟨b,off+1,none⟩=some (.int .u8 201)):=by rw [T];exact Z9 q1
 clear T U B X q0 q1 q2 q3 kk k1 dZ L M
 have cx:=HX.out.at 0 _ rfl
 obtain ⟨ga,u⟩:=nm9 W.heap.size
 have hg:w.heap.size+2≤ga:=by rw [u,HG.out];exact Nat.le_refl _
 go_wp2_with fail
 rw [← u]
 obtain ⟨W1,N⟩:=nm9 (W.alloc (.cells #[.int .i64 4] 3))
 rw [← N]
 have Ib:W1.heap.size=ga+1:=by rw [N,zaq,← u]
 have Pv:Hid (Bel w W1):=by rw [N];exact Z9 (HU.out.push _)
 have Q:Hid (Blk W1 w.heap.size 69 #[.slice (some ⟨b,off,none⟩) bs.length c]):=by rw [N];exact Z9 (HX.out.push _)
 have Ut:Hid (Blk W1 ga 3 #[.int .i64 ((4:Nat):Int)]):=by rw [N,u];exact Z9 (Blk.new W 3 #[.int .i64 4])
 have D0:Hid (DState w (W1.alloc (.cells #[.bool false, .int .u32 0, .int .u64 0, .int .u32 0, .int .u32 0, .int .u32 0, .slice none 0 0] 96)) ga (some ⟨b,off,none⟩) c bs 4 [.bool false, .int .u32 0, .int .u64 0, .int .u32 0, .int .u32 0, .int .u32 0, .slice none 0 0]):=Z9 ⟨HA.out,HB.out,HM.out,hg,(by have:=Blk.new W1 96 #[.bool false, .int .u32 0, .int .u64 0, .int .u32 0, .int .u32 0, .int .u32 0, .slice none 0 0];rwa [Ib] at this),Ut.out.push _,Q.out.push _,(by rw [N];exact (HZ.out.push _).push _),Pv.out.push _,by rw [zaq,Ib];exact Nat.le_refl _⟩
 have Bg:W1.cell? ⟨b,off+1,none⟩=some (.int .u8 201):=by rw [N];exact zat j.out _
 clear cx N u HU HZ HX j HG
 have Sr:w.heap.size<ga+1:=by omega
 have Xl:b<ga+1:=by omega
 have Pa:¬w.heap.size=ga:=by omega
 have Cc:¬b=ga:=by omega
 have Wv:¬ga+1=ga:=by omega
 have nZ:¬w.heap.size=ga+1:=by omega
 have nY:¬b=ga+1:=by omega
 have DX:=Q.out.at 0 (.slice (some ⟨b,off,none⟩) bs.length c) rfl
 obtain ⟨yN,oB⟩:=zbz bs 4 HB.out (by omega)
 go_cut [9] (fun s9 wx=>s9 = .pointer (some ⟨ga+1,0,none⟩)∧Hid (DState w wx ga (some ⟨b,off,none⟩) c bs 8 [.bool false, .int .u32 (fld bs 4 4), .int .u64 0, .int .u32 0, .int .u32 0, .int .u32 0, .slice none 0 0]))
 case first =>
  have rM:=HA.out.below Pv.out
  have X7:IntsAt (W1.alloc (.cells #[.bool false, .int .u32 0, .int .u64 0, .int .u32 0, .int .u32 0, .int .u32 0, .slice none 0 0] 96)) w.heap.size .u8 (some ⟨b,off,none⟩) bs:=rM.alloc (by omega) _
  have P6:=Blk.push Q.out (.cells #[.bool false, .int .u32 0, .int .u64 0, .int .u32 0, .int .u32 0, .int .u32 0, .slice none 0 0] 96)
  have S1:=Blk.push Ut.out (.cells #[.bool false, .int .u32 0, .int .u64 0, .int .u32 0, .int .u32 0, .int .u32 0, .slice none 0 0] 96)
  go_region_held3 (fun w'=>w'.cell? ⟨w.heap.size,0,none⟩=some (.slice (some ⟨b,off,none⟩) bs.length c)∧w'.cell? ⟨b,off+1,none⟩=some (.int .u8 201))
   (first|(with_reducible assumption)|((try go_split_ands);(with_reducible repeat' apply And.intro)<;>(with_reducible repeat first|assumption|exact zfh (by assumption) (by assumption) (by assumption)|refine zpq ?_|refine zat ?_ _|refine zef ?_ nZ _|refine zef ?_ nY _)))
   (first|(go_at_call 42;refine (zfg (some ⟨b,off,none⟩) c bs w.heap.size ga 4 4 _ w.heap.size bs.length ?_ HB.out (by omega) ?_ ?_ (by omega) (by omega) (by omega) rfl HM.out).mono ?_;(first|exact rM|exact X7);(first|exact Q.out|exact P6);(first|exact Ut.out|exact S1);rintro e w' ⟨rfl,ho,hp⟩;obtain ⟨De,Rr,jG⟩:=zyu ho;(first|have ZH:Only ga W1 w':=Only.undrew ho|have ZG:Only ga (W1.alloc (.cells #[.bool false, .int .u32 0, .int .u64 0, .int .u32 0, .int .u32 0, .int .u32 0, .slice none 0 0] 96)) w':=Only.undrew ho);have cy1:w'.cell? ⟨w.heap.size,0,none⟩=some (.slice (some ⟨b,off,none⟩) bs.length c):=zfh ho Pa (by first|exact DX|exact zat DX _);have cy2:w'.cell? ⟨b,off+1,none⟩=some (.int .u8 201):=zfh ho Cc (by first|exact Bg|exact zat Bg _)))
  all_goals
   go_wp2_with fail
   go_meet
   first
    | (have hr:=zxw D0.out Ib ZH (q:=8) hp (row:=[.bool false, .int .u32 (fld bs 4 4), .int .u64 0, .int .u32 0, .int .u32 0, .int .u32 0, .slice none 0 0]);with_reducible exact ⟨rfl,hr⟩)
    | (have hr:=zxx D0.out ZG (q:=8) hp [.bool false, .int .u32 (fld bs 4 4), .int .u64 0, .int .u32 0, .int .u32 0, .int .u32 0, .slice none 0 0] rfl;simp only [setRow,Nat.zero_add,Nat.reduceAdd] at hr;with_reducible exact ⟨rfl,hr⟩)
 case rest =>
  obtain ⟨rfl,D⟩:=hcut
  clear D0 Q Ut Pv DX Bg Ib yN oB Sr Xl Pa Cc Wv nZ nY HA HB HM
  have r0:=D.out.hr.at 0 _ rfl
  go_wp2_with fail
  clear r0
  go_loopg [94] mm (fun gk Jf wr => ∃ (k:Nat) (A':Option Addr) (c':Nat),gk+k=mm∧Jf = .int .i64 k∧Hid (DState w wr ga (some ⟨b,off,none⟩) c bs (8+24*k) [.bool false, .int .u32 (fld bs 4 4), .int .u64 0, .int .u32 0, .int .u32 0, .int .u32 0, .slice A' k c'])∧Hid (Owns wr (ga+2) 88 7 A' k c' (((List.range k).map fun i=>Rep.blockAt bs (8+24*i)).flatMap Rep.Bk.cells)))
  case atStart=>exact ⟨0,none,0,rfl,rfl,D,Z9 Owns.nil⟩
  case round =>
   clear D
   obtain ⟨k,A',c',Xf,rfl,D,E⟩:=hrel
   by_cases hlt:k<mm
   · obtain ⟨q,hq⟩:=nm9 (8+24*k)
     rw [← hq] at D
     have Ub:q+24≤bs.length:=by omega
     have j:=Z9 hq
     clear hq
     have Ct:(0:Int)≤(k:Int):=by omega
     have Cn:(k:Int)<(mm:Int):=by omega
     obtain ⟨XJ,XH⟩:=zbz bs q D.out.bytes (by omega)
     obtain ⟨XI,XG⟩:=zsz bs (q+4) D.out.bytes (by omega)
     go_wp2_with fail
     refine (D.out.call 4 (q+4) (by omega) (by omega) (by omega)).mono ?_
     rintro e v1 ⟨rfl,ho,F⟩
     clear D
     have D:=F
     clear F
     have G:=Z9 (zbi E.out ho (by omega))
     clear E
     have E:=G
     clear G
     clear ho
     go_wp2_with fail
     refine (D.out.call 1 (q+5) (by omega) (by omega) (by omega)).mono ?_
     rintro e v2 ⟨rfl,ho,F⟩
     clear D
     have D:=F
     clear F
     have G:=Z9 (zbi E.out ho (by omega))
     clear E
     have E:=G
     clear G
     clear ho
     go_wp2_with fail
     clear XJ XH XI XG
     have K:Hid (∀ g,ownB A'=some g→g<v2.heap.size):=Z9 (fun g e=>(E.out.block g e).2)
     have C:=Z9 (Blk.new v2 88 #[.int .u32 (fld bs q 4), .int .u8 (fld bs (q+4) 1), .int .i64 0, .int .u32 0, .int .u32 0, .int .u32 0, .int .u32 0])
     have F:=Z9 (D.out.push (.cells #[.int .u32 (fld bs q 4), .int .u8 (fld bs (q+4) 1), .int .i64 0, .int .u32 0, .int .u32 0, .int .u32 0, .int .u32 0] 88))
     have G:=Z9 (E.out.alloc (.cells #[.int .u32 (fld bs q 4), .int .u8 (fld bs (q+4) 1), .int .i64 0, .int .u32 0, .int .u32 0, .int .u32 0, .int .u32 0] 88))
     have J:=D.out.hs
     clear D E
     have D:=F
     have E:=G
     clear F G
     obtain ⟨I,NX⟩:=nm9 v2.heap.size
     rw [← NX] at K C J ⊢
     obtain ⟨V,hV⟩:=nm9 (v2.alloc (.cells #[.int .u32 (fld bs q 4), .int .u8 (fld bs (q+4) 1), .int .i64 0, .int .u32 0, .int .u32 0, .int .u32 0, .int .u32 0] 88))
     rw [← hV] at C D E ⊢
     clear hV NX
     refine (D.out.call 3 (q+8) (by omega) (by omega) (by omega)).mono ?_
     rintro e v3 ⟨rfl,ho,F⟩
     clear D
     have D:=F
     clear F
     have G:=Z9 (zbi E.out ho (by omega))
     clear E
     have E:=G
     clear G
     have H:=Z9 (ho.blk C.out (by omega))
     clear C
     have C:=H
     clear H
     clear ho
     obtain ⟨LX,LW,mc2,md2⟩:=zta bs (q+5) D.out.bytes (by omega)
     have z:=C.out.frozen
     have o:=C.out.at 2 _ rfl
     by_cases hb:8388607<fld bs (q+5) 3
     · have We:decide (8388607<fld bs (q+5) 3)=true:=by simpa using hb
       go_wp2_with fail
       clear LX LW z o We
       have F:=Z9 ((D.out.far I 2 J (.int .i64 (fld bs (q+5) 3))).far I 2 J (.int .i64 (fld bs (q+5) 3-16777216)))
       have H:Hid (Blk _ I 88 #[.int .u32 (fld bs q 4), .int .u8 (fld bs (q+4) 1), .int .i64 (fld bs (q+5) 3-16777216), .int .u32 0, .int .u32 0, .int .u32 0, .int .u32 0]):=Z9 ((C.out.set_ 2 (.int .i64 (fld bs (q+5) 3))).set_ 2 (.int .i64 (fld bs (q+5) 3-16777216)))
       have G:=Z9 ((E.out.setCell (p:=⟨I,2,none⟩) (fun g e=>Nat.ne_of_lt (K.out g e)) (.int .i64 (fld bs (q+5) 3))).setCell (p:=⟨I,2,none⟩) (fun g e=>Nat.ne_of_lt (K.out g e)) (.int .i64 (fld bs (q+5) 3-16777216)))
       clear D C E
       have D:=F
       have C:=H
       have E:=G
       clear F H G
       obtain ⟨Y,d⟩:=zbz bs (q+8) D.out.bytes (by omega)
       obtain ⟨Z,f⟩:=zbz bs (q+12) D.out.bytes (by omega)
       refine (D.out.call 4 (q+12) (by omega) (by omega) (by omega)).mono ?_
       rintro e v4 ⟨rfl,ho,F⟩
       clear D
       have D:=F
       clear F
       have G:=Z9 (zbi E.out ho (by omega))
       clear E
       have E:=G
       clear G
       have H:=Z9 (ho.blk C.out (by omega))
       clear C
       have C:=H
       clear H
       clear ho
       go_wp2_with fail
       refine (D.out.call 4 (q+16) (by omega) (by omega) (by omega)).mono ?_
       rintro e v5 ⟨rfl,ho,F⟩
       clear D
       have D:=F
       clear F
       have G:=Z9 (zbi E.out ho (by omega))
       clear E
       have E:=G
       clear G
       have H:=Z9 (ho.blk C.out (by omega))
       clear C
       have C:=H
       clear H
       clear ho
       have z:=C.out.frozen
       have R:=C.out.at 3 _ rfl
       have O:=C.out.at 4 _ rfl
       go_wp2_with fail
       clear Y d Z f z R O
       have F:=Z9 ((D.out.far I 3 J (.int .u32 (fld bs (q+8) 4))).far I 4 J (.int .u32 (fld bs (q+12) 4)))
       have H:Hid (Blk _ I 88 #[.int .u32 (fld bs q 4), .int .u8 (fld bs (q+4) 1), .int .i64 (fld bs (q+5) 3-16777216), .int .u32 (fld bs (q+8) 4), .int .u32 (fld bs (q+12) 4), .int .u32 0, .int .u32 0]):=Z9 ((C.out.set_ 3 (.int .u32 (fld bs (q+8) 4))).set_ 4 (.int .u32 (fld bs (q+12) 4)))
       have G:=Z9 ((E.out.setCell (p:=⟨I,3,none⟩) (fun g e=>Nat.ne_of_lt (K.out g e)) (.int .u32 (fld bs (q+8) 4))).setCell (p:=⟨I,4,none⟩) (fun g e=>Nat.ne_of_lt (K.out g e)) (.int .u32 (fld bs (q+12) 4)))
       clear D C E
       have D:=F
       have C:=H
       have E:=G
       clear F H G
       obtain ⟨Y,d⟩:=zbz bs (q+16) D.out.bytes (by omega)
       obtain ⟨Z,f⟩:=zbz bs (q+20) D.out.bytes (by omega)
       refine (D.out.call 4 (q+20) (by omega) (by omega) (by omega)).mono ?_
       rintro e v6 ⟨rfl,ho,F⟩
       clear D
       have D:=F
       clear F
       have G:=Z9 (zbi E.out ho (by omega))
       clear E
       have E:=G
       clear G
       have H:=Z9 (ho.blk C.out (by omega))
       clear C
       have C:=H
       clear H
       clear ho
       go_wp2_with fail
       refine (D.out.call 4 (q+24) (by omega) (by omega) (by omega)).mono ?_
       rintro e v7 ⟨rfl,ho,F⟩
       clear D
       have D:=F
       clear F
       have G:=Z9 (zbi E.out ho (by omega))
       clear E
       have E:=G
       clear G
       have H:=Z9 (ho.blk C.out (by omega))
       clear C
       have C:=H
       clear H
       clear ho
       have z:=C.out.frozen
       have L:=C.out.at 5 _ rfl
       have M:=C.out.at 6 _ rfl
       go_upto_region 27 with fail
       clear Y d Z f z L M
       have F:=Z9 ((D.out.far I 5 J (.int .u32 (fld bs (q+16) 4))).far I 6 J (.int .u32 (fld bs (q+20) 4)))
       have H:Hid (Blk _ I 88 #[.int .u32 (fld bs q 4), .int .u8 (fld bs (q+4) 1), .int .i64 (fld bs (q+5) 3-16777216), .int .u32 (fld bs (q+8) 4), .int .u32 (fld bs (q+12) 4), .int .u32 (fld bs (q+16) 4), .int .u32 (fld bs (q+20) 4)]):=Z9 ((C.out.set_ 5 (.int .u32 (fld bs (q+16) 4))).set_ 6 (.int .u32 (fld bs (q+20) 4)))
       have G:=Z9 ((E.out.setCell (p:=⟨I,5,none⟩) (fun g e=>Nat.ne_of_lt (K.out g e)) (.int .u32 (fld bs (q+16) 4))).setCell (p:=⟨I,6,none⟩) (fun g e=>Nat.ne_of_lt (K.out g e)) (.int .u32 (fld bs (q+20) 4)))
       clear D C E
       have D:=F
       have C:=H
       have E:=G
       clear F H G
       obtain ⟨V2,y⟩:=nm9 ((v7.setCell ⟨I,5,none⟩ (.int .u32 (fld bs (q+16) 4))).setCell ⟨I,6,none⟩ (.int .u32 (fld bs (q+20) 4)))
       rw [← y] at D C E ⊢
       clear y
       have k0:=C.out.at 0 _ rfl
       have k1:=C.out.at 1 _ rfl
       have o:=C.out.at 2 _ rfl
       have R:=C.out.at 3 _ rfl
       have O:=C.out.at 4 _ rfl
       have L:=C.out.at 5 _ rfl
       have M:=C.out.at 6 _ rfl
       have a:=D.out.hr.at 6 _ rfl
       have Te:=D.out.hs
       go_wp2_with (at_builtin;go_loud (refine zan rfl _ _ 93 rfl (ga+2) 88 7 32 (.agg #[.int .u32 0, .int .u8 0, .int .i64 0, .int .u32 0, .int .u32 0, .int .u32 0, .int .u32 0]) Tryz.underlying93 zpr rfl (by decide) A' k c' _ rfl E.out [.int .u32 (fld bs q 4), .int .u8 (fld bs (q+4) 1), .int .i64 (fld bs (q+5) 3-16777216), .int .u32 (fld bs (q+8) 4), .int .u32 (fld bs (q+12) 4), .int .u32 (fld bs (q+16) 4), .int .u32 (fld bs (q+20) 4)] rfl (by simp [Value.oneCell']) rfl (by unfold maxLen;omega) (by omega) Te ?_);intro A2 c2 wn t Bh Ar;have l:=Z9 (D.out.grown Bh (fun g e=>(E.out.block g e).1));have WD:=l.out.hr.at 6 _ rfl;have z':=l.out.hr.frozen)
       clear k0 k1 o R O L M a
       go_roundg (gk-1)
       case measure=>omega
       case rel =>
        refine ⟨k+1,A2,c2,by omega,by go_num,?_,?_⟩
        · have e:8+24*(k+1)=q+24:=by have:=j.out;omega
          rw [e]
          exact Z9 (l.out.set 6 (.slice A2 (k+1) c2))
        · have Kk:Rep.Bk.cells (Rep.blockAt bs q)=[.int .u32 (fld bs q 4), .int .u8 (fld bs (q+4) 1), .int .i64 (fld bs (q+5) 3-16777216), .int .u32 (fld bs (q+8) 4), .int .u32 (fld bs (q+12) 4), .int .u32 (fld bs (q+16) 4), .int .u32 (fld bs (q+20) 4)]:=by
           simp only [Rep.Bk.cells,Rep.blockAt]
           rw [if_pos (by omega)]
          rw [zfi,← j.out,Kk]
          exact Z9 (t.setCell (p:=⟨ga+1,6,none⟩) (fun g e=>by have:=(t.block g e).1;simp only;omega) _)
     · have We:decide (8388607<fld bs (q+5) 3)=false:=by simpa using hb
       go_wp2_with fail
       clear LX LW z o We
       have F:=Z9 (D.out.far I 2 J (.int .i64 (fld bs (q+5) 3)))
       have H:Hid (Blk _ I 88 #[.int .u32 (fld bs q 4), .int .u8 (fld bs (q+4) 1), .int .i64 (fld bs (q+5) 3), .int .u32 0, .int .u32 0, .int .u32 0, .int .u32 0]):=Z9 (C.out.set_ 2 (.int .i64 (fld bs (q+5) 3)))
       have G:=Z9 (E.out.setCell (p:=⟨I,2,none⟩) (fun g e=>Nat.ne_of_lt (K.out g e)) (.int .i64 (fld bs (q+5) 3)))
       clear D C E
       have D:=F
       have C:=H
       have E:=G
       clear F H G
       obtain ⟨Y,d⟩:=zbz bs (q+8) D.out.bytes (by omega)
       obtain ⟨Z,f⟩:=zbz bs (q+12) D.out.bytes (by omega)
       refine (D.out.call 4 (q+12) (by omega) (by omega) (by omega)).mono ?_
       rintro e v4 ⟨rfl,ho,F⟩
       clear D
       have D:=F
       clear F
       have G:=Z9 (zbi E.out ho (by omega))
       clear E
       have E:=G
       clear G
       have H:=Z9 (ho.blk C.out (by omega))
       clear C
       have C:=H
       clear H
       clear ho
       go_wp2_with fail
       refine (D.out.call 4 (q+16) (by omega) (by omega) (by omega)).mono ?_
       rintro e v5 ⟨rfl,ho,F⟩
       clear D
       have D:=F
       clear F
       have G:=Z9 (zbi E.out ho (by omega))
       clear E
       have E:=G
       clear G
       have H:=Z9 (ho.blk C.out (by omega))
       clear C
       have C:=H
       clear H
       clear ho
       have z:=C.out.frozen
       have R:=C.out.at 3 _ rfl
       have O:=C.out.at 4 _ rfl
       go_wp2_with fail
       clear Y d Z f z R O
       have F:=Z9 ((D.out.far I 3 J (.int .u32 (fld bs (q+8) 4))).far I 4 J (.int .u32 (fld bs (q+12) 4)))
       have H:Hid (Blk _ I 88 #[.int .u32 (fld bs q 4), .int .u8 (fld bs (q+4) 1), .int .i64 (fld bs (q+5) 3), .int .u32 (fld bs (q+8) 4), .int .u32 (fld bs (q+12) 4), .int .u32 0, .int .u32 0]):=Z9 ((C.out.set_ 3 (.int .u32 (fld bs (q+8) 4))).set_ 4 (.int .u32 (fld bs (q+12) 4)))
       have G:=Z9 ((E.out.setCell (p:=⟨I,3,none⟩) (fun g e=>Nat.ne_of_lt (K.out g e)) (.int .u32 (fld bs (q+8) 4))).setCell (p:=⟨I,4,none⟩) (fun g e=>Nat.ne_of_lt (K.out g e)) (.int .u32 (fld bs (q+12) 4)))
       clear D C E
       have D:=F
       have C:=H
       have E:=G
       clear F H G
       obtain ⟨Y,d⟩:=zbz bs (q+16) D.out.bytes (by omega)
       obtain ⟨Z,f⟩:=zbz bs (q+20) D.out.bytes (by omega)
       refine (D.out.call 4 (q+20) (by omega) (by omega) (by omega)).mono ?_
       rintro e v6 ⟨rfl,ho,F⟩
       clear D
       have D:=F
       clear F
       have G:=Z9 (zbi E.out ho (by omega))
       clear E
       have E:=G
       clear G
       have H:=Z9 (ho.blk C.out (by omega))
       clear C
       have C:=H
       clear H
       clear ho
       go_wp2_with fail
       refine (D.out.call 4 (q+24) (by omega) (by omega) (by omega)).mono ?_
       rintro e v7 ⟨rfl,ho,F⟩
       clear D
       have D:=F
       clear F
       have G:=Z9 (zbi E.out ho (by omega))
       clear E
       have E:=G
       clear G
       have H:=Z9 (ho.blk C.out (by omega))
       clear C
       have C:=H
       clear H
       clear ho
       have z:=C.out.frozen
       have L:=C.out.at 5 _ rfl
       have M:=C.out.at 6 _ rfl
       go_upto_region 27 with fail
       clear Y d Z f z L M
       have F:=Z9 ((D.out.far I 5 J (.int .u32 (fld bs (q+16) 4))).far I 6 J (.int .u32 (fld bs (q+20) 4)))
       have H:Hid (Blk _ I 88 #[.int .u32 (fld bs q 4), .int .u8 (fld bs (q+4) 1), .int .i64 (fld bs (q+5) 3), .int .u32 (fld bs (q+8) 4), .int .u32 (fld bs (q+12) 4), .int .u32 (fld bs (q+16) 4), .int .u32 (fld bs (q+20) 4)]):=Z9 ((C.out.set_ 5 (.int .u32 (fld bs (q+16) 4))).set_ 6 (.int .u32 (fld bs (q+20) 4)))
       have G:=Z9 ((E.out.setCell (p:=⟨I,5,none⟩) (fun g e=>Nat.ne_of_lt (K.out g e)) (.int .u32 (fld bs (q+16) 4))).setCell (p:=⟨I,6,none⟩) (fun g e=>Nat.ne_of_lt (K.out g e)) (.int .u32 (fld bs (q+20) 4)))
       clear D C E
       have D:=F
       have C:=H
       have E:=G
       clear F H G
       obtain ⟨V2,y⟩:=nm9 ((v7.setCell ⟨I,5,none⟩ (.int .u32 (fld bs (q+16) 4))).setCell ⟨I,6,none⟩ (.int .u32 (fld bs (q+20) 4)))
       rw [← y] at D C E ⊢
       clear y
       have k0:=C.out.at 0 _ rfl
       have k1:=C.out.at 1 _ rfl
       have o:=C.out.at 2 _ rfl
       have R:=C.out.at 3 _ rfl
       have O:=C.out.at 4 _ rfl
       have L:=C.out.at 5 _ rfl
       have M:=C.out.at 6 _ rfl
       have a:=D.out.hr.at 6 _ rfl
       have Te:=D.out.hs
       go_wp2_with (at_builtin;go_loud (refine zan rfl _ _ 93 rfl (ga+2) 88 7 32 (.agg #[.int .u32 0, .int .u8 0, .int .i64 0, .int .u32 0, .int .u32 0, .int .u32 0, .int .u32 0]) Tryz.underlying93 zpr rfl (by decide) A' k c' _ rfl E.out [.int .u32 (fld bs q 4), .int .u8 (fld bs (q+4) 1), .int .i64 (fld bs (q+5) 3), .int .u32 (fld bs (q+8) 4), .int .u32 (fld bs (q+12) 4), .int .u32 (fld bs (q+16) 4), .int .u32 (fld bs (q+20) 4)] rfl (by simp [Value.oneCell']) rfl (by unfold maxLen;omega) (by omega) Te ?_);intro A2 c2 wn t Bh Ar;have l:=Z9 (D.out.grown Bh (fun g e=>(E.out.block g e).1));have WD:=l.out.hr.at 6 _ rfl;have z':=l.out.hr.frozen)
       clear k0 k1 o R O L M a
       go_roundg (gk-1)
       case measure=>omega
       case rel =>
        refine ⟨k+1,A2,c2,by omega,by go_num,?_,?_⟩
        · have e:8+24*(k+1)=q+24:=by have:=j.out;omega
          rw [e]
          exact Z9 (l.out.set 6 (.slice A2 (k+1) c2))
        · have Kk:Rep.Bk.cells (Rep.blockAt bs q)=[.int .u32 (fld bs q 4), .int .u8 (fld bs (q+4) 1), .int .i64 (fld bs (q+5) 3), .int .u32 (fld bs (q+8) 4), .int .u32 (fld bs (q+12) 4), .int .u32 (fld bs (q+16) 4), .int .u32 (fld bs (q+20) 4)]:=by
           simp only [Rep.Bk.cells,Rep.blockAt]
           rw [if_neg (by omega)]
          rw [zfi,← j.out,Kk]
          exact Z9 (t.setCell (p:=⟨ga+1,6,none⟩) (fun g e=>by have:=(t.block g e).1;simp only;omega) _)
   · obtain rfl:k=mm:=by omega
     have Cn:(k:Int)≤(k:Int):=Int.le_refl _
     have r0:=D.out.hr.at 0 _ rfl
     have r1:=D.out.hr.at 1 _ rfl
     have r2:=D.out.hr.at 2 _ rfl
     have r3:=D.out.hr.at 3 _ rfl
     have r4:=D.out.hr.at 4 _ rfl
     have r5:=D.out.hr.at 5 _ rfl
     have a:=D.out.hr.at 6 _ rfl
     have y0:=D.out.hz.at 0 _ rfl
     have y1:=D.out.hz.at 1 _ rfl
     have y2:=D.out.hz.at 2 _ rfl
     have y3:=D.out.hz.at 3 _ rfl
     have y4:=D.out.hz.at 4 _ rfl
     have y5:=D.out.hz.at 5 _ rfl
     have y6:=D.out.hz.at 6 _ rfl
     have z:=D.out.hz.frozen
     go_wp2_with fail
     have BF:=Blk.setRow D.out.hz [.bool false, .int .u32 (fld bs 4 4), .int .u64 0, .int .u32 0, .int .u32 0, .int .u32 0, .slice A' k c'] rfl
     have UF:=below_setRow (g:=w.heap.size+1) (by omega) [.bool false, .int .u32 (fld bs 4 4), .int .u64 0, .int .u32 0, .int .u32 0, .int .u32 0, .slice A' k c'] _ 0 D.out.hu
     have RN:=(RowsNew.setRow (g:=w.heap.size+1) (n:=ga+2) (by have:=D.out.hg;omega) [.bool false, .int .u32 (fld bs 4 4), .int .u64 0, .int .u32 0, .int .u32 0, .int .u32 0, .slice A' k c'] _ 0 (E.out.rowsNew (by simp) (fun _=>rfl) (Nat.le_refl _))).less (m:=w.heap.size) (by have:=D.out.hg;omega)
     have Al:(Rep.Rpt.of bs false k).row A' c' = #[.bool false, .int .u32 (fld bs 4 4), .int .u64 0, .int .u32 0, .int .u32 0, .int .u32 0, .slice A' k c']:=by simp [Rep.Rpt.row,Rep.Rpt.of]
     simp only [setRow,Nat.zero_add,Nat.reduceAdd] at BF UF RN
     exact bodyPost_ret (v := .tuple #[.agg #[.bool false, .int .u32 (fld bs 4 4), .int .u64 0, .int .u32 0, .int .u32 0, .int .u32 0, .slice A' k c'], .int .i64 S, .int .u8 0]) (zbe Tryz.results19 rfl (run_loadVar_row (P:=Tryz.prog) _ _ _ _ _ _ _ BF Tryz.underlying96 rfl (by kernel_rfl)) rfl rfl) rfl ⟨A',c',by show _=Ending.returned (.tuple #[.agg ((Rep.Rpt.of bs false k).row A' c'), .int .i64 S, .int .u8 0]);rw [Al],RN,UF⟩
end
namespace Rep
theorem zcf (l:List Bk):(l.flatMap Bk.bytes).length=24*l.length:=by
 induction l with
 | nil=>rfl
 | cons a l ih=>simp [List.flatMap_cons,Bk.bytes,zap,ih];omega
theorem bytes_len (r:Rpt):r.bytes.length=(if r.sender then 28 else 8)+24*r.blocks.length:=by
 unfold Rpt.bytes Rpt.front
 rw [List.length_append,zcf]
 cases r.sender<;>simp [zap]<;>omega
end Rep
end
section
open Go.RowKit
namespace Rep
theorem ztb (P Q:List Int) (b:Bk) (p:Nat) (hp:P.length=p) (F:b.ok) (hf:b.fit):blockAt (P++(b.bytes++Q)) p=b:=by
 obtain ⟨⟨a0,K⟩,⟨b0,b1⟩,⟨c0,c1⟩,⟨J,d1⟩,⟨I,H⟩,⟨f0,f1⟩,G,g1⟩:=F
 obtain ⟨l0,l1⟩:=hf
 have q0:fld (P++(b.bytes++Q)) p 4=b.source:=by
  have:=zbm P (be 1 b.frac++(be 3 b.lost++(be 4 b.high++(be 4 b.jit++(be 4 b.last++(be 4 b.delay++Q)))))) p 4 b.source hp
  simp only [Bk.bytes,List.append_assoc] at this ⊢
  rw [this];omega
 have q1:fld (P++(b.bytes++Q)) (p+4) 1=b.frac:=by
  have:=zbm (P++be 4 b.source) (be 3 b.lost++(be 4 b.high++(be 4 b.jit++(be 4 b.last++(be 4 b.delay++Q))))) (p+4) 1 b.frac (by simp [zap,hp])
  simp only [Bk.bytes,List.append_assoc] at this ⊢
  rw [this];omega
 have q2:fld (P++(b.bytes++Q)) (p+5) 3=b.lost % 16777216:=by
  have:=zbm (P++be 4 b.source++be 1 b.frac) (be 4 b.high++(be 4 b.jit++(be 4 b.last++(be 4 b.delay++Q)))) (p+5) 3 b.lost (by simp [zap,hp])
  simp only [Bk.bytes,List.append_assoc] at this ⊢
  rw [this];omega
 have E:fld (P++(b.bytes++Q)) (p+8) 4=b.high:=by
  have:=zbm (P++be 4 b.source++be 1 b.frac++be 3 b.lost) (be 4 b.jit++(be 4 b.last++(be 4 b.delay++Q))) (p+8) 4 b.high (by simp [zap,hp])
  simp only [Bk.bytes,List.append_assoc] at this ⊢
  rw [this];omega
 have D:fld (P++(b.bytes++Q)) (p+12) 4=b.jit:=by
  have:=zbm (P++be 4 b.source++be 1 b.frac++be 3 b.lost++be 4 b.high) (be 4 b.last++(be 4 b.delay++Q)) (p+12) 4 b.jit (by simp [zap,hp])
  simp only [Bk.bytes,List.append_assoc] at this ⊢
  rw [this];omega
 have C:fld (P++(b.bytes++Q)) (p+16) 4=b.last:=by
  have:=zbm (P++be 4 b.source++be 1 b.frac++be 3 b.lost++be 4 b.high++be 4 b.jit) (be 4 b.delay++Q) (p+16) 4 b.last (by simp [zap,hp])
  simp only [Bk.bytes,List.append_assoc] at this ⊢
  rw [this];omega
 have B:fld (P++(b.bytes++Q)) (p+20) 4=b.delay:=by
  have:=zbm (P++be 4 b.source++be 1 b.frac++be 3 b.lost++be 4 b.high++be 4 b.jit++be 4 b.last) Q (p+20) 4 b.delay (by simp [zap,hp])
  simp only [Bk.bytes,List.append_assoc] at this ⊢
  rw [this];omega
 unfold blockAt
 rw [q0,q1,q2,E,D,C,B]
 have A:(if 8388608≤b.lost % 16777216 then b.lost % 16777216-16777216 else b.lost % 16777216)=b.lost:=by split<;>omega
 rw [A]
theorem zps (P Q:List Int) (l:List Bk) (p:Nat) (hp:P.length=p) (B:∀ b∈l,b.ok) (hf:∀ b∈l,b.fit):(List.range l.length).map (fun i=>blockAt (P++(l.flatMap Bk.bytes++Q)) (p+24*i))=l:=by
 refine List.ext_getElem (by simp) fun i h1 h2 => ?_
 rw [List.getElem_map,List.getElem_range]
 have hs:l=l.take i++(l[i]::l.drop (i+1)):=by
  rw [← List.drop_eq_getElem_cons h2,List.take_append_drop]
 have A:l.flatMap Bk.bytes=(l.take i).flatMap Bk.bytes++(l[i].bytes++(l.drop (i+1)).flatMap Bk.bytes):=by
  conv=>lhs;rw [hs]
  rw [List.flatMap_append,List.flatMap_cons]
 rw [A]
 have:=ztb (P++(l.take i).flatMap Bk.bytes) ((l.drop (i+1)).flatMap Bk.bytes++Q) l[i] (p+24*i) (by rw [List.length_append,zcf,hp,List.length_take];omega) (B _ (List.getElem_mem h2)) (hf _ (List.getElem_mem h2))
 simp only [List.append_assoc] at this ⊢
 exact this
theorem zxy (y:Int) (h0:0≤y) (h1:y≤255):be 2 y=[0,y]:=by
 have e:be 2 y=[y / 256 % 256,y % 256]:=rfl
 rw [e]
 have B:y / 256 % 256=0:=by omega
 have A:y % 256=y:=by omega
 rw [B,A]
theorem zpt (s:Bool) (n:Nat):sizeR s n=4*((if s then 7 else 2)+6*(n:Int)):=by
 unfold sizeR
 cases s<;>simp<;>omega
theorem dec_enc (r:Rpt) (Q:List Int) (Y:r.ok) (h0:(enc r).2=0):dec ((enc r).1++Q)=(r,((enc r).1.length:Int),0):=by
 have hl:¬31<r.blocks.length:=by
  intro h;unfold enc at h0;rw [if_pos h] at h0;simp at h0
 have hf:∀ b∈r.blocks,b.fit:=by
  refine Classical.byContradiction fun h => ?_
  unfold enc at h0;rw [if_neg hl,if_pos h] at h0;simp at h0
 have hp:¬(r.sender=false∧¬r.plain):=by
  intro h;unfold enc at h0;rw [if_neg hl,if_neg (fun hn=>hn hf),if_pos h] at h0;simp at h0
 have he:(enc r).1=r.bytes:=by
  unfold enc;rw [if_neg hl,if_neg (fun hn=>hn hf),if_neg hp]
 rw [he]
 have M:=bytes_len r
 obtain ⟨⟨s0,s1⟩,⟨c0,c1⟩,⟨t0,t1⟩,⟨Z,p1⟩,⟨o0,o1⟩,N⟩:=Y
 obtain ⟨s,so,B,ti,A,oc,l⟩:=r
 simp only at *
 have E:=zpt s l.length
 obtain ⟨y,D⟩:=nm9 (sizeR s l.length / 4-1)
 have U:y=(if s then 7 else 2)+6*(l.length:Int)-1:=by rw [D,E,Int.mul_ediv_cancel_left _ (by decide)]
 have L:0≤y∧y≤255:=by rw [U];split<;>omega
 have F:=zxy y L.1 L.2
 have R:∃ K:List Int,(⟨s,so,B,ti,A,oc,l⟩:Rpt).bytes++Q=(128+(l.length:Int))::(if s then 200 else 201)::0::y::(be 4 so++K)∧(Rpt.of ((⟨s,so,B,ti,A,oc,l⟩:Rpt).bytes++Q) s l.length=⟨s,so,B,ti,A,oc,l⟩):=by
  refine ⟨(if s then be 8 B++(be 4 ti++(be 4 A++be 4 oc)) else [])++(l.flatMap Bk.bytes++Q),?_,?_⟩
  · simp only [Rpt.bytes,Rpt.front,← D,F,List.append_assoc,List.cons_append,List.nil_append]
  · have V:=zps (⟨s,so,B,ti,A,oc,l⟩:Rpt).front Q l (frontLen s) (by
     unfold Rpt.front frontLen
     cases s<;>simp [zap]) N hf
    have G:(List.range l.length).map (fun i=>blockAt ((⟨s,so,B,ti,A,oc,l⟩:Rpt).bytes++Q) (frontLen s+24*i))=l:=by
     rw [show (⟨s,so,B,ti,A,oc,l⟩:Rpt).bytes++Q=(⟨s,so,B,ti,A,oc,l⟩:Rpt).front++(l.flatMap Bk.bytes++Q) by simp only [Rpt.bytes,List.append_assoc]]
     exact V
    have P:∀ K,fld ([128+(l.length:Int),(if s then 200 else 201)] ++ [0,y]++(be 4 so++K)) 4 4=so:=fun K=>by
     rw [zbm _ K 4 4 so rfl];omega
    cases s
    · have X:B=0∧ti=0∧A=0∧oc=0:=by
       refine Classical.byContradiction fun h=>hp ⟨rfl,h⟩
      obtain ⟨rfl,rfl,rfl,rfl⟩:=X
      unfold Rpt.of
      rw [G]
      have:=P (l.flatMap Bk.bytes++Q)
      have e:(⟨false,so,0,0,0,0,l⟩:Rpt).bytes++Q=[128+(l.length:Int),201] ++ [0,y]++(be 4 so++(l.flatMap Bk.bytes++Q)):=by
       simp only [Rpt.bytes,Rpt.front,← D,F,List.append_assoc,List.cons_append,List.nil_append,if_neg (show ¬(false=true) by decide)]
      simp only [Bool.false_eq_true,if_false] at this ⊢
      rw [e,this]
    · unfold Rpt.of
      rw [G]
      have e:(⟨true,so,B,ti,A,oc,l⟩:Rpt).bytes++Q=[128+(l.length:Int),200]++([0,y]++(be 4 so++(be 8 B++(be 4 ti++(be 4 A++(be 4 oc++(l.flatMap Bk.bytes++Q))))))):=by
       simp only [Rpt.bytes,Rpt.front,← D,F,List.append_assoc,List.cons_append,List.nil_append,if_true]
      have f1:=zbm ([128+(l.length:Int),200] ++ [0,y]) (be 8 B++(be 4 ti++(be 4 A++(be 4 oc++(l.flatMap Bk.bytes++Q))))) 4 4 so rfl
      have f2:=zbm ([128+(l.length:Int),200] ++ [0,y]++be 4 so) (be 4 ti++(be 4 A++(be 4 oc++(l.flatMap Bk.bytes++Q)))) 8 8 B (by simp [zap])
      have J:=zbm ([128+(l.length:Int),200] ++ [0,y]++be 4 so++be 8 B) (be 4 A++(be 4 oc++(l.flatMap Bk.bytes++Q))) 16 4 ti (by simp [zap])
      have f4:=zbm ([128+(l.length:Int),200] ++ [0,y]++be 4 so++be 8 B++be 4 ti) (be 4 oc++(l.flatMap Bk.bytes++Q)) 20 4 A (by simp [zap])
      have I:=zbm ([128+(l.length:Int),200] ++ [0,y]++be 4 so++be 8 B++be 4 ti++be 4 A) (l.flatMap Bk.bytes++Q) 24 4 oc (by simp [zap])
      simp only [List.append_assoc] at f1 f2 J f4 I
      simp only [if_true]
      rw [e,f1,f2,J,f4,I]
      have O:(256:Int) ^ 8=18446744073709551616:=by decide
      have h4:(256:Int) ^ 4=4294967296:=by decide
      rw [O,h4]
      congr 1<;>omega
 obtain ⟨K,C,T⟩:=R
 have H:((⟨s,so,B,ti,A,oc,l⟩:Rpt).bytes++Q).getD 0 0=128+(l.length:Int):=by rw [C];rfl
 have g1:((⟨s,so,B,ti,A,oc,l⟩:Rpt).bytes++Q).getD 1 0=if s then 200 else 201:=by rw [C];rfl
 have g2:((⟨s,so,B,ti,A,oc,l⟩:Rpt).bytes++Q).getD 2 0=0:=by rw [C];rfl
 have g3:((⟨s,so,B,ti,A,oc,l⟩:Rpt).bytes++Q).getD 3 0=y:=by rw [C];rfl
 have gl:((⟨s,so,B,ti,A,oc,l⟩:Rpt).bytes++Q).length=(if s then 28 else 8)+24*l.length+Q.length:=by rw [List.length_append,M]
 have gk:(((⟨s,so,B,ti,A,oc,l⟩:Rpt).bytes++Q).getD 1 0==200)=s:=by rw [g1];cases s<;>rfl
 have gm:(((⟨s,so,B,ti,A,oc,l⟩:Rpt).bytes++Q).getD 0 0 % 32).toNat=l.length:=by rw [H];omega
 unfold dec
 rw [gk,gm,T,H,g1,g2,g3,gl,M]
 rw [if_neg (by split<;>omega),if_neg (by omega),if_neg (by cases s<;>simp),if_neg (by omega),if_neg (by rw [E];cases s<;>simp<;>omega)]
 congr 1
 congr 1
 rw [E]
 cases s<;>simp<;>omega
end Rep
def rp1 (b:Rep.Bk):Rep.Rpt:=⟨false,8,0,0,0,0,[b]⟩
theorem zuf (h:b.ok):(rp1 b).ok:=⟨(⟨by decide,by decide⟩:(0:Int)≤8∧(8:Int)≤4294967295),(⟨by decide,by decide⟩:(0:Int)≤0∧(0:Int)≤18446744073709551615),(⟨by decide,by decide⟩:(0:Int)≤0∧(0:Int)≤4294967295),(⟨by decide,by decide⟩:(0:Int)≤0∧(0:Int)≤4294967295),(⟨by decide,by decide⟩:(0:Int)≤0∧(0:Int)≤4294967295),fun x hx=>by
 have:x=b:=by simpa [rp1] using hx
 rw [this];exact h⟩
theorem zjp (hf:b.fit):Rep.enc (rp1 b)=((rp1 b).bytes,0):=by
 unfold Rep.enc
 rw [if_neg (by simp [rp1]),if_neg (fun h=>h (fun x hx=>by
  have:x=b:=by simpa [rp1] using hx
  rw [this];exact hf)),if_neg (fun h=>h.2 ⟨rfl,rfl,rfl,rfl⟩)]
theorem repE (b:Rep.Bk) (h:b.ok) (hf:b.fit) (A:Option Addr) (C:Nat) (w:World) (hB:RowsAt w w.heap.size 7 Rep.Bk.cells A [b]):Calls Tryz.prog 18 #[.agg #[.bool false, .int .u32 8, .int .u64 0, .int .u32 0, .int .u32 0, .int .u32 0, .slice A 1 C]] w (RpEncR ((rp1 b).bytes,0) w):=by
 have B:=zpo 8 0 0 0 0 A [b] C w (by simp) (zuf h) hB
 have e:Rep.enc ⟨false,8,0,0,0,0,[b]⟩=((rp1 b).bytes,0):=zjp hf
 rw [e] at B
 exact B
theorem repD (b:Rep.Bk) (h:b.ok) (hf:b.fit) (A:Option Addr) (c n:Nat) (w:World) (hn:(rp1 b).bytes.length=n) (E:IntsAt w w.heap.size .u8 A (rp1 b).bytes):Calls Tryz.prog 19 #[.slice A n c] w (RpDecR (rp1 b,32,0) w):=by
 subst hn
 obtain ⟨bs,H⟩:=nm9 ((rp1 b).bytes)
 have hd:=Rep.dec_enc (rp1 b) [] (zuf h) (by rw [zjp hf])
 rw [zjp hf,List.append_nil] at hd
 have B:(rp1 b).bytes=[129,201,0,7,0,0,0,8]++b.bytes:=by
  unfold Rep.Rpt.bytes
  have D:(rp1 b).front=[129,201,0,7,0,0,0,8]:=by
   show ([128+(1:Int),201]++be 2 (Rep.sizeR false 1 / 4-1)++be 4 8 ++ []:List Int)=_
   decide
  rw [D]
  simp [rp1]
 have hl:(rp1 b).bytes.length=32:=by
  rw [Rep.bytes_len];rfl
 have hz:Within 0 255 (rp1 b).bytes:=by
  rw [B]
  intro z hz
  rcases List.mem_append.1 hz with hz|hz
  · simp at hz
    omega
  · unfold Rep.Bk.bytes at hz
    simp only [List.mem_append] at hz
    rcases hz with ((hz|hz)|hz)|(((hz|hz)|hz)|hz)<;>exact zhq _ _ z hz
 rw [← H] at hd B hl hz E ⊢
 have C:bs.getD 0 0=129:=by rw [B];rfl
 have g1:bs.getD 1 0=201:=by rw [B];rfl
 have g2:bs.getD 2 0=0:=by rw [B];rfl
 have g3:bs.getD 3 0=7:=by rw [B];rfl
 have F:=zij A bs c w E hz (by rw [hl];decide) 1 (by omega) (by rw [C];decide) (by rw [C];decide) g1 (by rw [g2,g3];decide) (by rw [hl];decide)
 have e:Rep.Rpt.of bs false 1=rp1 b:=by
  have hd:Rep.dec bs=(rp1 b,(bs.length:Int),0):=hd
  unfold Rep.dec at hd
  have D:(bs.getD 1 0==200)=false:=by rw [g1];rfl
  have G:(bs.getD 0 0 % 32).toNat=1:=by rw [C];rfl
  rw [if_neg (by omega),if_neg (by rw [C];decide),if_neg (by rw [g1];decide),D,G,if_neg (by rw [g2,g3];decide),if_neg (by rw [hl];decide)] at hd
  exact congrArg Prod.fst hd
 rw [e] at F
 exact F
structure PC (w:World) (p:Sb.Pt) (A:Option Addr) (l:List TW) (n c:Nat):Prop where
 wf:p.wf
 q:l.map TW.w=p.jt.q
 len:l.length=n
 n5:n≤100000
 cap:n≤c
 cm:c≤maxLen
 av:Wts w w.heap.size A l
 sq:∀ a∈l,I64 a.w.m.sq
 pay:∀ a∈l,a.w.m.pl.length≤1000000
theorem PC.later {c:Nat} (h:PC w p A l n c) (hb:Below w.heap.size w w'):PC w' p A l n c:=⟨h.wf,h.q,h.len,h.n5,h.cap,h.cm,h.av.later hb,h.sq,h.pay⟩
structure PD (w:World) (p:Sb.Pt) (A:Option Addr) (l:List TW) (n c:Nat):Prop where
 wf:p.wf
 q:l.map TW.w=p.jt.q
 len:l.length=n
 n5:n≤100000
 av:Wts w w.heap.size A l
 sq:∀ a∈l,I64 a.w.m.sq
 pay:∀ a∈l,a.w.m.pl.length≤1000000
theorem PC.pd {c:Nat} (h:PC w p A l n c):PD w p A l n c:=⟨h.wf,h.q,h.len,h.n5,h.av,h.sq,h.pay⟩
def PortR (q:Sb.Pt) (er:Int) (w:World) (e:Ending) (w':World):Prop :=
 ∃ (A':Option Addr) (n' c':Nat) (l':List TW),e = .returned (.tuple #[.agg (PA q A' n' c'), .int .u8 er])∧l'.map TW.w=q.jt.q∧l'.length=n'∧n'≤c'∧c'≤maxLen∧WtsIn w' w.heap.size w'.heap.size A' l'∧Below w.heap.size w w'
end
end Go.Proofs.YtbcgnddpkiemoaaGreat
