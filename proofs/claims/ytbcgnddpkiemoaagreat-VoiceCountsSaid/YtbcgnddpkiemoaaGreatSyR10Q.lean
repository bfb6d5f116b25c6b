/- The top of layer 32: say32: the region that converts. -/
import Derived.Test.YtbcgnddpkiemoaaGreatSs9Q
import Derived.Test.YtbcgnddpkiemoaaGreatVmTQ
import Derived.Test.YtbcgnddpkiemoaaGreatJtPnQ
import Derived.Great.BuildSlice
import Derived.Great.Ranges
import Derived.Test.YtbcgnddpkiemoaaGreatVoFunQ
import Derived.Test.YtbcgnddpkiemoaaGreatJtCopyQ
import Derived.Test.YtbcgnddpkiemoaaGreatJtValidQ
set_option linter.unusedVariables false
set_option linter.unusedSimpArgs false
set_option maxRecDepth 100000
set_option maxHeartbeats 12800000
namespace Go.Proofs.YtbcgnddpkiemoaaGreat
variable {s1 s2 s3 s5 s6 s7 s9 Jh Nv Hz Iq Ox Kc Kb Na Jo Nu Mz My Mw Mu Mt Ms Mr Mq Mp Mo Ns Nr Nq Np Mn Mm Ml Mk Mj Mi Ka Jz Jy Mh Mg Mf Me Mc Mb Ma Lz Ly Lx Lw Jg Nn Lv Lu Nm Nl Nk Nj Ni Lt Ls Lr Lq Lp Jn Lo Ln Lm Ll Lk Lj Li Lh Lg Lf Le Ld Lc Lb La Kz Ky Kx Kw Kv Ku Kt Ks Kr Kq Jf Jx Jw Je Jv Ju Ci Ch Cg Cf Ce Cq Dm Dl Dk Dj Di Dh Er Eq Ep Eo En Em El Ek Ej Ei Eh Eg Ef Ee Ed Ec Eb Ea Dz Dy Dx Dw Dv Du Dt Ds Dr Io In Il Ik Ij Ii Ih Ht Hs Hr Hq Hp Ho Hn Hl Hk Hj Hi Hh Hg Hf He Hd Hc Hb Ha Gz Gy Gx Gw Gv Gu Gt Gs Gr Gq Gp Gn Gm Gl Gk Gj Gi Gh Gg Gf Ge Gd Gc Gb Ga Fz Fy Fx Fw Fv Fu Fs Fq s4 s8 s0:Value} {W w V W' W'' W0 w1 W3 V' wr X:World} {gW gc g1 g2 base zc B gP kc gX n9 cn fn fc i sq c' gI x y:Nat} {v v1:VL} {ZA A KA A9 An FA fA A' A2:Option Addr} {a:TK} {k9:Sb.Pkt} {p u' q1 q2:Sb.Pt} {c t k2 bl bm n now count least most:Int} {k1:Ca} {pc:Pc} {fs:List Ft} {S0:List Nat} {P:List Sb.Pkt}
section
attribute [local go_sem ↓] zab zac
attribute [local go_sem] zaa zad
open Go.RowKit
noncomputable def sy10r_code:Code:=((Tryz.f34.body.bind (findRegS 10)).getD .skip)
theorem ztc {Q:Exit→Act→World→Prop} (gW gP gX:Nat) (c1 c2 v i:Int) (R:Option Addr) (U pc:Nat) (T:List Int) (s:Int×Int) (W:World) (x0:W.cell? ⟨gP,0,none⟩=some (.int .u8 c1)) (y:W.cell? ⟨gW,48,none⟩=some (.int .u8 c2)) (l:W.cell? ⟨gX,9,none⟩=some (.slice R U pc)) (g:W.cell? ⟨gW,106,none⟩=some (.int .i64 v)) (j:W.cell? ⟨gW,107,none⟩=some (.int .i64 i)) (N:∀ V:World,Below W.heap.size W V→Calls Tryz.prog 74 #[.int .u8 c1, .int .u8 c2, .slice R U pc, .agg #[.int .i64 v, .int .i64 i]] V (EncN c2 T s V)) (F:∀ (ch:_) (a:Act) (d:Tmp) (u:Value) (w:World),Q (.panic ch) (a.put (some d) u) w→Q (.panic ch) a w)
 (h:∀ (L:World) (A9:Option Addr) (c9 g8:Nat) (n o p t x JY M JX JU JT JS JR JQ JP JO JN JM JK:Value),Hid (c2=96→T.length≤c9)→Hid (IntsNew W.heap.size L .u8 A9 T)→Hid (Blk L g8 30 #[.int .i64 s.1, .int .i64 s.2])→W.heap.size≤g8→Hid (Below W.heap.size W L)→Q .normal ⟨#[.pointer (some ⟨gW,0,none⟩),s1,s2,s3, .pointer (some ⟨gP,0,none⟩),s5,s6,s7, .pointer (some ⟨gX,0,none⟩),s9, .slice A9 T.length c9, .pointer (some ⟨g8,0,none⟩), .int .u8 0,Iq,Ox,Kc,Kb,Na,Jo,Nu,Mz,My,Mw,Mu,Mt,Ms,Mr,Mq,Mp,Mo,Ns,Nr,Nq,Np,Mn,Mm,Ml,Mk,Mj,Mi,Ka,Jz,Jy,Mh,Mg,Mf,Me,Mc,Mb,Ma,Lz,Ly,Lx,Lw,Jg,Nn,Lv,Lu,n,o,p,t,x,JY,M,JX,JU,JT,JS,JR,JQ,JP,JO,JN,JM,JK,Lh,Lg,Lf,Le,Ld,Lc,Lb,La,Kz,Ky,Kx,Kw,Kv,Ku,Kt,Ks,Kr,Kq,Jf,Jx,Jw,Je,Jv,Ju,Ci,Ch,Cg,Cf,Ce,Cq,Dm,Dl,Dk,Dj,Di,Dh,Er,Eq,Ep,Eo,En,Em,El,Ek,Ej,Ei,Eh,Eg,Ef,Ee,Ed,Ec,Eb,Ea,Dz,Dy,Dx,Dw,Dv,Du,Dt,Ds,Dr,Io,In,Il,Ik,Ij,Ii,Ih,Ht,Hs,Hr,Hq,Hp,Ho,Hn,Hl,Hk,Hj,Hi,Hh,Hg,Hf,He,Hd,Hc,Hb,Ha,Gz,Gy,Gx,Gw,Gv,Gu,Gt,Gs,Gr,Gq,Gp,Gn,Gm,Gl,Gk,Gj,Gi,Gh,Gg,Gf,Ge,Gd,Gc,Gb,Ga,Fz,Fy,Fx,Fw,Fv,Fu,Fs,Fq],[]⟩ L):sy10r_code.wp Tryz.prog Q ⟨#[.pointer (some ⟨gW,0,none⟩),s1,s2,s3, .pointer (some ⟨gP,0,none⟩),s5,s6,s7, .pointer (some ⟨gX,0,none⟩),s9,Jh,Nv,Hz,Iq,Ox,Kc,Kb,Na,Jo,Nu,Mz,My,Mw,Mu,Mt,Ms,Mr,Mq,Mp,Mo,Ns,Nr,Nq,Np,Mn,Mm,Ml,Mk,Mj,Mi,Ka,Jz,Jy,Mh,Mg,Mf,Me,Mc,Mb,Ma,Lz,Ly,Lx,Lw,Jg,Nn,Lv,Lu,Nm,Nl,Nk,Nj,Ni,Lt,Ls,Lr,Lq,Lp,Jn,Lo,Ln,Lm,Ll,Lk,Lj,Li,Lh,Lg,Lf,Le,Ld,Lc,Lb,La,Kz,Ky,Kx,Kw,Kv,Ku,Kt,Ks,Kr,Kq,Jf,Jx,Jw,Je,Jv,Ju,Ci,Ch,Cg,Cf,Ce,Cq,Dm,Dl,Dk,Dj,Di,Dh,Er,Eq,Ep,Eo,En,Em,El,Ek,Ej,Ei,Eh,Eg,Ef,Ee,Ed,Ec,Eb,Ea,Dz,Dy,Dx,Dw,Dv,Du,Dt,Ds,Dr,Io,In,Il,Ik,Ij,Ii,Ih,Ht,Hs,Hr,Hq,Hp,Ho,Hn,Hl,Hk,Hj,Hi,Hh,Hg,Hf,He,Hd,Hc,Hb,Ha,Gz,Gy,Gx,Gw,Gv,Gu,Gt,Gs,Gr,Gq,Gp,Gn,Gm,Gl,Gk,Gj,Gi,Gh,Gg,Gf,Ge,Gd,Gc,Gb,Ga,Fz,Fy,Fx,Fw,Fv,Fu,Fs,Fq],[]⟩ W:=by
 obtain ⟨s1,s2⟩:=s
 replace N:=Z9 N
 have hq:=Z9 h
 clear h
 conv=>arg 2;whnf
 refine wp_region_held_drew (S:=fun w'=>Below W.heap.size W w') (by kernel_rfl) (Below.drew (Below.refl _ _)) (fun A => ?_)
 obtain ⟨X,G⟩:=nm9 W.drew
 rw [← G] at A ⊢
 clear G
 iterate 13
  refine tkM 22 (v:=?_) rfl rfl ?_ A ?_ (q9 F)
  rotate_left
  · (intro w I;have Tc:=zae I x0;have Uq:=zae I y;have Xs:=zae I l;have bT:=zae I g;have ED:=zae I j;clear I;go_simp;try with_reducible rfl)
  try simp only [ss9]
 all_goals try
  fail_if_success (have hx:=B)
  refine rd2 13 18 (by kernel_rfl) rfl rfl (fun K C=>?_) fun K C=>?_
  rotate_left
  go_simp
  have B:Hid (Blk (X.alloc (Obj.cells #[.int .i64 0, .int .i64 0] 30)) X.heap.size 30 ([.int .i64 0, .int .i64 0]).toArray):=Z9 (Blk.new _ _ _)
  have H:W.heap.size≤X.heap.size:=A.size
  obtain ⟨g8,E⟩:=nm9 X.heap.size
  refine C.out _ _ ?_ (fun A => ?_)
  · exact zaj A _
  clear C K
  try simp only [ss9]
  rw [← E] at B H ⊢
  have Py:=Z9 E
  clear E
  obtain ⟨Y,J⟩:=nm9 (X.alloc (Obj.cells #[.int .i64 0, .int .i64 0] 30))
  rw [← J] at B A ⊢
  clear J
  obtain ⟨X,G⟩:=nm9 Y
  subst G
 all_goals try
  refine rd1 13 (by kernel_rfl) rfl fun K C=>?_
 all_goals
  go_simp
  try have Ys:=Z9 B.out.lt
  refine (N.out _ A).mono ?_
  rintro e X ⟨A9,c9,rfl,b,Z,O⟩
  have D:=Z9 (Z.less (m:=W.heap.size) A.size)
  have Xy:=Z9 b
  clear Z b
  try replace B:=Z9 (B.out.later O)
  refine C.out _ _ ?_ (fun A => ?_)
  · exact zak O A
  clear C K O
  try simp only [ss9]
 all_goals
  refine tkB 14 rfl A ?_ (q9 F)
  try simp only [ss9]
  refine tkB 15 rfl A ?_ (q9 F)
  try simp only [ss9]
  refine tkB 16 rfl A ?_ (q9 F)
  try simp only [ss9]
  refine tkB 17 rfl A ?_ (q9 F)
  try simp only [ss9]
 all_goals try
  fail_if_success (have hx:=B)
  refine rd1 18 (by kernel_rfl) rfl fun K C=>?_
  go_simp
  have B:Hid (Blk (X.alloc (Obj.cells #[.int .i64 0, .int .i64 0] 30)) X.heap.size 30 ([.int .i64 0, .int .i64 0]).toArray):=Z9 (Blk.new _ _ _)
  have H:W.heap.size≤X.heap.size:=A.size
  obtain ⟨g8,E⟩:=nm9 X.heap.size
  replace D:=Z9 (D.out.push (Obj.cells #[.int .i64 0, .int .i64 0] 30))
  refine C.out _ _ ?_ (fun A => ?_)
  · exact zaj A _
  clear C K
  try simp only [ss9]
  rw [← E] at B H ⊢
  have Py:=Z9 E
  clear E
  obtain ⟨Y,J⟩:=nm9 (X.alloc (Obj.cells #[.int .i64 0, .int .i64 0] 30))
  rw [← J] at B A D ⊢
  clear J
  obtain ⟨X,G⟩:=nm9 Y
  subst G
 all_goals
  refine tkB 19 rfl A ?_ (q9 F)
  try simp only [ss9]
  refine rd1 20 (by kernel_rfl) rfl fun K C=>?_
  have P:=B.out.at 0 _ rfl
  have f:=B.out.at 1 _ rfl
  have c:=B.out.frozen
  go_simp
  have z1:=(B.out.set_ 0 (.int .i64 s1)).at 1 _ rfl
  replace D:=Z9 (⟨((D.out.1.set_ne P (by intro z e;cases e) (.int .i64 s1)).set_ne z1 (by intro z e;cases e) (.int .i64 s2)).more (by simp [World.setCell]),D.out.2⟩:IntsNew _ _ _ _ _)
  replace B:=Z9 ((B.out.set_ 0 (.int .i64 s1)).set_ 1 (.int .i64 s2))
  refine C.out _ _ ?_ (fun A => ?_)
  · exact zah (zah A H _) H _
  clear C K P f c z1
  try simp only [ss9]
  refine tkB 21 rfl A ?_ (q9 F)
  try simp only [ss9]
  refine wpAnyH_done (by kernel_rfl) ?_ _
  exact hq.out _ A9 c9 g8 _ _ _ _ _ _ _ _ _ _ _ _ _ _ _ _ _ _ Xy D B H (Z9 A)
noncomputable def sy11r_code:Code:=((Tryz.f34.body.bind (findRegS 11)).getD .skip)
theorem ztd {Q:Exit→Act→World→Prop} (gW gP gX:Nat) (c1 c2 v i:Int) (b:Option Addr) (f pc:Nat) (zs T:List Int) (s:Int×Int) (W:World) (x0:W.cell? ⟨gP,0,none⟩=some (.int .u8 c1)) (t:W.cell? ⟨gW,48,none⟩=some (.int .u8 c2)) (p:W.cell? ⟨gX,9,none⟩=some (.slice b f pc)) (n:W.cell? ⟨gW,108,none⟩=some (.int .i64 v)) (o:W.cell? ⟨gW,109,none⟩=some (.int .i64 i)) (U:∀ V:World,Below W.heap.size W V→Calls Tryz.prog 14 #[.int .u8 c1, .slice b f pc] V (Dec32R zs V)) (R:∀ (V:World) (A:Option Addr) (c:Nat),Below W.heap.size W V→IntsAt V V.heap.size .i16 A zs→Calls Tryz.prog 13 #[.int .u8 c2, .slice A zs.length c, .agg #[.int .i64 v, .int .i64 i]] V (Enc32R T s V)) (F:∀ (ch:_) (a:Act) (d:Tmp) (u:Value) (w:World),Q (.panic ch) (a.put (some d) u) w→Q (.panic ch) a w)
 (h:∀ (P:World) (A9:Option Addr) (c9 g8:Nat) (y JI JH JG JF JE JD JC JB JA IZ IY IX IW IV IU IT IS:Value),Hid (IntsNew W.heap.size P .u8 A9 T)→Hid (Blk P g8 30 #[.int .i64 s.1, .int .i64 s.2])→W.heap.size≤g8→Hid (Below W.heap.size W P)→Q .normal ⟨#[.pointer (some ⟨gW,0,none⟩),s1,s2,s3, .pointer (some ⟨gP,0,none⟩),s5,s6,s7, .pointer (some ⟨gX,0,none⟩),s9,Jh,Nv,Hz, .slice A9 T.length c9, .pointer (some ⟨g8,0,none⟩),Kc,Kb,Na,Jo,Nu,Mz,My,Mw,Mu,Mt,Ms,Mr,Mq,Mp,Mo,Ns,Nr,Nq,Np,Mn,Mm,Ml,Mk,Mj,Mi,Ka,Jz,Jy,Mh,Mg,Mf,Me,Mc,Mb,Ma,Lz,Ly,Lx,Lw,Jg,Nn,Lv,Lu,Nm,Nl,Nk,Nj,Ni,Lt,Ls,Lr,Lq,Lp,Jn,Lo,Ln,Lm,Ll,Lk,Lj,Li,y,JI,JH,JG,JF,JE,JD,JC,JB,JA,IZ,IY,IX,IW,IV,IU,IT,IS,Jf,Jx,Jw,Je,Jv,Ju,Ci,Ch,Cg,Cf,Ce,Cq,Dm,Dl,Dk,Dj,Di,Dh,Er,Eq,Ep,Eo,En,Em,El,Ek,Ej,Ei,Eh,Eg,Ef,Ee,Ed,Ec,Eb,Ea,Dz,Dy,Dx,Dw,Dv,Du,Dt,Ds,Dr,Io,In,Il,Ik,Ij,Ii,Ih,Ht,Hs,Hr,Hq,Hp,Ho,Hn,Hl,Hk,Hj,Hi,Hh,Hg,Hf,He,Hd,Hc,Hb,Ha,Gz,Gy,Gx,Gw,Gv,Gu,Gt,Gs,Gr,Gq,Gp,Gn,Gm,Gl,Gk,Gj,Gi,Gh,Gg,Gf,Ge,Gd,Gc,Gb,Ga,Fz,Fy,Fx,Fw,Fv,Fu,Fs,Fq],[]⟩ P):sy11r_code.wp Tryz.prog Q ⟨#[.pointer (some ⟨gW,0,none⟩),s1,s2,s3, .pointer (some ⟨gP,0,none⟩),s5,s6,s7, .pointer (some ⟨gX,0,none⟩),s9,Jh,Nv,Hz,Iq,Ox,Kc,Kb,Na,Jo,Nu,Mz,My,Mw,Mu,Mt,Ms,Mr,Mq,Mp,Mo,Ns,Nr,Nq,Np,Mn,Mm,Ml,Mk,Mj,Mi,Ka,Jz,Jy,Mh,Mg,Mf,Me,Mc,Mb,Ma,Lz,Ly,Lx,Lw,Jg,Nn,Lv,Lu,Nm,Nl,Nk,Nj,Ni,Lt,Ls,Lr,Lq,Lp,Jn,Lo,Ln,Lm,Ll,Lk,Lj,Li,Lh,Lg,Lf,Le,Ld,Lc,Lb,La,Kz,Ky,Kx,Kw,Kv,Ku,Kt,Ks,Kr,Kq,Jf,Jx,Jw,Je,Jv,Ju,Ci,Ch,Cg,Cf,Ce,Cq,Dm,Dl,Dk,Dj,Di,Dh,Er,Eq,Ep,Eo,En,Em,El,Ek,Ej,Ei,Eh,Eg,Ef,Ee,Ed,Ec,Eb,Ea,Dz,Dy,Dx,Dw,Dv,Du,Dt,Ds,Dr,Io,In,Il,Ik,Ij,Ii,Ih,Ht,Hs,Hr,Hq,Hp,Ho,Hn,Hl,Hk,Hj,Hi,Hh,Hg,Hf,He,Hd,Hc,Hb,Ha,Gz,Gy,Gx,Gw,Gv,Gu,Gt,Gs,Gr,Gq,Gp,Gn,Gm,Gl,Gk,Gj,Gi,Gh,Gg,Gf,Ge,Gd,Gc,Gb,Ga,Fz,Fy,Fx,Fw,Fv,Fu,Fs,Fq],[]⟩ W:=by
 obtain ⟨s1,s2⟩:=s
 replace U:=Z9 U
 replace R:=Z9 R
 have hq:=Z9 h
 clear h
 conv=>arg 2;whnf
 refine wp_region_held_drew (S:=fun w'=>Below W.heap.size W w') (by kernel_rfl) (Below.drew (Below.refl _ _)) (fun B => ?_)
 obtain ⟨X,H⟩:=nm9 W.drew
 rw [← H] at B ⊢
 clear H
 iterate 9
  refine tkM 21 (v:=?_) rfl rfl ?_ B ?_ (q9 F)
  rotate_left
  · (intro w J;have Tc:=zae J t;have Uq:=zae J x0;have Xs:=zae J p;clear J;go_simp;try with_reducible rfl)
  try simp only [ss9]
 refine tkB 10 rfl B ?_ (q9 F)
 try simp only [ss9]
 refine tkB 11 rfl B ?_ (q9 F)
 try simp only [ss9]
 refine tkB 12 rfl B ?_ (q9 F)
 try simp only [ss9]
 refine tkA 13 (v:=?_) rfl ?_ B ?_ (q9 F)
 rotate_left
 · (intro w J;have c0:=zae J n;have c1:=zae J o;clear J;go_simp;try with_reducible rfl)
 try simp only [ss9]
 all_goals try
  fail_if_success (have hx:=C)
  refine rd2 9 18 (by kernel_rfl) rfl rfl (fun K D=>?_) fun K D=>?_
  rotate_left
  go_simp
  have C:Hid (Blk (X.alloc (Obj.cells #[.int .i64 0, .int .i64 0] 30)) X.heap.size 30 ([.int .i64 0, .int .i64 0]).toArray):=Z9 (Blk.new _ _ _)
  have I:W.heap.size≤X.heap.size:=B.size
  obtain ⟨g8,E⟩:=nm9 X.heap.size
  refine D.out _ _ ?_ (fun B => ?_)
  · exact zaj B _
  clear D K
  try simp only [ss9]
  rw [← E] at C I ⊢
  have g:=Z9 E
  clear E
  obtain ⟨Y,G⟩:=nm9 (X.alloc (Obj.cells #[.int .i64 0, .int .i64 0] 30))
  rw [← G] at C B ⊢
  clear G
  obtain ⟨X,H⟩:=nm9 Y
  subst H
 all_goals try
  refine rd1 9 (by kernel_rfl) rfl fun K D=>?_
 all_goals
  go_simp
  try have x:=Z9 C.out.lt
  refine (U.out _ B).mono ?_
  rintro e X ⟨A7,c7,rfl,N,M⟩
  have O:=Z9 N.1
  clear N
  try replace C:=Z9 (C.out.later M)
  refine D.out _ _ ?_ (fun B => ?_)
  · exact zak M B
  clear D K M
  try simp only [ss9]
 all_goals try
  fail_if_success (have hx:=C)
  refine rd2 14 18 (by kernel_rfl) rfl rfl (fun K D=>?_) fun K D=>?_
  rotate_left
  go_simp
  have C:Hid (Blk (X.alloc (Obj.cells #[.int .i64 0, .int .i64 0] 30)) X.heap.size 30 ([.int .i64 0, .int .i64 0]).toArray):=Z9 (Blk.new _ _ _)
  have I:W.heap.size≤X.heap.size:=B.size
  obtain ⟨g8,E⟩:=nm9 X.heap.size
  replace O:=Z9 (O.out.push (Obj.cells #[.int .i64 0, .int .i64 0] 30))
  refine D.out _ _ ?_ (fun B => ?_)
  · exact zaj B _
  clear D K
  try simp only [ss9]
  rw [← E] at C I ⊢
  have g:=Z9 E
  clear E
  obtain ⟨Y,G⟩:=nm9 (X.alloc (Obj.cells #[.int .i64 0, .int .i64 0] 30))
  rw [← G] at C B O ⊢
  clear G
  obtain ⟨X,H⟩:=nm9 Y
  subst H
 all_goals try
  refine rd1 14 (by kernel_rfl) rfl fun K D=>?_
 all_goals
  go_simp
  try have x:=Z9 C.out.lt
  refine (R.out _ _ _ B O.out).mono ?_
  rintro e X ⟨A9,c9,rfl,Fg,N,M⟩
  have L:=Z9 (N.less (m:=W.heap.size) B.size)
  clear N Fg O
  try replace C:=Z9 (C.out.later M)
  refine D.out _ _ ?_ (fun B => ?_)
  · exact zak M B
  clear D K M
  try simp only [ss9]
 all_goals
  refine tkB 15 rfl B ?_ (q9 F)
  try simp only [ss9]
  refine tkB 16 rfl B ?_ (q9 F)
  try simp only [ss9]
  refine tkB 17 rfl B ?_ (q9 F)
  try simp only [ss9]
 all_goals try
  fail_if_success (have hx:=C)
  refine rd1 18 (by kernel_rfl) rfl fun K D=>?_
  go_simp
  have C:Hid (Blk (X.alloc (Obj.cells #[.int .i64 0, .int .i64 0] 30)) X.heap.size 30 ([.int .i64 0, .int .i64 0]).toArray):=Z9 (Blk.new _ _ _)
  have I:W.heap.size≤X.heap.size:=B.size
  obtain ⟨g8,E⟩:=nm9 X.heap.size
  replace L:=Z9 (L.out.push (Obj.cells #[.int .i64 0, .int .i64 0] 30))
  refine D.out _ _ ?_ (fun B => ?_)
  · exact zaj B _
  clear D K
  try simp only [ss9]
  rw [← E] at C I ⊢
  have g:=Z9 E
  clear E
  obtain ⟨Y,G⟩:=nm9 (X.alloc (Obj.cells #[.int .i64 0, .int .i64 0] 30))
  rw [← G] at C B L ⊢
  clear G
  obtain ⟨X,H⟩:=nm9 Y
  subst H
 all_goals
  refine tkB 19 rfl B ?_ (q9 F)
  try simp only [ss9]
  refine rd1 20 (by kernel_rfl) rfl fun K D=>?_
  have Z:=C.out.at 0 _ rfl
  have l:=C.out.at 1 _ rfl
  have j:=C.out.frozen
  go_simp
  have z1:=(C.out.set_ 0 (.int .i64 s1)).at 1 _ rfl
  replace L:=Z9 (⟨((L.out.1.set_ne Z (by intro z e;cases e) (.int .i64 s1)).set_ne z1 (by intro z e;cases e) (.int .i64 s2)).more (by simp [World.setCell]),L.out.2⟩:IntsNew _ _ _ _ _)
  replace C:=Z9 ((C.out.set_ 0 (.int .i64 s1)).set_ 1 (.int .i64 s2))
  refine D.out _ _ ?_ (fun B => ?_)
  · exact zah (zah B I _) I _
  clear D K Z l j z1
  try simp only [ss9]
  refine wpAnyH_done (by kernel_rfl) ?_ _
  exact hq.out _ A9 c9 g8 _ _ _ _ _ _ _ _ _ _ _ _ _ _ _ _ _ _ L C I (Z9 B)
noncomputable def sy13r_code:Code:=((Tryz.f34.body.bind (findRegS 13)).getD .skip)
theorem zte {Q:Exit→Act→World→Prop} {sa sb:Int×Int} (B:Blk W gW 86 (v.row gc).toArray) (I:Blk W g1 30 #[.int .i64 sa.1, .int .i64 sa.2]) (H:Blk W g2 30 #[.int .i64 sb.1, .int .i64 sb.2]) (n1:g1≠gW) (n2:g2≠gW)
 (M:∀ (ch:_) (a:Act) (d:Tmp) (u:Value) (w:World),Q (.panic ch) (a.put (some d) u) w→Q (.panic ch) a w)
 (h:∀ (R:World) (Y Z b c f g i j:Value),Blk R gW 86 (VL.row { v with st:=sa,ow:=sb } gc).toArray→OnlyB gW W.drew R→Q .normal ⟨#[.pointer (some ⟨gW,0,none⟩),s1,s2,s3,s4,s5,s6,s7,s8,s9,Jh, .pointer (some ⟨g1,0,none⟩),Hz,Iq, .pointer (some ⟨g2,0,none⟩),Kc,Kb,Na,Jo,Nu,Mz,My,Mw,Mu,Mt,Ms,Mr,Mq,Mp,Mo,Ns,Nr,Nq,Np,Mn,Mm,Ml,Mk,Mj,Mi,Ka,Jz,Jy,Mh,Mg,Mf,Me,Mc,Mb,Ma,Lz,Ly,Lx,Lw,Jg,Nn,Lv,Lu,Nm,Nl,Nk,Nj,Ni,Lt,Ls,Lr,Lq,Lp,Jn,Lo,Ln,Lm,Ll,Lk,Lj,Li,Lh,Lg,Lf,Le,Ld,Lc,Lb,La,Kz,Ky,Kx,Kw,Kv,Ku,Kt,Ks,Kr,Kq,Jf,Jx,Jw,Je,Jv,Ju,Ci,Ch,Cg,Cf,Ce,Cq,Dm,Dl,Dk,Dj,Di,Dh,Y,Z,b,c,f,g,i,j,Ej,Ei,Eh,Eg,Ef,Ee,Ed,Ec,Eb,Ea,Dz,Dy,Dx,Dw,Dv,Du,Dt,Ds,Dr,Io,In,Il,Ik,Ij,Ii,Ih,Ht,Hs,Hr,Hq,Hp,Ho,Hn,Hl,Hk,Hj,Hi,Hh,Hg,Hf,He,Hd,Hc,Hb,Ha,Gz,Gy,Gx,Gw,Gv,Gu,Gt,Gs,Gr,Gq,Gp,Gn,Gm,Gl,Gk,Gj,Gi,Gh,Gg,Gf,Ge,Gd,Gc,Gb,Ga,Fz,Fy,Fx,Fw,Fv,Fu,Fs,Fq],[]⟩ R):sy13r_code.wp Tryz.prog Q ⟨#[.pointer (some ⟨gW,0,none⟩),s1,s2,s3,s4,s5,s6,s7,s8,s9,Jh, .pointer (some ⟨g1,0,none⟩),Hz,Iq, .pointer (some ⟨g2,0,none⟩),Kc,Kb,Na,Jo,Nu,Mz,My,Mw,Mu,Mt,Ms,Mr,Mq,Mp,Mo,Ns,Nr,Nq,Np,Mn,Mm,Ml,Mk,Mj,Mi,Ka,Jz,Jy,Mh,Mg,Mf,Me,Mc,Mb,Ma,Lz,Ly,Lx,Lw,Jg,Nn,Lv,Lu,Nm,Nl,Nk,Nj,Ni,Lt,Ls,Lr,Lq,Lp,Jn,Lo,Ln,Lm,Ll,Lk,Lj,Li,Lh,Lg,Lf,Le,Ld,Lc,Lb,La,Kz,Ky,Kx,Kw,Kv,Ku,Kt,Ks,Kr,Kq,Jf,Jx,Jw,Je,Jv,Ju,Ci,Ch,Cg,Cf,Ce,Cq,Dm,Dl,Dk,Dj,Di,Dh,Er,Eq,Ep,Eo,En,Em,El,Ek,Ej,Ei,Eh,Eg,Ef,Ee,Ed,Ec,Eb,Ea,Dz,Dy,Dx,Dw,Dv,Du,Dt,Ds,Dr,Io,In,Il,Ik,Ij,Ii,Ih,Ht,Hs,Hr,Hq,Hp,Ho,Hn,Hl,Hk,Hj,Hi,Hh,Hg,Hf,He,Hd,Hc,Hb,Ha,Gz,Gy,Gx,Gw,Gv,Gu,Gt,Gs,Gr,Gq,Gp,Gn,Gm,Gl,Gk,Gj,Gi,Gh,Gg,Gf,Ge,Gd,Gc,Gb,Ga,Fz,Fy,Fx,Fw,Fv,Fu,Fs,Fq],[]⟩ W:=by
 obtain ⟨p1,N⟩:=sa
 obtain ⟨q1,q2⟩:=sb
 have hq:=Z9 h
 clear h
 conv=>arg 2;whnf
 refine wp_region_held_drew (S:=fun w'=>(w'.cell? ⟨g1,0,none⟩=some (.int .i64 p1)∧w'.cell? ⟨g1,1,none⟩=some (.int .i64 N))∧w'.cell? ⟨g2,0,none⟩=some (.int .i64 q1)∧w'.cell? ⟨g2,1,none⟩=some (.int .i64 q2)) (by kernel_rfl) ⟨⟨I.drew.at 0 _ rfl,I.drew.at 1 _ rfl⟩,H.drew.at 0 _ rfl,H.drew.at 1 _ rfl⟩ (fun G => ?_)
 replace B:=B.drew
 replace I:=I.drew
 replace H:=H.drew
 generalize W.drew=X at *
 have A:=Z9 B
 have F:=Z9 I
 have E:=Z9 H
 clear B I H
 iterate 2
  refine tkM 10 (v:=?_) rfl rfl ?_ G ?_ (q9 M)
  rotate_left
  · (intro w D;clear D;go_simp;try with_reducible rfl)
  try simp only [ss9]
 refine tkA 2 (v:=?_) rfl ?_ G ?_ (q9 M)
 rotate_left
 · (intro w D;obtain ⟨⟨c0,c1⟩,c2,c3⟩:=D;go_simp;try with_reducible rfl)
 try simp only [ss9]
 refine tkA 3 (v:=?_) rfl ?_ G ?_ (q9 M)
 rotate_left
 · (intro w D;obtain ⟨⟨c0,c1⟩,c2,c3⟩:=D;go_simp;try with_reducible rfl)
 try simp only [ss9]
 iterate 2
  refine tkM 10 (v:=?_) rfl rfl ?_ G ?_ (q9 M)
  rotate_left
  · (intro w D;clear D;go_simp;try with_reducible rfl)
  try simp only [ss9]
 refine rd1 6 (by kernel_rfl) rfl fun K J=>?_
 have P:=A.out.at 106 _ rfl
 have O:=A.out.at 107 _ rfl
 have T:=A.out.frozen
 go_simp
 obtain ⟨Y1,C⟩:=nm9 ((X.setCell ⟨gW,106,none⟩ (.int .i64 p1)).setCell ⟨gW,107,none⟩ (.int .i64 N))
 have U:OnlyB gW X Y1:=by rw [C];exact (OnlyB.setCell _ _ _ _).trans (OnlyB.setCell _ _ _ _)
 have L:Blk Y1 gW 86 (VL.row ({ v with st:=(p1,N) }) gc).toArray:=by rw [C];exact (A.out.set_ 106 _).set_ 107 _
 rw [← C]
 replace A:=Z9 L
 replace F:=Z9 (U.blk F.out n1)
 replace E:=Z9 (U.blk E.out n2)
 clear C L P O T
 refine J.out _ _ ⟨⟨F.out.at 0 _ rfl,F.out.at 1 _ rfl⟩,E.out.at 0 _ rfl,E.out.at 1 _ rfl⟩ (fun G => ?_)
 clear J K
 try simp only [ss9]
 iterate 2
  refine tkM 10 (v:=?_) rfl rfl ?_ G ?_ (q9 M)
  rotate_left
  · (intro w D;clear D;go_simp;try with_reducible rfl)
  try simp only [ss9]
 refine rd1 9 (by kernel_rfl) rfl fun K J=>?_
 have P:=A.out.at 108 _ rfl
 have O:=A.out.at 109 _ rfl
 have T:=A.out.frozen
 go_simp
 obtain ⟨Y2,C⟩:=nm9 ((Y1.setCell ⟨gW,108,none⟩ (.int .i64 q1)).setCell ⟨gW,109,none⟩ (.int .i64 q2))
 have V:OnlyB gW Y1 Y2:=by rw [C];exact (OnlyB.setCell _ _ _ _).trans (OnlyB.setCell _ _ _ _)
 have L:Blk Y2 gW 86 (VL.row ({ v with st:=(p1,N),ow:=(q1,q2) }) gc).toArray:=by rw [C];exact (A.out.set_ 108 _).set_ 109 _
 rw [← C]
 replace A:=Z9 L
 replace F:=Z9 (V.blk F.out n1)
 replace E:=Z9 (V.blk E.out n2)
 clear C L P O T
 refine J.out _ _ ⟨⟨F.out.at 0 _ rfl,F.out.at 1 _ rfl⟩,E.out.at 0 _ rfl,E.out.at 1 _ rfl⟩ (fun G => ?_)
 clear J K
 try simp only [ss9]
 refine wpAnyH_done (by kernel_rfl) ?_ _
 exact hq.out _ _ _ _ _ _ _ _ _ A.out (U.trans V)
noncomputable def sy4_code:Code:=((Tryz.f34.body.bind (fromReg 4)).getD .skip)
theorem zwh {S:List Nat} {k:Ca} {zs:List Int} {R:Ending→World→Prop} (M:SyM W S base gW gc v k) (h1:v.p.p.valid=true) (h2:v.p.p.wf) (h3:v.p.p.jt.q=[]) (h4:v.p.p.tn.on=false) (h5:v.p.p.tn.ends=0) (hn:v.p.n=0) (hc:v.p.c≤maxLen) (I:(Sb.send0 v.p.p zs).1.jt.q=[]) (Fk:(Sb.send0 v.p.p zs).2.length≤1) (Y:IntsAt W W.heap.size .i16 ZA zs) (zl:zs.length=160) (zb:Within (-32768) 32767 zs)
 (h:∀ (W':World) (a:Act) (gP:Nat) (A1:Option Addr) (c1:Nat) (KA:Option Addr) (kc:Nat) (ks:List TK),SyM W' S base gW gc { v with p:=⟨(Sb.send0 v.p.p zs).1,A1,0,c1,[]⟩ } k→c1≤maxLen→Blk W' gP 45 (PL (Sb.send0 v.p.p zs).1 A1 0 c1).toArray→W.heap.size≤gP→ks.map TK.k=(Sb.send0 v.p.p zs).2→PkAv W' S KA ks→(∀ a∈ks,a.k.ty=96→a.k.pl.length≤a.c)→Chg [gW] W W'→Fr 198 [(0, .pointer (some ⟨gW,0,none⟩)),(4, .pointer (some ⟨gP,0,none⟩)),(5, .slice KA ks.length kc)] a→firstWp Tryz.prog sy4_code (bodyPost Tryz.prog Tryz.f34 R) a W') :
 Calls Tryz.prog 34 #[.pointer (some ⟨gW,0,none⟩), .slice ZA 160 zc] W R:=by
 obtain ⟨q,J⟩:=nm9 ((Sb.send0 v.p.p zs).1)
 obtain ⟨ps,N⟩:=nm9 ((Sb.send0 v.p.p zs).2)
 have E:=Z9 fun (V:World) u=>zts (w:=V) (p:=v.p.p) (A:=v.p.A) (l:=[]) (n:=v.p.n) (c:=v.p.c) (ZA:=ZA) (zs:=zs) (zc:=zc) (X:=PA v.p.p v.p.A v.p.n v.p.c) ⟨h2,h3.symm,hn.symm,by omega,by omega,hc,⟨fun h0=>absurd h0 (by simp),fun _ h=>by cases h⟩,(fun _ h=>by cases h),(fun _ h=>by cases h),u,zb,zl,h1⟩ rfl h4 h5
 unfold SendR at E
 rw [← J] at I
 rw [← N] at Fk
 rw [← J,← N] at E h
 have R7:=Z9 I
 have T:=M.ca.lt
 have z:=M.gS
 have HZ:=Z9 Y
 have Ax:=M.low
 have X:=M
 replace h:=Z9 h
 clear J N I h1 h2 h3 h4 h5 hn hc Y M zl zb
 go_enter Tryz.func34,Tryz.ntmps34
 go_wp2_with (first|(refine zaf rfl 45 (.tmp 22) rfl gW 0 rfl 86 (v.row gc) X.blk 48 _ Tryz.underlying45 zai (show 0+48≤111 by decide) (PA v.p.p v.p.A v.p.n v.p.c) (by rfl) rfl ?_)|fail)
 refine (E.out _ HZ.out).mono ?_
 rintro e w2 ⟨A',n',c',l',KA,kc,ks,rfl,hk,i,Jq,Cy,Iz,t,K,H,L,Z⟩
 obtain rfl:l'=[]:=List.map_eq_nil_iff.1 (i.trans R7.out)
 obtain rfl:0=n':=Jq
 have P:=H.size
 have B:=Z9 (Chg.of_below (S:=[gW]) H)
 replace X:=X.later H
 have D:Hid (PkAv w2 S KA ks):=Z9 ⟨⟨K.1,fun h0 b off e hb=>by have h1:=L.1 h0 b off e;have h2:=T b hb;omega⟩,fun a U=>⟨K.2 a U,fun h0 b off e hb=>by have h1:=L.2 a U h0 b off e;have h2:=T b hb;omega⟩⟩
 have HK:=Z9 hk
 have NP:ks.length≤1:=by have y:=congrArg List.length hk;simp at y;omega
 have Q:=Z9 Z
 clear H t i Cy E K L hk Z
 have f:=(Below.refl w2.heap.size w2).alloc (Nat.le_refl _) (Obj.cells (PA Sb.Pt.zero none 0 0) 45)
 have j:Blk (w2.alloc (Obj.cells (PA Sb.Pt.zero none 0 0) 45)) w2.heap.size 45 (PL Sb.Pt.zero none 0 0).toArray:=Blk.new _ _ _
 have d7:¬(1:Int)<(ks.length:Int):=by omega
 go_upto_region 1 with (first|(refine zag rfl 45 (.tmp 4) (.tmp 26) rfl (w2.heap.size) 0 rfl 45 (PL Sb.Pt.zero none 0 0) j (PL q A' 0 c') rfl zai (show 0+48≤48 by decide) rfl (PL q A' 0 c') rfl ?_;intro WB G d)|fail)
 have F:=d.below f (by simp) (Nat.le_refl _)
 replace X:=X.later F
 replace D:=Z9 (D.out.later F)
 replace B:=Z9 (B.out.trans (Chg.of_below F))
 obtain ⟨g3,g⟩:=nm9 w2.heap.size
 rw [← g] at G P ⊢
 clear g d j F f
 have o:g3≠gW:=by omega
 go_upto_region 3 with fail
 go_upto_region 4 with (first|(refine zaf rfl 45 (.tmp 4) rfl g3 0 rfl 45 (PL q A' 0 c') G 48 _ Tryz.underlying45 zai (show 0+48≤48 by decide) (PA q A' 0 c') (by rfl) rfl ?_)|(refine zag rfl 45 (.tmp 42) (.tmp 40) rfl gW 0 rfl 86 (v.row gc) X.blk (PL q A' 0 c') rfl zai (show 0+48≤111 by decide) rfl (VL.row { v with p:=⟨q,A',0,c',[]⟩ } gc) rfl ?_;intro WF m C)|fail)
 have X2:SyM WF S base gW gc { v with p:=⟨q,A',0,c',[]⟩ } k:=X.setW C m
 replace D:=Z9 (D.out.chg (Chg.of_only C (S:=[gW]) (by simp)) (by intro x hx;simp at hx;rw [hx];exact z))
 replace B:=Z9 (B.out.trans (Chg.of_only C (by simp)))
 have O:=C.blk G o
 clear m C G X
 refine zao (by assumption) ?_
 exact h.out _ _ g3 A' c' KA kc ks X2 Iz O P HK.out D.out Q.out B.out (Fr.mk rfl ⟨rfl,rfl,rfl,trivial⟩)
noncomputable def sy7_code:Code:=(((findB 1 (Tryz.f34.body.getD .skip)).bind (fromReg 7)).getD .skip)
noncomputable def syT_code:Code:=(((findB 1 (Tryz.f34.body.getD .skip)).bind (findT 10)).getD .skip)
noncomputable def sy13_code:Code:=((((findB 1 (Tryz.f34.body.getD .skip)).bind (findT 10)).bind (fromReg 13)).getD .skip)
noncomputable def sy15_code:Code:=((((findB 1 (Tryz.f34.body.getD .skip)).bind (findT 10)).bind (fromReg 15)).getD .skip)
noncomputable def sy17_code:Code:=(((findB 1 (Tryz.f34.body.getD .skip)).bind (fromReg 17)).getD .skip)
theorem zxz {l:List TK} (h:RowsAt w B 11 TK.row A l) {k:Nat} (C:l[k]? = some a):∃ b off,A=some ⟨b,off,none⟩∧b<B∧∀ j v,(pktRow a.k a.B a.c)[j]? = some v→w.cell? ⟨b,off+k*11+j,none⟩=some v:=by
 obtain ⟨b,off,e,hb,hc⟩:=h (by have:=(List.getElem?_eq_some_iff.1 C).1;omega)
 exact ⟨b,off,e,hb,fun j v hv=>hc k a C j v hv⟩
theorem zya {S:List Nat} {k:Ca} {Q:Exit→Act→World→Prop} (M:SyM W S base gW gc v k) (K:Blk W gP 45 v.p.row.toArray) (N:PkAv W S KA [a])
 (h1:a.k.ty=v.p.p.codec→∀ (W':World) (E:Act) (gX:Nat),SyM W' (gX::S) base gW gc v k→Blk W' gP 45 v.p.row.toArray→Blk W' gX 112 (pktRow a.k a.B a.c).toArray→gX∉S→gX≠gP→IntsAv W' (gX::S) .u8 a.B a.k.pl→Mv [] S W (gX::S) W'→Fr 198 [(8, .pointer (some ⟨gX,0,none⟩)),(0, .pointer (some ⟨gW,0,none⟩)),(4, .pointer (some ⟨gP,0,none⟩)),(5, .slice KA 1 kc),(7, .int .i64 0)] E→firstWp Tryz.prog syT_code (Exit.then (sy17_code.wp Tryz.prog Q) Q) E W')
 (h2:¬a.k.ty=v.p.p.codec→∀ (W':World) (E:Act) (gX:Nat),SyM W' (gX::S) base gW gc v k→Blk W' gP 45 v.p.row.toArray→Blk W' gX 112 (pktRow a.k a.B a.c).toArray→gX∉S→gX≠gP→IntsAv W' (gX::S) .u8 a.B a.k.pl→Mv [] S W (gX::S) W'→Fr 198 [(8, .pointer (some ⟨gX,0,none⟩)),(9, .slice none 0 0),(0, .pointer (some ⟨gW,0,none⟩)),(4, .pointer (some ⟨gP,0,none⟩)),(5, .slice KA 1 kc),(7, .int .i64 0)] E→firstWp Tryz.prog sy17_code Q E W')
 (E:Act) (ha:Fr 198 [(0, .pointer (some ⟨gW,0,none⟩)),(4, .pointer (some ⟨gP,0,none⟩)),(5, .slice KA 1 kc),(7, .int .i64 0)] E):firstWp Tryz.prog sy7_code Q E W:=by
 obtain ⟨s,rfl,Ak⟩:=ha
 simp only [rl9]
 obtain ⟨u,t,o,n,_⟩:=Ak
 rw [u,t,o,n]
 obtain ⟨D,C,rfl,hbK,A⟩:=zxz (k:=0) (a:=a) N.1.1 rfl
 have x0:W.cell? ⟨D,C+0*11+0,none⟩=some (.bool a.k.mrk):=A 0 _ rfl
 have x1:W.cell? ⟨D,C+0*11+1,none⟩=some (.int .u8 a.k.ty):=A 1 _ rfl
 have j:W.cell? ⟨D,C+0*11+2,none⟩=some (.int .u16 a.k.sq):=A 2 _ rfl
 have i:W.cell? ⟨D,C+0*11+3,none⟩=some (.int .u32 a.k.ti):=A 3 _ rfl
 have h:W.cell? ⟨D,C+0*11+4,none⟩=some (.int .u32 a.k.src):=A 4 _ rfl
 have f:W.cell? ⟨D,C+0*11+5,none⟩=some (.slice none 0 0):=A 5 _ rfl
 have d:W.cell? ⟨D,C+0*11+6,none⟩=some (.bool false):=A 6 _ rfl
 have b:W.cell? ⟨D,C+0*11+7,none⟩=some (.int .u16 0):=A 7 _ rfl
 have Z:W.cell? ⟨D,C+0*11+8,none⟩=some (.slice none 0 0):=A 8 _ rfl
 have Y:W.cell? ⟨D,C+0*11+9,none⟩=some (.slice a.B a.k.pl.length a.c):=A 9 _ rfl
 have x:W.cell? ⟨D,C+0*11+10,none⟩=some (.int .i64 0):=A 10 _ rfl
 have y0:=K.at 0 (.int .u8 v.p.p.codec) rfl
 have y:=N.2 a (by simp)
 have l8:=K.lt
 have H:=(Below.refl W.heap.size W).alloc (Nat.le_refl _) (Obj.cells (pktRow a.k a.B a.c).toArray 112)
 have F:=Blk.new W 112 (pktRow a.k a.B a.c).toArray
 have w:=M.add H (g:=W.heap.size) (Nat.le_refl _) F.lt
 have m:W.heap.size∉S:=fun hx=>by have:=M.ca.lt _ hx;omega
 have z:W.heap.size≠gP:=by omega
 have hm:=Mv.add (S:=S) H (g:=W.heap.size) (Nat.le_refl _) F.lt
 have l:=hm.ints y
 have O:=K.later H
 have z0:(W.alloc (Obj.cells (pktRow a.k a.B a.c).toArray 112)).cell? ⟨gP,0,none⟩=some (.int .u8 v.p.p.codec):=O.at 0 _ rfl
 have z1:(W.alloc (Obj.cells (pktRow a.k a.B a.c).toArray 112)).cell? ⟨W.heap.size,1,none⟩=some (.int .u8 a.k.ty):=F.at 1 _ rfl
 have V:=Z9 w
 have L:=Z9 O
 have X:=Z9 F
 have R:=Z9 l
 have T:=Z9 m
 have P:=Z9 z
 have U:=Z9 hm
 replace h1:=Z9 h1
 replace h2:=Z9 h2
 clear A N y H F w m z l O K M u t o n hm
 refine zas ?_
 intro _ _
 simp only [Nat.zero_mul,Nat.add_zero] at x0 x1 j i h f d b Z Y x
 go_upto_region 8 with fail
 change Code.wp _ _ _ _ (W.alloc (Obj.cells (pktRow a.k a.B a.c).toArray 112))
 obtain ⟨W2,I⟩:=nm9 (W.alloc (Obj.cells (pktRow a.k a.B a.c).toArray 112))
 obtain ⟨gX,G⟩:=nm9 W.heap.size
 rw [← I,← G] at V X R U z1
 rw [← I] at L z0
 rw [← G] at T P
 rw [← I,← G]
 clear I G y0 x0 x1 j i h f d b Z Y x
 by_cases J:a.k.ty=v.p.p.codec
 · rw [J] at z1
   go_upto_region 10 with fail
   refine zba (by assumption) (by assumption) ?_
   exact h1.out J _ _ gX V.out L.out X.out T.out P.out R.out U.out (Fr.mk rfl ⟨rfl,rfl,rfl,rfl,rfl,trivial⟩)
 · have hd:decide (a.k.ty=v.p.p.codec)=false:=decide_eq_false J
   go_upto_region 17 with fail
   refine zao (by assumption) ?_
   exact h2.out J _ _ gX V.out L.out X.out T.out P.out R.out U.out (Fr.mk rfl ⟨rfl,rfl,rfl,rfl,rfl,rfl,trivial⟩)
theorem zyb {S:List Nat} {k:Ca} {Q:Exit→Act→World→Prop} (M:SyM W (gX::S) base gW gc v k) (R:Blk W gP 45 v.p.row.toArray) (P:Blk W gX 112 (pktRow a.k a.B a.c).toArray) (nW:gX≠gW) (T zs:List Int) (s9:Int×Int) (Bf:v.ow=v.st)
 (I:∀ V:World,Below W.heap.size W V→Calls Tryz.prog 74 #[.int .u8 v.p.p.codec, .int .u8 v.u.p.codec, .slice a.B a.k.pl.length a.c, .agg #[.int .i64 v.st.1, .int .i64 v.st.2]] V (EncN v.u.p.codec T s9 V))
 (K:∀ V:World,Below W.heap.size W V→Calls Tryz.prog 14 #[.int .u8 v.p.p.codec, .slice a.B a.k.pl.length a.c] V (Dec32R zs V))
 (J:∀ (V:World) (A:Option Addr) (c:Nat),IntsAt V V.heap.size .i16 A zs→Calls Tryz.prog 13 #[.int .u8 v.u.p.codec, .slice A zs.length c, .agg #[.int .i64 v.st.1, .int .i64 v.st.2]] V (Enc32R T s9 V))
 (Af:∀ (ch:_) (a:Act) (d:Tmp) (u:Value) (w:World),Q (.panic ch) (a.put (some d) u) w→Q (.panic ch) a w)
 (h:∀ (W':World) (H:Act) (A9:Option Addr) (c9 g1 g2:Nat),SyM W' (gX::S) base gW gc v k→Blk W' gX 112 (pktRow a.k a.B a.c).toArray→Blk W' g1 30 #[.int .i64 s9.1, .int .i64 s9.2]→Blk W' g2 30 #[.int .i64 s9.1, .int .i64 s9.2]→W.heap.size≤g1→W.heap.size≤g2→IntsAv W' (gX::S) .u8 A9 T→(v.u.p.codec=96→T.length≤c9)→Chg [gW] W W'→Fr 198 [(8, .pointer (some ⟨gX,0,none⟩)),(10, .slice A9 T.length c9),(11, .pointer (some ⟨g1,0,none⟩)),(14, .pointer (some ⟨g2,0,none⟩)),(0, .pointer (some ⟨gW,0,none⟩)),(4, .pointer (some ⟨gP,0,none⟩)),(5, .slice KA 1 kc),(7, .int .i64 0)] H→firstWp Tryz.prog sy13_code Q H W')
 (H:Act) (ha:Fr 198 [(8, .pointer (some ⟨gX,0,none⟩)),(0, .pointer (some ⟨gW,0,none⟩)),(4, .pointer (some ⟨gP,0,none⟩)),(5, .slice KA 1 kc),(7, .int .i64 0)] H):firstWp Tryz.prog syT_code Q H W:=by
 obtain ⟨s,rfl,Ak⟩:=ha
 simp only [rl9]
 obtain ⟨z,e0,e4,e5,e7,_⟩:=Ak
 rw [z,e0,e4,e5,e7]
 have x0:=R.at 0 (.int .u8 v.p.p.codec) rfl
 have t:=M.blk.at 48 (.int .u8 v.u.p.codec) rfl
 have i:=P.at 9 (.slice a.B a.k.pl.length a.c) rfl
 have f:=M.blk.at 106 (.int .i64 v.st.1) rfl
 have g:=M.blk.at 107 (.int .i64 v.st.2) rfl
 have Yl:=M.low
 have tL:=M.ca.lt
 have HM:=Z9 M
 have Co:=Z9 P
 have l:=Z9 R
 replace I:=Z9 I
 replace K:=Z9 K
 replace J:=Z9 J
 replace h:=Z9 h
 have Hw:=Z9 Bf
 clear M P R Bf e0 e4 e5 e7 z
 refine zas ?_
 intro _ _
 go_upto_region 10 with fail
 refine ztc gW gP gX v.p.p.codec v.u.p.codec v.st.1 v.st.2 a.B a.k.pl.length a.c T s9 W x0 t i f g I.out ?_ ?_
 · intro ch a d u w h;exact Af ch a d u w h
 intro W1 A9 c9 g1 lS lR lQ lP lO JY u64 JX JU JT JS JR JQ JP JO JN JM JK Fg y Pr Iu C
 have Xy:=Z9 Fg.out
 have G:=HM.out.later C.out
 have L:=Co.out.later C.out
 have VH:=l.out.later C.out
 have Z:=VH.at 0 (.int .u8 v.p.p.codec) rfl
 have j:=G.blk.at 48 (.int .u8 v.u.p.codec) rfl
 have Y:=L.at 9 (.slice a.B a.k.pl.length a.c) rfl
 have U:W1.cell? ⟨gW,108,none⟩=some (.int .i64 v.st.1):=by rw [← Hw.out];exact G.blk.at 108 _ rfl
 have X:W1.cell? ⟨gW,109,none⟩=some (.int .i64 v.st.2):=by rw [← Hw.out];exact G.blk.at 109 _ rfl
 have Re:=Z9 G
 have Ya:=Z9 L
 clear G L VH x0 t i f g Fg HM Co l
 go_upto_region 11 with fail
 refine ztd gW gP gX v.p.p.codec v.u.p.codec v.st.1 v.st.2 a.B a.k.pl.length a.c zs T s9 W1 Z j Y U X (fun V hV=>K.out V (C.out.trans (hV.mono C.out.size))) (fun V A c _ hA=>J.out V A c hA) ?_ ?_
 · intro ch a d u w h;exact Af ch a d u w h
 intro W2 A10 Hv g2 JJ JI JH JG JF JE JD JC JB JA IZ IY IX IW IV IU IT IS o Fi Fa D
 have F:=Re.out.later D.out
 have Yw:=F.blk.at 110 (.bool false) rfl
 have Ob:=F.blk.frozen 110
 have l6:=F.low
 have N:=y.out.later D.out
 have jF:=zcg N.1 69 9 5 Tryz.underlying69 Tryz.underlying5 Tryz.underlying9 _ c9 rfl
 have Jp:=zcg o.out.1 69 9 5 Tryz.underlying69 Tryz.underlying5 Tryz.underlying9 _ Hv rfl
 have O:=Z9 F
 have n:=Z9 N
 have Aw:=Z9 (Pr.out.later D.out)
 have Qr:=Z9 (Ya.out.later D.out)
 have Ib:=C.out.size
 have iU:=Z9 (Chg.of_below (S:=[gW]) (C.out.trans (D.out.mono Ib)))
 clear F N Z j Y U X Re Ya y o Pr I K J C D
 go_upto_region 13 with fail
 refine zao (by assumption) ?_
 have E:OnlyB gW W2 (W2.setCell ⟨gW,110,none⟩ (.bool false)):=OnlyB.setCell _ _ _ _
 have m:Chg [gW] W2 (W2.setCell ⟨gW,110,none⟩ (.bool false)):=Chg.of_only E (by simp)
 have zN:=O.out.gS
 have Pa:g1≠gW:=by omega
 have Cc:g2≠gW:=by omega
 refine h.out _ _ A9 c9 g1 g2 (O.out.setW E (O.out.blk.set_ 110 _)) (E.blk Qr.out nW) (E.blk Aw.out Pa) (E.blk Fi.out Cc) Iu (Nat.le_trans Ib Fa) ?_ Xy.out (iU.out.trans m) (Fr.mk rfl ⟨rfl,rfl,rfl,rfl,rfl,rfl,rfl,rfl,trivial⟩)
 have I9:IntsAv W2 (gX::S) .u8 A9 T:=⟨n.out.1,fun h0 b off e hx=>by have:=n.out.2 h0 b off e;have:=tL b hx;omega⟩
 exact I9.chg m (by intro x hx;simp at hx;rw [hx];exact zN)
def SyN (gX gW gc:Nat) (pA sA:Option Addr):Prop:=gX≠gW∧gX≠gc∧ownB pA≠some gX∧ownB sA≠some gX
theorem zwi {S:List Nat} {k:Ca} {Q:Exit→Act→World→Prop} (M:SyM W (gX::S) base gW gc v k) (N:SyN gX gW gc k.pA v.sA) (j:Blk W gX 112 (pktRow a.k a.B a.c).toArray) {T:List Int} {s9:Int×Int} {c9:Nat} (m:Blk W g1 30 #[.int .i64 s9.1, .int .i64 s9.2]) (l:Blk W g2 30 #[.int .i64 s9.1, .int .i64 s9.2]) (n1:g1≠gW) (n2:g2≠gW) (L:IntsAv W (gX::S) .u8 A9 T)
 (Af:∀ (ch:_) (a:Act) (d:Tmp) (u:Value) (w:World),Q (.panic ch) (a.put (some d) u) w→Q (.panic ch) a w)
 (h:∀ (W':World) (C:Act),SyM W' (gX::S) base gW gc { v with st:=s9,ow:=s9 } k→Blk W' gX 112 (pktRow { a.k with ty:=v.u.p.codec,pl:=T } A9 c9).toArray→IntsAv W' (gX::S) .u8 A9 T→Chg [gW,gX] W W'→Fr 198 [(8, .pointer (some ⟨gX,0,none⟩)),(10, .slice A9 T.length c9),(0, .pointer (some ⟨gW,0,none⟩)),(4, .pointer (some ⟨gP,0,none⟩)),(5, .slice KA 1 kc),(7, .int .i64 0)] C→firstWp Tryz.prog sy15_code Q C W')
 (C:Act) (z:Fr 198 [(8, .pointer (some ⟨gX,0,none⟩)),(10, .slice A9 T.length c9),(11, .pointer (some ⟨g1,0,none⟩)),(14, .pointer (some ⟨g2,0,none⟩)),(0, .pointer (some ⟨gW,0,none⟩)),(4, .pointer (some ⟨gP,0,none⟩)),(5, .slice KA 1 kc),(7, .int .i64 0)] C):firstWp Tryz.prog sy13_code Q C W:=by
 obtain ⟨s,rfl,Ak⟩:=z
 simp only [rl9]
 obtain ⟨O,b,f,J,V,U,R,P,_⟩:=Ak
 rw [O,b,f,J,V,U,R,P]
 obtain ⟨K,y,t,o⟩:=N
 have X:=M.later (Below.drew (Below.refl _ _))
 have G:=Z9 X
 have g:=Z9 j
 have Z:=Z9 L
 have n:=Z9 m
 have i:=Z9 l
 have I:=Z9 M
 clear M j m l L X V U R P O b f J
 refine zas ?_
 intro _ _
 go_upto_region 13 with fail
 refine zte (gc:=gc) (v:=v) (sa:=s9) (sb:=s9) I.out.blk n.out i.out n1 n2 ?_ ?_
 · intro ch a d u w h;exact Af ch a d u w h
 intro W2 mF mE mD mC mB mA lZ lY hB D
 have F:SyM W2 (gX::S) base gW gc { v with st:=s9,ow:=s9 } k:=G.out.setW D hB
 have Ym:=G.out.gS
 have H:Chg [gW] W W2:=(Chg.of_below (S:=[gW]) (Below.drew (Below.refl _ _))).trans (Chg.of_only D (by simp))
 have A:Blk W2 gX 112 (pktRow a.k a.B a.c).toArray:=D.blk (g.out.later (Below.drew (Below.refl _ _))) K
 have Y:=Z.out.chg H (by intro x hx;simp at hx;rw [hx];exact Ym)
 have vS:=F.blk.at 48 (.int .u8 v.u.p.codec) rfl
 have x1:=A.at 1 (.int .u8 a.k.ty) rfl
 have x9:=A.at 9 (.slice a.B a.k.pl.length a.c) rfl
 have f1:=A.frozen 1
 have f9:=A.frozen 9
 have Yk:=A.lt
 have Fp:=Z9 F
 have Qr:=Z9 A
 have Px:=Z9 Y
 have GL:=Z9 H
 clear hB D F A Y H G I g Z n i
 go_upto_region 15 with fail
 refine zao (by assumption) ?_
 have E:OnlyB gX W2 ((W2.setCell ⟨gX,1,none⟩ (.int .u8 v.u.p.codec)).setCell ⟨gX,9,none⟩ (.slice A9 T.length c9)):=(OnlyB.setCell _ _ _ _).trans (OnlyB.setCell _ _ _ _)
 refine h _ _ (Fp.out.far E (Ne.symm K) (Ne.symm y) t o) ((Qr.out.set_ 1 _).set_ 9 _) (Px.out.chg (Chg.of_only E (S:=[gX]) (by simp)) (by intro x hx;simp at hx;simp [hx])) ((GL.out.more (T:=[gW,gX]) (by intro x hx;simp at hx;simp [hx])).trans (Chg.of_only E (by simp))) (Fr.mk rfl ⟨rfl,rfl,rfl,rfl,rfl,rfl,trivial⟩)
theorem zwj {S:List Nat} {k:Ca} {a:TK} {Q:Exit→Act→World→Prop} (M:SyM W (gX::S) base gW gc v k) (R:gX≠gW) {c9:Nat} (E:Blk W gX 112 (pktRow k9 A9 c9).toArray) (hn:k9.pl.length=n9) (zs:List Int) (hz:zs.length=160)
 (A:∀ V:World,Below W.heap.size W V→Calls Tryz.prog 14 #[.int .u8 k9.ty, .slice A9 n9 c9] V (Dec32R zs V))
 (h:∀ (W':World) (C:Act) (FA:Option Addr) (fc:Nat),SyM W' (gX::S) base gW gc v k→Blk W' gX 112 (pktRow k9 A9 c9).toArray→IntsNew W.heap.size W' .i16 FA zs→Chg [gW] W W'→Fr 198 [(8, .pointer (some ⟨gX,0,none⟩)),(9, .slice FA 160 fc),(0, .pointer (some ⟨gW,0,none⟩)),(4, .pointer (some ⟨gP,0,none⟩)),(5, .slice KA 1 kc),(7, .int .i64 0)] C→Q .normal C W')
 (C:Act) (T:Fr 198 [(8, .pointer (some ⟨gX,0,none⟩)),(10, .slice A9 n9 c9),(0, .pointer (some ⟨gW,0,none⟩)),(4, .pointer (some ⟨gP,0,none⟩)),(5, .slice KA 1 kc),(7, .int .i64 0)] C):firstWp Tryz.prog sy15_code Q C W:=by
 obtain ⟨s,rfl,Z⟩:=T
 simp only [rl9]
 obtain ⟨G,O,K,J,I,H,_⟩:=Z
 rw [G,O,K,J,I,H]
 have x1:=E.at 1 (.int .u8 k9.ty) rfl
 have Y:=M.low
 have L:=Z9 M
 have P:=Z9 E
 replace A:=Z9 (A W (Below.refl _ _))
 clear M E K J I H G O
 unfold Dec32R at A
 rw [hz] at A
 refine zas ?_
 intro _ _
 go_upto_region 15 with fail
 go_wp2_with fail
 refine A.out.mono ?_
 rintro e w2 ⟨FA,fc,rfl,F,hb⟩
 have B:=L.out.later hb
 have d:=B.blk.at 110 (.bool false) rfl
 have b:=B.blk.frozen 110
 have c:=B.low
 have N:=Z9 B
 have U:=Z9 (P.out.later hb)
 have X:=Z9 F
 have HC:=Z9 (Chg.of_below (S:=[gW]) hb)
 clear B hb F L P A x1
 go_wp2_with fail
 have D:OnlyB gW w2 (w2.setCell ⟨gW,110,none⟩ (.bool false)):=OnlyB.setCell _ _ _ _
 refine h _ _ FA fc (N.out.setW D (N.out.blk.set_ 110 _)) (D.blk U.out R) ?_ (HC.out.trans (Chg.of_only D (by simp))) (Fr.mk rfl ⟨rfl,rfl,rfl,rfl,rfl,rfl,trivial⟩)
 exact X.out.setCell Y _
theorem zwk:(Tryz.prog.info? 51).map (fun i=>(i.zero,i.size,i.bytes))=some (some (.slice none 0 0),1,24):=by kernel_rfl
theorem zyc (k:Sb.Pkt):(Pk.bytes k.pk).length=12+k.pl.length:=by
 unfold Pk.bytes Pk.lead Pk.tail Sb.Pkt.pk
 simp [zap]
 omega
theorem SyM.app {S:List Nat} {k:Ca} {f:TF} (X:SyM W S base gW gc v k) (E:Below W.heap.size W V) (ho:Owns W' base 51 1 An (v.ss.length+1) cn (v.ss.flatMap TF.row++f.row)) (hg:V.grownBy W' (ownB v.sA)) (D:ownB An=ownB v.sA∨∀ g,ownB An=some g→V.heap.size≤g) (hs:OnlyB gW W' W'') (hB:Blk W'' gW 86 (VL.row { v with sA:=An,sc:=cn,ss:=v.ss ++ [f] } gc).toArray) (hf:IntsAv W S .i16 f.A f.zs) :
 SyM W'' ((ownB An).toList++S) base gW gc { v with sA:=An,sc:=cn,ss:=v.ss ++ [f] } k∧Mv (gW::(ownB v.sA).toList) S W ((ownB An).toList++S) W'':=by
 have J:=X.low
 have L:=X.ca.lt gc X.ca.gcS
 have I:=E.size
 have G:=X.ca.lt
 have n1:∀ g,g<V.heap.size→ownB v.sA≠some g→ownB An≠some g:=fun g hlt h e=>by
  rcases D with C|C
  · exact h (C ▸ e)
  · have:=C g e;omega
 have K:OnlyB gW W' W'':=hs
 have hc:Chg (gW::(ownB v.sA).toList) W W'':=(Chg.of_below E).trans ((Chg.of_grown hg (fun q e => .inl (by rw [e];simp))).trans (Chg.of_only hs (by simp)))
 have F:∀ x∈gW::(ownB v.sA).toList,x∈S:=fun x hx=>by
  simp at hx
  rcases hx with e|e
  · rw [e];exact X.gS
  · exact X.sS x e
 have h1:Owns W'' base 51 1 An (v.ss.length+1) cn (v.ss.flatMap TF.row++f.row):=(Chg.of_only hs (S:=[gW]) (by simp)).owns ho (fun q hq hx=>by simp at hx;rw [hx] at hq;exact n1 gW (by omega) X.sW hq)
 have m:Mv (gW::(ownB v.sA).toList) S W ((ownB An).toList++S) W'':=by
  refine ⟨fun x hx=>List.mem_append_right _ hx,fun x hx => ?_,hc,F,fun x hx => ?_⟩
  · rcases List.mem_append.1 hx with hx|hx
    · rcases D with e|e
      · rw [e] at hx;exact .inl (X.sS x (by simpa using hx))
      · exact .inr (Nat.le_trans I (e x (by simpa using hx)))
    · exact .inl hx
  · rcases List.mem_append.1 hx with hx|hx
    · exact .inr (h1.block x (by simpa using hx)).2
    · exact .inl hx
 have ca:=X.ca.mv m (by simp;exact ⟨fun e=>X.ne e.symm,fun e=>X.sC e⟩) (fun g hg hx=>by
  simp at hx
  rcases hx with e|e
  · rw [e] at hg;exact X.pW hg
  · exact X.sP g e hg)
 refine ⟨⟨hB,ca,List.mem_append_right _ X.gS,X.ne,X.pW,by simpa using h1,n1 gW (by omega) X.sW,n1 gc (by omega) X.sC,fun g hg hp => ?_,fun g hg=>List.mem_append_left _ (by rw [show ownB An=some g from hg];simp),fun H B => ?_,m.rows X.due,m.q X.q⟩,m⟩
 · rcases D with e|e
   · exact X.sP g (e ▸ hg) hp
   · have:=e g hg;have:=G g (X.ca.pS g hp);omega
 · rcases List.mem_append.1 B with B|B
   · exact m.ints (X.ints H B)
   · simp at B;rw [B];exact m.ints hf
theorem zpu {S:List Nat} {k:Ca} {Q:Exit→Act→World→Prop} (M:SyM W S base gW gc v k) (N:SyN gX gW gc k.pA v.sA) {c9:Nat} (A:Blk W gX 112 (pktRow k9 A9 c9).toArray) (ok:k9.ok) (l:IntsAt W W.heap.size .u8 A9 k9.pl) {zs:List Int} (MJ:zs.length=fn) (hF:IntsAv W S .i16 FA zs) (Qu:k9.sq=(v.ss.length:Int)) (hb:base≤W.heap.size) (n0:k.now≤v.now) (n1:0≤v.now) (n2:v.now≤1000000) (s0:0≤k.sent) (s1:k.sent<10000) (Oi:k.fs.length≤2000) (hp:k.ps.length≤990) (l0 : -100000≤k.lost∧k.lost≤100000)
 (Af:∀ (ch:_) (a:Act) (d:Tmp) (u:Value) (w:World),Q (.panic ch) (a.put (some d) u) w→Q (.panic ch) a w)
 (h:∀ (W':World) (F:Act) (S':List Nat) (k':Ca) (A':Option Addr) (c':Nat) (sA:Option Addr) (sc:Nat),SyM W' S' base gW gc { v with sA:=sA,sc:=sc,ss:=v.ss ++ [⟨FA,fc,zs⟩] } k'→k'.sent=k.sent+1→k'.now=v.now→(k'.fs=k.fs∧k.lost≤k'.lost∧k'.lost≤k.lost+1)→(Pk.bytes k9.pk).length≤c'→k'.ps=k.ps++copies (fateOf k) k.sent v.now A' c' (Pk.bytes k9.pk)→Mv S S W S' W'→Fr 198 [(0, .pointer (some ⟨gW,0,none⟩)),(4, .pointer (some ⟨gP,0,none⟩)),(5, .slice KA 1 kc),(7, .int .i64 0)] F→Q .normal F W')
 (F:Act) (ha:Fr 198 [(8, .pointer (some ⟨gX,0,none⟩)),(9, .slice FA fn fc),(0, .pointer (some ⟨gW,0,none⟩)),(4, .pointer (some ⟨gP,0,none⟩)),(5, .slice KA 1 kc),(7, .int .i64 0)] F):firstWp Tryz.prog sy17_code Q F W:=by
 subst MJ
 obtain ⟨s,rfl,Ak⟩:=ha
 simp only [rl9]
 obtain ⟨m,J,y,t,p,o,_⟩:=Ak
 rw [m,J,y,t,p,o]
 have x0:=A.at 0 (.bool k9.mrk) rfl
 have x1:=A.at 1 (.int .u8 k9.ty) rfl
 have P:=A.at 2 (.int .u16 k9.sq) rfl
 have x3:=A.at 3 (.int .u32 k9.ti) rfl
 have x4:=A.at 4 (.int .u32 k9.src) rfl
 have x5:=A.at 5 (.slice none 0 0) rfl
 have x6:=A.at 6 (.bool false) rfl
 have x7:=A.at 7 (.int .u16 0) rfl
 have x8:=A.at 8 (.slice none 0 0) rfl
 have x9:=A.at 9 (.slice A9 k9.pl.length c9) rfl
 have Uy:=A.at 10 (.int .i64 0) rfl
 have Om:=zyc k9
 have yE:=ok.len
 have I:=Z9 (zvo k9 ok none none A9 0 0 c9 W l)
 unfold PEncRC at I
 have jG:v.ss.length≤65535:=by have:=ok.sq1;omega
 have Q3:=Z9 Qu
 clear Qu
 have b:=M.gS
 have xT:=M.sS
 have HM:=Z9 M
 have Co:=Z9 A
 have HF:=Z9 hF
 replace h:=Z9 h
 obtain ⟨bl,j⟩:=nm9 (Pk.bytes k9.pk)
 rw [← j] at I Om h
 have h0:0<bl.length:=by omega
 have hl:bl.length≤2000:=by omega
 clear M A hF l ok y t p o m J j Om yE
 refine zas ?_
 intro _ _
 go_upto_region 17 with fail
 go_wp2_with fail
 refine I.out.mono ?_
 rintro e w2 ⟨A3,c3,rfl,Fg,z,C⟩
 have L:=HM.out.later C
 have O:=Z9 L
 have Qr:=Z9 (Co.out.later C)
 have Y:=Z9 (HF.out.chg (T:=[]) (Chg.of_below C) (by simp))
 have i:=Z9 z.1
 have Zf:=C.size
 have EX:=Z9 (((Mv.below (S:=S) C).trans (Mv.below (Below.drew (Below.refl _ _))) (by simp)).weak (T':=S) (fun _ h=>h))
 have g:=L.blk.at 96 (.pointer (some ⟨gc,0,none⟩)) rfl
 have Pm:=L.blk.at 97 (.int .i64 v.now) rfl
 clear L z C x0 x1 P x3 x4 x5 x6 x7 x8 x9 Uy HM Co HF I Fg
 have V:=O.out.later (Below.drew (Below.refl _ _))
 have Ru:base≤(World.drew w2).heap.size:=Nat.le_trans hb Zf
 have R:=Z9 (zro (c:=c3) V.ca Ru (i.out.later (Below.drew (Below.refl _ _))) h0 hl n0 n1 n2 s0 s1 Oi hp l0)
 unfold SendC at R
 have TV:=Z9 V
 clear V
 go_upto_region 18 with fail
 go_region_held3 (fun w'=>w'.cell? ⟨gW,96,none⟩=some (.pointer (some ⟨gc,0,none⟩))∧w'.cell? ⟨gW,97,none⟩=some (.int .i64 v.now))
  (first|assumption|exact ⟨g,Pm⟩|exact ⟨LR,LQ⟩)
  (first
   | (go_at_call 75;refine R.out.mono ?_;rintro e w7 ⟨S7,k7,A7,c7,rfl,Yo,hm,Tf,Fc,Ql,Zk,De,Ke⟩;have B:=TV.out.sendC (n:=0) Yo hm Zk;have LR:=B.blk.at 96 (.pointer (some ⟨gc,0,none⟩)) rfl;have LQ:=B.blk.at 97 (.int .i64 v.now) rfl))
 obtain ⟨nW,nC,nP,nS⟩:=N
 have U:Chg (gc::(ownB k.pA).toList) w2 w7:=(Chg.of_below (Below.drew (Below.refl _ _))).trans hm.chg
 have VG:=U.blk Qr.out (by simp;exact ⟨nC,nP⟩)
 have UK:=Z9 (hm.ints (Y.out.chg (T:=[]) (Chg.of_below (Below.drew (Below.refl _ _))) (by simp)))
 have xM:W.heap.size≤w7.heap.size:=Nat.le_trans Zf U.size
 have P:w7.cell? ⟨gX,2,none⟩=some (.int .u16 (v.ss.length:Int)):=by rw [← Q3.out];exact VG.at 2 _ rfl
 have Ye:=B.blk.at 99 (.slice v.sA v.ss.length v.sc) rfl
 have Bi:=B.blk.at 110 (.bool false) rfl
 have Ob:=B.blk.frozen 110
 have eR:=B.low
 have Ua:IntKind.i64.wrap (v.ss.length:Int)=(v.ss.length:Int):=by simp only [IntKind.wrap,IntKind.bits,IntKind.signed];simp;omega
 have P2:=Z9 (EX.out.trans hm (fun x hx=>by
  simp at hx
  rcases hx with e|e
  · rw [e];exact .inl O.out.ca.gcS
  · exact .inl (O.out.ca.pS x e)))
 have D:=Z9 B
 have O7:=Z9 Tf
 have P0:=Z9 Fc
 have P3:=Z9 Ql
 have O8:=Z9 Ke
 clear LR LQ Yo hm Zk Tf Fc Ql Ke B U VG Qr Y O TV i g Pm R
 go_upto_region 19 with fail
 go_region
 obtain ⟨W8,H⟩:=nm9 (World.drew (w7.setCell ⟨gW,110,none⟩ (.bool false)))
 have o8:OnlyB gW w7 W8:=by rw [H];exact (OnlyB.setCell _ _ _ _).drew
 have K:SyM W8 S7 base gW gc v k7:=D.out.setW o8 (by rw [H];exact (D.out.blk.set_ 110 _).drew)
 have Z3:=Z9 (UK.out.chg (Chg.of_only o8 (S:=[gW]) (by simp)) (by intro x hx;simp at hx;rw [hx];exact D.out.gS))
 have xL:W.heap.size≤W8.heap.size:=by rw [o8.2];exact xM
 have jX:base≤W8.heap.size:=Nat.le_trans hb xL
 have P1:=Z9 (P2.out.trans (Mv.of_chg (Chg.of_only o8 (S:=[gW]) (by simp)) (by intro x hx;simp at hx;rw [hx];exact D.out.gS)) (by intro x hx;simp at hx;rw [hx];exact .inl b))
 have z99:=K.blk.at 99 (.slice v.sA v.ss.length v.sc) rfl
 have VP:(W8.alloc (.cells #[.slice FA zs.length fc] 51)).cell? ⟨gW,99,none⟩=some (.slice v.sA v.ss.length v.sc):=(K.blk.push _).at 99 _ rfl
 have G:=Z9 K
 try rw [← H]
 clear H o8 K D UK P Ye Bi Ob Ua
 go_upto_region 20 with fail
 go_wp2_with (at_builtin;go_loud (refine zan (w0:=W8) rfl _ _ 55 rfl base 51 1 24 _ Tryz.underlying55 zwk rfl (by decide) v.sA v.ss.length v.sc (v.ss.flatMap TF.row) rfl G.out.sent [.slice FA zs.length fc] rfl (by simp [Value.oneCell']) rfl (by unfold maxLen;omega) (by omega) jX ?_);intro An cn wn Z X Ar;have E:=G.out.blk.grown X (fun e=>G.out.sW e.symm);have z9:=E.at 99 (.slice v.sA v.ss.length v.sc) rfl;have f9:=E.frozen 99;have NW:=E.lt;have iZ:=Z9 E;have Rd:=Z9 Z;have iQ:=Z9 X;have Tz:=Z9 Ar;clear E Z X Ar)
 have o9:OnlyB gW wn (wn.setCell ⟨gW,99,none⟩ (.slice An (v.ss.length+1) cn)):=OnlyB.setCell _ _ _ _
 have b9:Blk (wn.setCell ⟨gW,99,none⟩ (.slice An (v.ss.length+1) cn)) gW 86 (VL.row { v with sA:=An,sc:=cn,ss:=v.ss ++ [⟨FA,fc,zs⟩] } gc).toArray:=by
  have h9:=iZ.out.set_ 99 (.slice An (v.ss.length+1) cn)
  have J:(v.ss ++ [(⟨FA,fc,zs⟩:TF)]).length=v.ss.length+1:=by simp
  unfold VL.row
  simp only [J]
  exact h9
 obtain ⟨M9,m9⟩:=G.out.app (f:=⟨FA,fc,zs⟩) (Below.refl _ _) Rd.out iQ.out Tz.out o9 b9 Z3.out
 exact h.out _ _ _ k7 A7 c7 An cn M9 O7.out P0.out P3.out De O8.out (P1.out.trans m9 (fun x hx=>by
  simp at hx
  rcases hx with e|e
  · rw [e];exact .inl b
  · exact .inl (xT x e))) (Fr.mk rfl ⟨rfl,rfl,rfl,rfl,trivial⟩)
def sayX (v:VL) (c:Int) (x:Sb.Pkt):Sb.Pkt×List Int×(Int×Int):=if x.ty=c then ({ x with ty:=v.u.p.codec,pl:=(Sb.enc v.u.p.codec v.st (Sb.decS c x.pl)).1 }, Sb.decS v.u.p.codec (Sb.enc v.u.p.codec v.st (Sb.decS c x.pl)).1,(Sb.enc v.u.p.codec v.st (Sb.decS c x.pl)).2) else (x,[],v.st)
theorem VL.same (v:VL) (sA:Option Addr) (sc:Nat) (ss:List TF) (h:v.ow=v.st):({ v with sA:=sA,sc:=sc,ss:=ss,st:=v.st,ow:=v.st } : VL) = { v with sA:=sA,sc:=sc,ss:=ss } := by
 cases v
 cases h
 rfl
theorem SyM.sn {S:List Nat} {k:Ca} (X:SyM W S base gW gc v k) (A:gX∉S):SyN gX gW gc k.pA v.sA:=⟨fun e=>A (e ▸ X.gS),fun e=>A (e ▸ X.ca.gcS),fun e=>A (X.ca.pS _ e),fun e=>A (X.sS _ e)⟩
theorem zjq {zs:List Int} (h:p.tn=Ev.Snd.zero):(Sb.send0 p zs).1.codec=p.codec:=by
 have ht:¬(p.tn.on=true∨p.tn.ends≠0):=by rw [h];decide
 unfold Sb.send0
 rw [if_neg ht]
 split
 · split<;>rfl
 · rfl
theorem zpv {S:List Nat} {k:Ca} {zs:List Int} (M:SyM W S base gW gc v k) (hs:Sb.SpkI c v.p.p i sq) (hi:i<60) (hn:v.p.n=0) (Dq:v.p.c≤maxLen) (Qu:sq=v.ss.length) (Rh:speechB v.u.p.codec=true) (Bf:v.ow=v.st) (hv:Dlt.valid v.st.1 v.st.2=true) (hZ:IntsAt W W.heap.size .i16 ZA zs) (zl:zs.length=160) (zb:Within (-32768) 32767 zs) (hb:base≤W.heap.size) (n0:k.now≤v.now) (n1:0≤v.now) (n2:v.now≤1000000) (s0:0≤k.sent) (s1:k.sent<10000) (Oi:k.fs.length≤2000) (hp:k.ps.length≤990) (l0 : -100000≤k.lost∧k.lost≤100000) {R:World→Prop}
 (r0:(Sb.send0 v.p.p zs).2=[]→∀ (W':World) (A1:Option Addr) (c1:Nat),c1≤maxLen→SyM W' S base gW gc { v with p:=⟨(Sb.send0 v.p.p zs).1,A1,0,c1,[]⟩ } k→Mv S S W S W'→R W')
 (y:∀ x:Sb.Pkt,(Sb.send0 v.p.p zs).2=[x]→∀ (W':World) (A1:Option Addr) (c1:Nat) (f:List Nat) (k':Ca) (A':Option Addr) (c':Nat) (sA:Option Addr) (sc:Nat) (FA:Option Addr) (fc:Nat),c1≤maxLen→SyM W' f base gW gc { v with p:=⟨(Sb.send0 v.p.p zs).1,A1,0,c1,[]⟩,sA:=sA,sc:=sc,ss:=v.ss ++ [⟨FA,fc,(sayX v c x).2.1⟩],st:=(sayX v c x).2.2,ow:=(sayX v c x).2.2 } k'→k'.sent=k.sent+1→k'.now=v.now→(k'.fs=k.fs∧k.lost≤k'.lost∧k'.lost≤k.lost+1)→(Pk.bytes (sayX v c x).1.pk).length≤c'→k'.ps=k.ps++copies (fateOf k) k.sent v.now A' c' (Pk.bytes (sayX v c x).1.pk)→Mv S S W f W'→R W') :
 Calls Tryz.prog 34 #[.pointer (some ⟨gW,0,none⟩), .slice ZA 160 zc] W fun e w'=>e = .returned (.tuple #[])∧R w':=by
 obtain ⟨more,e1,e2,Bu,hk⟩:=hs.step zs hi zl zb
 have Cz:=hs.sent zs zb
 have tI:=hs.tn
 have Um:(Sb.send0 v.p.p zs).1.codec=c:=by rw [zjq hs.tn];exact hs.codec
 have aT:=hs.sp
 have Tl:=hs.cod
 have Qd:=hs.src
 have Wx:=hs.le
 have YK:=M.ca.lt
 refine zwh M hs.valid hs.wf hs.jq (by rw [tI];rfl) (by rw [tI];rfl) hn Dq Bu.jq (by omega) hZ zl zb (fun W' a gP A1 c1 KA kc ks X Cy BP l8 bB CO fZ DC C => ?_)
 have Cj:=DC.size
 have m0:Mv S S W S W':=(Mv.of_chg DC (by intro x hx;simp at hx;rw [hx];exact X.gS)).wide
 obtain ⟨s,rfl,G⟩:=C
 simp only [rl9]
 obtain ⟨E,Z,D,_⟩:=G
 rw [E,Z,D]
 refine zas ?_
 intro _ _
 rcases ks with _|⟨t,ks⟩
 · have nT:(Sb.send0 v.p.p zs).2=[]:=by rw [← bB];rfl
   have J:=r0 nT W' A1 c1 Cy X m0
   clear y Cz hk bB CO nT r0 X M m0 fZ
   go_wp2_with fail
   refine wp_loop_rounds 1 (zav (fun m a wr=>m=0∧wr=W'∧Fr 198 [(0, .pointer (some ⟨gW,0,none⟩)),(5, .slice KA 0 kc),(7, .int .i64 0)] a) (fun m a wr hJ => ?_) 0 _ _ ⟨rfl,rfl,Fr.mk rfl ⟨rfl,rfl,rfl,trivial⟩⟩)
   obtain ⟨rfl,rfl,C⟩:=hJ
   obtain ⟨s,rfl,G⟩:=C
   simp only [rl9]
   obtain ⟨E,D,L,_⟩:=G
   rw [E,D,L]
   go_wp2_with fail
   go_end0
   exact ⟨rfl,J⟩
 obtain rfl:ks=[]:=by
  have K:=congrArg List.length bB
  simp at K
  exact List.eq_nil_of_length_eq_zero (by omega)
 have eL:(Sb.send0 v.p.p zs).2=[t.k]:=by rw [← bB];rfl
 have hx:=hk t.k (by rw [eL];simp)
 have rQ:=Z9 (fZ t (by simp))
 clear r0 hk bB M fZ
 rw [eL] at Cz
 obtain ⟨x1,x2,x3,x4,x5⟩:=hx
 have NM:sq≤60:=by omega
 obtain ⟨v2,P⟩:∃ v2:VL,v2 = { v with p:=⟨(Sb.send0 v.p.p zs).1,A1,0,c1,[]⟩ } := ⟨_,rfl⟩
 have H:v2.p.p.codec=c:=by rw [P];exact Um
 have Y:v2.u=v.u:=by rw [P]
 have lN:v2.st=v.st:=by rw [P]
 have IK:v2.ow=v2.st:=by rw [P];exact Bf
 have IJ:v2.ss=v.ss:=by rw [P]
 have O:v2.now=v.now:=by rw [P]
 have aO:Blk W' gP 45 v2.p.row.toArray:=by rw [P];exact BP
 rw [← P] at X
 replace y:∀ (W':World) (f:List Nat) (k':Ca) (A':Option Addr) (c':Nat) (sA:Option Addr) (sc:Nat) (FA:Option Addr) (fc:Nat),SyM W' f base gW gc { v2 with sA:=sA,sc:=sc,ss:=v2.ss ++ [⟨FA,fc,(sayX v c t.k).2.1⟩],st:=(sayX v c t.k).2.2,ow:=(sayX v c t.k).2.2 } k'→k'.sent=k.sent+1→k'.now=v.now→(k'.fs=k.fs∧k.lost≤k'.lost∧k'.lost≤k.lost+1)→(Pk.bytes (sayX v c t.k).1.pk).length≤c'→k'.ps=k.ps++copies (fateOf k) k.sent v.now A' c' (Pk.bytes (sayX v c t.k).1.pk)→Mv S S W f W'→R W':=fun W' f k' A' c' sA sc FA fc hM=>y t.k eL W' A1 c1 f k' A' c' sA sc FA fc Cy (by rw [P] at hM;exact hM)
 have bX:=Z9 y
 have l7:=X.low
 have HX:=Z9 X
 have vO:=Z9 aO
 have R9:=Z9 CO
 have F:(t.k.ty=c∧t.k.pl=(Sb.enc c (v.p.p.cv,v.p.p.ci) zs).1∨¬t.k.ty=c)∧t.k.src=v.p.p.src:=by
  cases Cz with
  | noise _ h1 h2 z h3 h4=>exact ⟨.inr (by rw [h1];intro e;rw [← e] at aT;revert aT;decide),h2⟩
  | speech _ h1 h2 h3=>exact ⟨.inl ⟨h1,h3⟩,h2⟩
 obtain ⟨F,Yi⟩:=F
 have nL:∀ (ty:Int) (pl:List Int),(speechB ty=true∨ty=13)→Within 0 255 pl→pl.length≤1500→Sb.Pkt.ok { t.k with ty:=ty,pl:=pl } := fun ty pl h1 h2 h3=>by
  have qD:0≤ty∧ty≤127:=by rcases h1 with e|e;(rcases zal.1 e with e|e|e<;>omega);omega
  exact ⟨qD.1,qD.2,by show 0≤t.k.sq;omega,by show t.k.sq≤65535;omega,by show 0≤t.k.ti;omega,by show t.k.ti≤4294967295;omega,by show 0≤t.k.src;rw [Yi];exact Qd.1,by show t.k.src≤4294967295;rw [Yi];exact Qd.2,h2,h3⟩
 have rH:=Z9 m0
 have Pw:=Z9 nL
 have HTY:=Z9 F
 have IF:Within 0 255 t.k.pl:=x5
 have kZ:=Z9 IF
 have EZ:=Z9 x3
 have HSR:=Z9 Bf
 have bA:t.k.ty=c→(Sb.decS c t.k.pl).length=160:=fun h=>by
  rcases F with ⟨_,e⟩|e
  · rw [e];exact Sb.encS_len c _ zs aT Tl zl
  · exact absurd h e
 have oG:t.k.ty=c→c=96→t.k.pl.length=84:=fun h K=>by
  rcases F with ⟨_,e⟩|e
  · rw [e,K]
    unfold Sb.enc
    rw [if_neg (by decide),if_neg (by decide)]
    show (Dlt.packB _ zs).length=84
    rw [Dlt.packB_len,zl]
  · exact absurd h e
 have FT:=Z9 oG
 have HL:=Z9 bA
 clear oG
 clear X m0 BP aO CO Cz y F nL hZ zb DC x3 x5 IF bA Bf
 go_wp2_with fail
 refine wp_loop_rounds 2 (zav (fun m a wr=>(m=1∧wr=W'∧Fr 198 [(0, .pointer (some ⟨gW,0,none⟩)),(4, .pointer (some ⟨gP,0,none⟩)),(5, .slice KA 1 kc),(7, .int .i64 0)] a)∨(m=0∧Hid (R wr)∧Fr 198 [(0, .pointer (some ⟨gW,0,none⟩)),(5, .slice KA 1 kc),(7, .int .i64 1)] a)) (fun m a wr hJ => ?_) 1 _ _ (.inl ⟨rfl,rfl,Fr.mk rfl ⟨rfl,rfl,rfl,rfl,trivial⟩⟩))
 rcases hJ with ⟨rfl,rfl,C⟩|⟨rfl,J,C⟩
 rotate_left
 · obtain ⟨s,rfl,G⟩:=C
   simp only [rl9]
   obtain ⟨E,D,L,_⟩:=G
   rw [E,D,L]
   go_wp2_with fail
   go_end0
   exact ⟨rfl,J.out⟩
 obtain ⟨s,rfl,G⟩:=C
 simp only [rl9]
 obtain ⟨E,Z,D,L,_⟩:=G
 rw [E,Z,D,L]
 go_upto_region 7 with fail
 refine zao (by assumption) ?_
 have YS:∀ (v:VL),True:=fun _=>trivial
 refine zya HX.out vO.out R9.out (fun F W2 a2 gX M2 aO Pj nX XA I2 m2 C => ?_) (fun F W2 a2 gX M2 aO Pj nX XA I2 m2 C => ?_) _ (Fr.mk rfl ⟨rfl,rfl,rfl,rfl,trivial⟩)
 · have N:=HX.out.sn nX
   have dS:=Nat.le_trans Cj m2.chg.size
   have Q:t.k.ty=c:=F.trans H
   have Ia:=HL.out Q
   obtain ⟨T,s9,Xn⟩:∃ (T:List Int) (s9:Int×Int),Sb.enc v.u.p.codec v.st (Sb.decS c t.k.pl)=(T,s9):=⟨_,_,rfl⟩
   have Yh:=Sb.decS_bd c t.k.pl kZ.out
   have Ez:=Sb.enc_in v.u.p.codec v.st (Sb.decS c t.k.pl) hv Ia
   have Bo:=Sb.encS_len v.u.p.codec v.st (Sb.decS c t.k.pl) Rh hv Ia
   rw [Xn] at Ez Bo
   have U:sayX v c t.k=({ t.k with ty:=v.u.p.codec,pl:=T }, Sb.decS v.u.p.codec T,s9):=by unfold sayX;rw [if_pos Q,Xn]
   have nW:gX≠gW:=N.1
   have xQ:speechB v2.p.p.codec=true:=by rw [H];exact aT
   have mT:speechB v2.u.p.codec=true:=by rw [Y];exact Rh
   have xH:Dlt.valid v2.st.1 v2.st.2=true:=by rw [lN];exact hv
   have OY:Within 0 255 T:=Ez.1
   have hT1:T.length≤160:=Ez.2.1
   have PZ:∀ V:World,Below W2.heap.size W2 V→IntsAt V V.heap.size .u8 t.B t.k.pl:=fun V I=>(I2.1.keep (fun _ hp=>I.cell hp)).more I.size
   have NI:=M2.low
   refine zyb M2 aO Pj nW T (Sb.decS c t.k.pl) s9 IK (fun V I => ?_) (fun V I => ?_) (fun V A c9 hA => ?_) ?_ (fun W3 a3 A9 c9 g1 g2 M3 BX3 B1 B2 Iu Fa I3 Cd QK D8 => ?_) _ C
   · have K:=zpl v2.p.p.codec v2.u.p.codec xQ mT t.B t.k.pl t.k.pl.length t.c rfl v2.st.1 v2.st.2 xH V (PZ V I) kZ.out (by omega) (fun h=>⟨rQ.out (Q.trans (H.symm.trans h)),FT.out Q (H.symm.trans h)⟩) (by rw [H];exact Ia)
     rw [H,Y,lN,show ((v.st.1,v.st.2):Int×Int)=v.st from rfl,Xn] at K
     rw [H,Y,lN]
     exact K
   · rw [H]
     exact zgj c aT t.B t.k.pl t.k.pl.length t.c rfl V (PZ V I) kZ.out (by omega) (fun h=>rQ.out (Q.trans h))
   · have K:=ziq v.u.p.codec v.st.1 v.st.2 Rh A (Sb.decS c t.k.pl) _ c9 rfl V hv hA Yh (by omega) (by omega)
     rw [show ((v.st.1,v.st.2):Int×Int)=v.st from rfl,Xn] at K
     rw [Y,lN]
     exact K
   · intro ch a d u w h;exact h
   have Jq:g1≠gW:=by omega
   have Pb:g2≠gW:=by omega
   refine zwi M3 N BX3 B1 B2 Jq Pb I3 ?_ (fun W4 a4 M4 BX4 I4 C4 D7 => ?_) _ D8
   · intro ch a d u w h;exact h
   refine zwj (a:=t) M4 nW BX4 (n9:=T.length) rfl (Sb.decS v.u.p.codec T) Bo (fun V I => ?_) (fun W5 a5 FA fc M5 BX5 I5 C5 D6 => ?_) _ D7
   · show Calls Tryz.prog _ #[.int .u8 v2.u.p.codec,_] V _
     rw [Y]
     exact zgj v.u.p.codec Rh A9 T T.length c9 rfl V ((I4.1.keep (fun _ hp=>I.cell hp)).more I.size) OY (by omega) (fun h=>Cd (by rw [Y];exact h))
   have NN:=M4.ca.lt
   have xN:W2.heap.size≤W5.heap.size:=Nat.le_trans QK.size (Nat.le_trans C4.size C5.size)
   have eO:=M4.gS
   have XK:Mv (gX::S) (gX::S) W2 (gX::S) W5:=Mv.of_chg ((QK.more (T:=gX::S) (by intro x hx;simp at hx;rw [hx];exact eO)).trans ((C4.more (T:=gX::S) (by intro x hx;simp at hx;rcases hx with e|e;rw [e];exact eO;rw [e];simp)).trans (C5.more (T:=gX::S) (by intro x hx;simp at hx;rw [hx];exact eO)))) (fun _ h=>h)
   have O6:IntsAv W5 (gX::S) .u8 A9 T:=I4.chg C5 (by intro x hx;simp at hx;rw [hx];exact M4.gS)
   have O5:IntsAv W5 (gX::S) .i16 FA (Sb.decS v.u.p.codec T):=⟨I5.1,fun h0 b off e hx=>by have:=I5.2 h0 b off e;have:=NN b hx;omega⟩
   refine zim (zpu M5 N BX5 (Pw.out v2.u.p.codec T (.inl mT) OY (by omega)) O6.1 (fn:=160) Bo O5 (by show t.k.sq=(v2.ss.length:Int);rw [IJ];omega) (Nat.le_trans hb (Nat.le_trans dS xN)) (by show k.now≤v2.now;rw [O];exact n0) (by show 0≤v2.now;rw [O];exact n1) (by show v2.now≤1000000;rw [O];exact n2) s0 s1 Oi hp l0 ?_ (fun W6 a6 S6 j A6 c6 sA sc M6 Tf l Ql o g xW BO => ?_) _ D6)
   · intro ch a d u w h;exact h
   rw [Y] at o g
   have nQ:j.now=v.now:=l.trans O
   have nF:j.ps=k.ps++copies (fateOf k) k.sent v.now A6 c6 (Pk.bytes (Sb.Pkt.pk { t.k with ty:=v.u.p.codec,pl:=T })):=by rw [← O];exact g
   have J:=bX.out W6 S6 j A6 c6 sA sc FA fc (by rw [U];exact M6) Tf nQ Ql (by rw [U];exact o) (by rw [U];exact nF) ((rH.out.comp m2.wide).comp (XK.comp xW))
   have HR:=Z9 J
   obtain ⟨s,rfl,G⟩:=BO
   simp only [rl9]
   obtain ⟨E,Z,D,L,_⟩:=G
   rw [E,Z,D,L]
   clear J Tf l Ql o g M6 nQ nF Xn U Ez Bo
   go_wp2_with fail
   first|exact ⟨0,rfl, .inr ⟨rfl,HR,Fr.mk rfl ⟨rfl,rfl,rfl,trivial⟩⟩⟩|exact Fr.mk rfl ⟨rfl,rfl,rfl,trivial⟩
 · have N:=HX.out.sn nX
   rw [H] at F
   have U:sayX v c t.k=(t.k,[],v.st):=by unfold sayX;rw [if_neg F]
   have dS:=Nat.le_trans Cj m2.chg.size
   refine zpu M2 N Pj (Pw.out t.k.ty t.k.pl EZ.out kZ.out x4) I2.1 (zs:=[]) rfl ⟨IntsAt.nil,fun h0=>absurd h0 (by simp)⟩ (by rw [IJ];show t.k.sq=_;omega) (Nat.le_trans hb dS) (by rw [O];exact n0) (by rw [O];exact n1) (by rw [O];exact n2) s0 s1 Oi hp l0 ?_ (fun W6 a6 S6 j A6 c6 sA sc M6 Tf l Ql o g xW BO => ?_) _ C
   · intro ch a d u w h;exact h
   rw [O] at l g
   have J:=bX.out W6 S6 j A6 c6 sA sc none 0 (by rw [U,← lN];show SyM W6 S6 base gW gc ({ v2 with sA:=sA,sc:=sc,ss:=v2.ss ++ [⟨none,0,[]⟩],st:=v2.st,ow:=v2.st } : VL) j;rw [VL.same v2 sA sc _ IK];exact M6) Tf l Ql (by rw [U];exact o) (by rw [U];exact g) ((rH.out.comp m2.wide).comp xW)
   have HR:=Z9 J
   obtain ⟨s,rfl,G⟩:=BO
   simp only [rl9]
   obtain ⟨E,Z,D,L,_⟩:=G
   rw [E,Z,D,L]
   clear J Tf l Ql o g M6
   go_wp2_with fail
   first|exact ⟨0,rfl, .inr ⟨rfl,HR,Fr.mk rfl ⟨rfl,rfl,rfl,trivial⟩⟩⟩|exact Fr.mk rfl ⟨rfl,rfl,rfl,trivial⟩
end
namespace Sb
open Go.RowKit
theorem live_send (c s l m:Int) (hs:speechB c=true) (hc:Jb.cfg l m) (s0:0≤s) (s1:s≤4294967295) (zs:List Int) (hl:zs.length=160) (hz:∀ z∈zs, -32768≤z∧z≤32767) :
 ∃ x:Pkt,(send0 (new c s l m).1 zs).2=[x]∧x.ty=c∧x.sq=0∧x.ti=0∧0≤x.src∧x.src≤4294967295∧(decS c x.pl).length=160:=by
 have h:=(SpkI.startS hs hc s0 s1).1
 have e:=new_src (s:=s) hs hc
 have B:=h.sent zs hz
 obtain ⟨more,L,K,h2,hk⟩:=h.step zs (by omega) hl hz
 have C:(new c s l m).1.below=0:=by rw [e];rfl
 have E:=h.cod
 have hq:¬Ev.quiet (new c s l m).1.below zs=10:=by
  rw [C]
  unfold Ev.quiet
  split<;>omega
 have ht:¬((new c s l m).1.tn.on=true∨(new c s l m).1.tn.ends≠0):=by rw [h.tn];decide
 have A:=h.codec
 have D:∃ x,(send0 (new c s l m).1 zs).2=[x]∧x.ty=c∧x.pl=(enc c ((new c s l m).1.cv,(new c s l m).1.ci) zs).1:=by
  unfold send0
  rw [if_neg ht,if_neg hq]
  refine ⟨_,rfl,A,?_⟩
  show (enc (new c s l m).1.codec ((new c s l m).1.cv,(new c s l m).1.ci) zs).1=_
  rw [A]
 obtain ⟨x,hx,G,F⟩:=D
 obtain ⟨k1,k2,J,I,H⟩:=hk x (by rw [hx];simp)
 have N:=h.src
 rw [hx] at B
 have M:x.src=(new c s l m).1.src:=by
  cases B with
  | noise _ h1 h2 z h3 h4=>exact h2
  | speech _ h1 h2 h3=>exact h2
 exact ⟨x,hx,G,by simpa using k1,by simpa using k2,by omega,by omega,by rw [F];exact encS_len c _ zs hs E hl⟩
theorem live_arr (u:Pt) (h:LisE 40 200 10 u 0 0 0) (hq:u.jt.q=[]) (x:Arr) (R:x.sq=0) (L:x.ti=0) (I:speechB x.ty=true) (X:x.pl.length≤1500) (T:Within 0 255 x.pl) :
 ∃ u':Pt,(Pk.follow u.tk x.sq).2.2=true∧(Jb.put u.jt 10 ⟨(Pk.follow u.tk x.sq).2.1,time u x,x.mrk,x.ty,x.pl⟩).2.2.2=0∧recv0 u 10 x=(u',1,[])∧u'.jt.ok∧u'.jt.q=[⟨50,⟨x.sq,x.ti,x.mrk,x.ty,x.pl⟩⟩]∧Jb.ptime u'.jt x.ti=50∧u'.wf∧chkT u' 50=0∧(run u' 50).2=[⟨50,decS x.ty x.pl,[]⟩]∧(run u' 50).1.jt.q=[]∧∀ a∈u'.jt.q,OkW a:=by
 obtain ⟨u',sds,f1,f2,K,f4,C,H,G⟩:=h.media (by omega) (by omega) (by decide) (by decide) (by decide) x (by simpa using R) (by simpa using L) (.inl I) X
 have Z:20*((0:Nat):Int)+10=10:=by decide
 rw [Z] at f2 K H G
 rw [hq] at H G
 have N:sds=[]:=H
 have B:u'.jt.q=[⟨50,⟨x.sq,x.ti,x.mrk,x.ty,x.pl⟩⟩]:=G
 have M:=C.jt.sm.ok
 have Y:u'.jt.on=true:=by
  rcases M.2.2.2.1 with D|D
  · exact D
  · rw [B] at D;simp at D
 have J:=C.skip
 obtain ⟨p1,F,E⟩:=J.play (by omega) (by omega) (by decide) (by decide)
 have V:20*(((0+1+1:Nat)):Int)+10=50:=by decide
 rw [V] at p1 F E
 have hd:=znx (now:=50) (q:=u'.jt.q) (by rw [B];intro a A;simp at A;rw [A];exact Int.le_refl _)
 rw [hd.1,B] at F
 rw [hd.2] at E
 have hb:=ztq I
 have U:¬x.ty=13:=by rcases zal.1 I with e|e|e<;>omega
 refine ⟨u',f1,f2,by rw [K,N],M,B,?_,C.wf,?_,?_,E,?_⟩
 · obtain ⟨j,P,O⟩:=C.jt.base Y
   unfold Jb.ptime
   rw [L,P,O]
   omega
 · exact J.chk (by omega) 50 (by omega) (by omega)
 · rw [F]
   simp [sounds,dec,U]
 · rw [B]
   intro a A
   simp at A
   rw [A]
   exact ⟨hb.1,hb.2,T,by show x.pl.length≤8000;omega⟩
end Sb
section
open Go.RowKit
structure LvS (W:World) (gW gc:Nat) (sA:Option Addr) (ss:List TF):Prop where
 rows:RowsAv W [gW,gc] 1 TF.row sA ss
 ints:∀ f∈ss,IntsAv W [gW,gc] .i16 f.A f.zs
section
variable {W W':World} {S T:List Nat} {base gW gc:Nat} {v v1:VL} {k k1:Ca} {u':Sb.Pt} {sA:Option Addr} {ss:List TF}
theorem LvS.chg (h:LvS W gW gc sA ss) (hc:Chg T W W') (hs:∀ x∈T,x ∈ [gW,gc]):LvS W' gW gc sA ss:=⟨h.rows.chg hc hs,fun f hf=>(h.ints f hf).chg hc hs⟩
theorem SyM.lvs (h:SyM W S base gW gc v k):LvS W gW gc v.sA v.ss:=by
 refine ⟨⟨Owns.rows (l:=v.ss) (row:=TF.row) h.sent rfl (fun a=>rfl),fun h0 b off e hb => ?_⟩,fun f hf=>(h.ints f hf).sub (fun x hx => ?_)⟩
 · have B:ownB v.sA=some b:=by rw [e];rfl
   simp at hb
   rcases hb with A|A
   · rw [A] at B;exact h.sW B
   · rw [A] at B;exact h.sC B
 · simp at hx
   rcases hx with A|A
   · rw [A];exact h.gS
   · rw [A];exact h.ca.gcS
structure LvF (gW gc:Nat) (v1:VL) (u':Sb.Pt) (t:Int) (v:VL) (W:World):Prop where
 blk:Blk W gW 86 (v.row gc).toArray
 up:v.u.p=u'
 uq:v.u.l.map TW.w=u'.jt.q
 un:v.u.l.length=v.u.n
 uc:v.u.n≤v.u.c
 um:v.u.c≤maxLen
 now:v.now=t
 done:v.done=v1.done
 ds:v.ds=[(50,0)]
 dc:1≤v.dc
 ss:v.ss=v1.ss
 q:QAv W [gW,gc] v.u.A v.u.l
 due:RowsAv W [gW,gc] 2 duRow v.dA v.ds
 st:LvS W gW gc v.sA v.ss
theorem LvF.chg (h:LvF gW gc v1 u' t v W) (hc:Chg T W W') (hs:∀ x∈T,x ∈ [gW,gc]) (hb:Blk W' gW 86 (v.row gc).toArray):LvF gW gc v1 u' t v W' :=
 ⟨hb,h.up,h.uq,h.un,h.uc,h.um,h.now,h.done,h.ds,h.dc,h.ss,h.q.chg hc hs,h.due.chg hc hs,h.st.chg hc hs⟩
theorem LvF.later (h:LvF gW gc v1 u' t v W) (hb:Below W.heap.size W W'):LvF gW gc v1 u' t v W':=h.chg (T:=[]) (Chg.of_below hb) (by simp) (h.blk.later hb)
structure LvC (v1:VL) (k1:Ca) (pc:Pc) (k9:Sb.Pkt) (u':Sb.Pt):Prop where
 ps:k1.ps=[pc]
 at_:pc.at_=10
 zs:pc.zs=Pk.bytes k9.pk
 kn:k1.now=0
 now:v1.now=0
 done:v1.done = -1
 ds:v1.ds=[]
 dA:v1.dA=none
 dc:v1.dc=0
 cnt:v1.count=0
 ss:v1.ss.length=1
 ok:k9.ok
 sp:speechB k9.ty=true
 sq:k9.sq=0
 wf:v1.u.p.wf
 chk:Sb.chkT v1.u.p 10=0
 uq:v1.u.p.jt.q=[]
 ul:v1.u.l=[]
 un:v1.u.n=0
 um:v1.u.c≤maxLen
 fo:(Pk.follow v1.u.p.tk k9.sq).2.2=true
 pu:(Jb.put v1.u.p.jt 10 ⟨(Pk.follow v1.u.p.tk k9.sq).2.1,Sb.time v1.u.p ⟨k9.mrk,k9.ty,k9.sq,k9.ti,k9.pl⟩,k9.mrk,k9.ty,k9.pl⟩).2.2.2=0
 re:Sb.recv0 v1.u.p 10 ⟨k9.mrk,k9.ty,k9.sq,k9.ti,k9.pl⟩=(u',1,[])
 jo:u'.jt.ok
 jq:u'.jt.q=[⟨50,⟨k9.sq,k9.ti,k9.mrk,k9.ty,k9.pl⟩⟩]
 pt:Jb.ptime u'.jt k9.ti=50
end
def LvI (W0:World) (gW gc base:Nat) (S:List Nat) (v1:VL) (k1:Ca) (u':Sb.Pt) (n:Nat) (v:VL) (k:Ca) (W:World):Prop :=
 Chg [gW,gc] W0 W∧((n=0∧v=v1∧k=k1∧SyM W S base gW gc v1 k1)∨(0<n∧k.ps=[]∧Blk W gc 253 k.row.toArray∧gW≠gc∧LvF gW gc v1 u' 10 v W))
def LvJ (W0:World) (gW gc:Nat) (v1:VL) (bs:List Int) (u':Sb.Pt) (n:Nat) (v:VL) (k:Ca) (W:World) (A:Option Addr) (ds:List Dg) (j:Nat):Prop :=
 Chg [gW,gc] W0 W∧n=0∧ds.length=1∧k.ps=[]∧Blk W gc 253 k.row.toArray∧RowsAv W [gW,gc] 5 Dg.row A ds∧gW≠gc ∧
  ((j=0∧v = { v1 with now:=10 } ∧ Blk W gW 86 (VL.row { v1 with now:=10 } gc).toArray∧LvS W gW gc v1.sA v1.ss∧∀ d∈ds,d.zs=bs∧d.zs.length≤d.c∧IntsAt W W.heap.size .u8 d.A d.zs)∨(j=1∧LvF gW gc v1 u' 10 v W))
theorem ztf {S:List Nat} (C:LvC v1 k1 pc k9 u'):UnK gW gc 49 (LvI W0 gW gc base S v1 k1 u') (LvJ W0 gW gc v1 (Pk.bytes k9.pk) u') where
 ib:=fun n v k W h=>by
  rcases h.2 with ⟨_,rfl,rfl,h⟩|⟨_,_,_,_,h⟩
  · exact h.blk
  · exact h.blk
 il:=fun n v k W h W' hb=>by
  refine ⟨h.1.trans (Chg.of_below hb),?_⟩
  rcases h.2 with ⟨h0,rfl,rfl,h⟩|⟨h0,h1,h2,h3,h⟩
  · exact .inl ⟨h0,rfl,rfl,h.later hb⟩
  · exact .inr ⟨h0,h1,h2.later hb,h3,h.later hb⟩
 ib2:=fun n v k W h=>by
  rcases h.2 with ⟨_,rfl,rfl,h⟩|⟨_,_,_,h3,_⟩
  · exact h.ne
  · exact h3
 nx:=fun n v k W h=>by
  rcases h.2 with ⟨_,rfl,rfl,h⟩|⟨_,h1,h2,_,_⟩
  · exact zdk gc _ W h.ca.blk (Owns.rows (l:=_) (row:=Pc.row) h.ca.own rfl (fun a=>rfl)) h.ca.ok (by rw [C.ps];simp)
  · exact zdk gc k W h2 (by rw [h1];exact RowsAt.nil) (by rw [h1];intro p hp;cases hp) (by rw [h1];simp)
 rc:=fun n v k W h hn s hs W1 Pr aC V R=>by
  obtain ⟨D,h⟩:=h
  rcases h with ⟨rfl,rfl,rfl,M⟩|⟨_,h1,_,_,_⟩
  rotate_left
  · obtain ⟨p,hp,_⟩:=hs
    rw [h1] at hp;cases hp
  obtain ⟨p,hp,rfl,_⟩:=hs
  rw [C.ps] at hp
  obtain rfl:p=pc:=by simpa using hp
  have Fj:max v.now p.at_=10:=by rw [C.now,C.at_];decide
  rw [Fj] at Pr ⊢
  have K:Chg [gW] W V:=aC.trans (Chg.of_below R)
  have H:gc ∉ [gW]:=by simp;exact fun e=>M.ne e.symm
  have ca:=M.ca.mv (Mv.of_chg K (by intro x hx;simp at hx;rw [hx];exact M.gS)) H (fun g hg hx=>by simp at hx;rw [hx] at hg;exact M.pW hg)
  have L:dueP 10 k.ps=[p]:=by simp [dueP,C.ps,C.at_]
  have Cs:restP 10 k.ps=[]:=by simp [restP,C.ps,C.at_]
  have E:∀ x ∈ [gW,gc],x<V.heap.size:=by
   intro x hx
   simp at hx
   rcases hx with e|e
   · rw [e];exact ca.lt gW M.gS
   · rw [e];exact ca.lt gc ca.gcS
  refine (zoc gc base k 10 V ca.blk ⟨Owns.rows (l:=_) (row:=Pc.row) ca.own rfl (fun a=>rfl),fun h0 b off e hb=>by
   simp at hb
   rw [hb] at e
   exact ca.ne (by rw [e];rfl)⟩ ca.ok (by rw [C.ps];simp) (fun q hq=>⟨(ca.pay q hq).1.sub (fun x hx=>by simp at hx;rw [hx];exact ca.gcS),(ca.pay q hq).2⟩) (by rw [C.kn];decide) (by decide) (by rw [L];simp) (zwz (by rw [L];rfl) _)).mono ?_
  rintro e w' ⟨A',c',ds,rA,rc,rfl,y,z,Ss,J,AJ,AI,I⟩
  rw [L] at y z
  have AK:ds.length=1:=y
  refine ⟨A',c',ds,_,rfl,by omega,by omega,I,fun w2 Fi B=>⟨?_,rfl,AK,Cs,B.blk AJ H,?_,M.ne, .inl ⟨rfl,rfl,Fi,?_,fun d hd => ?_⟩⟩⟩
  · exact D.trans ((K.more (by simp)).trans ((I.more (by simp)).trans (B.more (by simp))))
  · exact (RowsAv.of_new Ss E).chg B (by simp)
  · exact ((M.lvs.chg K (by simp)).chg I (by simp)).chg B (by simp)
  · obtain ⟨q,hq,tP⟩:=z d hd
    obtain rfl:q=p:=by simpa using hq
    refine ⟨by rw [tP,C.zs],(J d hd).2,?_⟩
    have h9:IntsAv w' [gW] .u8 d.A d.zs:=⟨(J d hd).1.1,fun h0 b off e hb=>by
     have:=(J d hd).1.2 h0 b off e
     have:=E b (by simp at hb;simp [hb])
     omega⟩
    exact (h9.chg B (fun _ h=>h)).1
 jb:=fun n v k W A ds j h=>by
  obtain ⟨_,_,_,_,_,_,_,⟨_,rfl,h,_⟩|⟨_,h⟩⟩:=h
  · exact h
  · exact h.blk
 jr:=fun n v k W A ds j h=>h.2.2.2.2.2.1.1
 ar:=fun n v k W A ds j d h hd=>by
  obtain ⟨D,h0,h1,h2,h3,h4,h5,⟨rfl,rfl,hB,F,Fh⟩|⟨rfl,h⟩⟩:=h
  rotate_left
  · have:=(List.getElem?_eq_some_iff.1 hd).1
    omega
  obtain ⟨z1,O,N⟩:=Fh d (List.mem_of_getElem? hd)
  have w:Sb.chkT v1.u.p 10=0:=C.chk
  have t:=C.wf
  have Z:=t.seed
  have Ko:k9.ty≠101:=by rcases zal.1 C.sp with e|e|e<;>omega
  have hK:∀ a∈u'.jt.q,I64 a.m.sq:=by
   rw [C.jq]
   intro a P
   simp at P
   rw [P]
   show I64 k9.sq
   rw [C.sq]
   exact ⟨by decide,by decide⟩
  rw [z1] at O N
  have Yl:=hB.lt
  have Sq:=h3.lt
  have E:∀ x ∈ [gW,gc],x<W.heap.size:=by intro x hx;simp at hx;rcases hx with e|e<;>rw [e]<;>assumption
  have hM:LnM W [gW,gc] gW { v1 with now:=10 } := ⟨by show v1.ds.length≤v1.dc;rw [C.ds];simp,by simp,E,by show RowsAv W _ 2 duRow v1.dA v1.ds;rw [C.ds];exact ⟨RowsAt.nil' rfl,fun h=>absurd h (by simp)⟩,⟨F.rows.1,fun h0 b off e hb=>F.rows.2 h0 b off e (by simp at hb;rw [hb];simp)⟩,fun f hf=>(F.ints f hf).sub (by simp)⟩
  refine (zwb gW gc { v1 with now:=10 } k9 C.ok u' d.A d.zs.length d.c W hB (by rw [z1]) (by rw [z1];exact O) N [gW,gc] hM C.ds (by show k9.sq<(v1.ss.length:Int);rw [C.sq,C.ss];decide) Ko C.jo (by rw [C.jq];simp) hK (by show (10:Int)<_;rw [C.pt];decide) (by show v1.done<_;rw [C.done,C.sq];decide) (by show (0:Int)≤10;decide) (by show (10:Int)≤100000000;decide) (by show 0≤v1.count;rw [C.cnt];decide) (by show v1.count≤_;rw [C.cnt];decide) (fun V o cm Q Y i X R hP => ?_)).mono ?_
  · have ET:RC V v1.u.p v1.u.A [] v1.u.n v1.u.c (k9.rx o cm Q Y i X) 10:=⟨C.uq.symm,C.un.symm,by rw [C.un];decide,by rw [C.un];omega,C.um,⟨RowsAt.nil,fun _ h=>by cases h⟩,(fun _ h=>by cases h),by rw [C.uq];exact (fun _ h=>by cases h),Z.1,Z.2,C.ok.ty0,Int.le_trans C.ok.ty1 (by decide),C.ok.sq0,C.ok.sq1,C.ok.ti0,C.ok.ti1,C.ok.len,hP,by decide,by decide⟩
    have h:=zed ET t rfl w (.inl C.sp) C.fo C.pu
    have e:Sb.recv0 v1.u.p 10 (k9.rx o cm Q Y i X).arr=(u',1,[]):=C.re
    rw [e] at h
    exact h
  · rintro e w' ⟨rfl,A',n',c',l',dA,Oc,Uj,U,q1,q2,q3,q4,hQ,T,G⟩
    have DU:VL.beg ({ v1 with now:=10,u:=⟨u',A',n',c',l'⟩ } : VL) k9.sq = { v1 with now:=10,u:=⟨u',A',n',c',l'⟩,least:=k9.sq,most:=k9.sq } := by unfold VL.beg;rw [if_pos C.cnt]
    have H:gc ∉ [gW]:=by simp;exact fun e=>h5 e.symm
    have hm:∀ x ∈ [gW],x ∈ [gW,gc]:=by simp
    rw [DU,C.pt,C.sq] at U
    rw [C.pt,C.sq] at T
    have hF:LvF gW gc v1 u' 10 _ w':=⟨U,rfl,q1,q2,q3,q4,rfl,rfl,rfl,Uj,rfl,hQ,T,F.chg G hm⟩
    exact ⟨rfl,_,D.trans (G.more hm),h0,h1,h2,G.blk h3 H,h4.chg G hm,h5, .inr ⟨rfl,hF⟩⟩
 fi:=fun n v k W A ds h=>by
  obtain ⟨D,h0,h1,h2,h3,h4,h5,⟨h6,_⟩|⟨h6,h⟩⟩:=h
  · omega
  · exact ⟨D, .inr ⟨Nat.succ_pos _,h2,h3,h5,h⟩⟩
end
section
attribute [local go_sem ↓] zab zac
attribute [local go_sem] zaa zad
open Go.RowKit
noncomputable def bg8_code:Code:=((Tryz.f33.body.bind (fromReg 8)).getD .skip)
def Ft.cut (f:Ft):Ft:=⟨f.lost,IntKind.u64.wrap f.d % 3001,f.again,IntKind.u64.wrap f.ad % 3001⟩
theorem u64_in (x:Int):0≤IntKind.u64.wrap x∧IntKind.u64.wrap x≤18446744073709551615:=by simp only [IntKind.wrap,IntKind.bits,IntKind.signed];simp;omega
theorem Ft.cut_ok (f:Ft):f.cut.ok:=by
 have h1:=u64_in f.d
 have h2:=u64_in f.ad
 unfold Ft.cut Ft.ok
 simp only
 omega
theorem zwl (k1 k2 bl bm:Int) (A:Option Addr) (c:Nat) (fs:List Ft) (W:World) (o:RowsAt W W.heap.size 4 Ft.row A fs) (hl:fs.length≤maxLen) {R:Ending→World→Prop}
 (h:∀ (W':World) (a:Act) (g1:Nat) (A':Option Addr) (c' n:Nat),Blk W' g1 77 #[.int .u8 k1, .int .u8 k2, .int .i64 bl, .int .i64 bm, .slice A fs.length c]→W.heap.size≤g1→n=((fs.take 120).map Ft.cut).length→Owns W' (W.heap.size+1) 131 4 A' n c' (((fs.take 120).map Ft.cut).flatMap Ft.row)→Below W.heap.size W W'→Fr 105 [(1, .pointer (some ⟨g1,0,none⟩)),(4, .slice A' n c')] a→firstWp Tryz.prog bg8_code (bodyPost Tryz.prog Tryz.f33 R) a W'):Calls Tryz.prog 33 #[.agg #[.int .u8 k1, .int .u8 k2, .int .i64 bl, .int .i64 bm, .slice A fs.length c]] W R:=by
 have hB:=Blk.new W 77 #[.int .u8 k1, .int .u8 k2, .int .i64 bl, .int .i64 bm, .slice A fs.length c]
 obtain ⟨W1,J⟩:=nm9 (W.alloc (.cells #[.int .u8 k1, .int .u8 k2, .int .i64 bl, .int .i64 bm, .slice A fs.length c] 77))
 obtain ⟨g1,O⟩:=nm9 W.heap.size
 have Q:Below W.heap.size W W1:=by rw [J];exact (Below.refl _ _).alloc (Nat.le_refl _) _
 rw [← J,← O] at hB
 have HB:=Z9 hB
 have H:=Z9 Q
 have HW:=Z9 J
 have HG:=Z9 O
 have Q7:=Z9 o
 have Ib:g1<W1.heap.size:=hB.lt
 clear hB Q J O o
 replace h:=Z9 h
 go_enter Tryz.func33,Tryz.ntmps33
 go_upto_region 2 with fail
 rw [← HW.out,← HG.out]
 go_wp2_with fail
 have j:W1.heap.size=W.heap.size+1:=by rw [HW.out];simp
 have z:=Z9 j
 clear j
 refine wp_loop_rounds (min fs.length 120+1) (zav (fun m a wr => ∃ (n:Nat) (A':Option Addr) (c':Nat),m+n=min fs.length 120∧Owns wr W1.heap.size 131 4 A' n c' (((fs.take n).map Ft.cut).flatMap Ft.row)∧Below W1.heap.size W1 wr∧Fr 105 [(1, .pointer (some ⟨g1,0,none⟩)),(4, .slice A' n c'),(5, .int .i64 (n:Int))] a) (fun m a wr hJ => ?_) (min fs.length 120) _ _ ⟨0,none,0,rfl,Owns.nil,Below.refl _ _,Fr.mk rfl ⟨rfl,rfl,rfl,trivial⟩⟩)
 obtain ⟨n,A',c',hm,p,hb,ha⟩:=hJ
 obtain ⟨s,rfl,Ak⟩:=ha
 simp only [rl9]
 obtain ⟨y,x,v,_⟩:=Ak
 rw [y,x,v]
 have P:=Z9 (HB.out.later hb)
 have y4:=P.out.at 4 (.slice A fs.length c) rfl
 have Qj:(0:Int)≤(n:Int):=by omega
 have HO:=Z9 p
 have N:=Z9 hb
 have T:=hb.size
 clear p hb y x v
 by_cases hlt:n<fs.length∧n<120
 rotate_left
 · have V:(fs.take n)=fs.take 120:=by
    by_cases h1:n<fs.length
    · have:n=120:=by omega
      rw [this]
    · rw [List.take_of_length_le (by omega),List.take_of_length_le (by omega)]
   have Ai:n=((fs.take 120).map Ft.cut).length:=by rw [← V];simp;omega
   have F:=HO.out
   rw [V] at F
   have i:=Z9 Ai
   replace F:=Z9 F
   clear Ai V
   have l:Below W.heap.size W wr:=H.out.trans (N.out.mono H.out.size)
   have Ba:W.heap.size≤g1:=by rw [HG.out];exact Nat.le_refl _
   by_cases h1:n<fs.length
   · have h2:¬n<120:=by omega
     have h3:(n:Int)<(fs.length:Int):=by omega
     have h4:¬(n:Int)<120:=by omega
     go_upto_region 8 with fail
     refine zao (by assumption) ?_
     exact h.out _ _ g1 A' c' n P.out Ba i.out (by rw [← z.out];exact F.out) l (Fr.mk rfl ⟨rfl,rfl,trivial⟩)
   · have h3:¬(n:Int)<(fs.length:Int):=by omega
     go_upto_region 8 with fail
     refine zao (by assumption) ?_
     exact h.out _ _ g1 A' c' n P.out Ba i.out (by rw [← z.out];exact F.out) l (Fr.mk rfl ⟨rfl,rfl,trivial⟩)
 obtain ⟨h1,h2⟩:=hlt
 have h3:(n:Int)<(fs.length:Int):=by omega
 have h4:(n:Int)<120:=by omega
 obtain ⟨f,hf⟩:∃ f,fs[n]? = some f:=⟨_,List.getElem?_eq_getElem h1⟩
 obtain ⟨b,off,rfl,G,z0,z1,L,K⟩:=zok Q7.out hf
 have C:∀ q:Addr,q.block<W.heap.size→wr.cell? q=W.cell? q:=fun q hq=>(N.out.cell (Nat.lt_of_lt_of_le hq H.out.size)).trans (H.out.cell hq)
 replace z0:=(C ⟨b,off+n*4,none⟩ G).trans z0
 replace z1:=(C ⟨b,off+n*4+1,none⟩ G).trans z1
 replace L:=(C ⟨b,off+n*4+2,none⟩ G).trans L
 replace K:=(C ⟨b,off+n*4+3,none⟩ G).trans K
 have AV:b<wr.heap.size:=Nat.lt_of_lt_of_le G (Nat.le_trans H.out.size T)
 obtain ⟨D,u⟩:∃ D,IntKind.u64.wrap f.d=D:=⟨_,rfl⟩
 obtain ⟨E,t⟩:∃ E,IntKind.u64.wrap f.ad=E:=⟨_,rfl⟩
 have U:=u64_in f.d
 have Y:=u64_in f.ad
 rw [u] at U
 rw [t] at Y
 obtain ⟨U,hD1⟩:=U
 obtain ⟨Y,hE1⟩:=Y
 have w1:IntKind.i64.wrap (D % 3001)=D % 3001:=by simp only [IntKind.wrap,IntKind.bits,IntKind.signed];simp;omega
 have w2:IntKind.i64.wrap (E % 3001)=E % 3001:=by simp only [IntKind.wrap,IntKind.bits,IntKind.signed];simp;omega
 have hcut:f.cut=⟨f.lost,D % 3001,f.again,E % 3001⟩:=by unfold Ft.cut;rw [u,t]
 have GI:=Z9 hcut
 have HF:=Z9 hf
 clear C hcut hf
 go_upto_region 7 with fail
 obtain ⟨X,M⟩:=nm9 (wr.alloc (.cells #[.bool f.lost, .int .i64 (D % 3001), .bool f.again, .int .i64 (E % 3001)] 131))
 have B:=Blk.new wr 131 #[.bool f.lost, .int .i64 (D % 3001), .bool f.again, .int .i64 (E % 3001)]
 have I:Below wr.heap.size wr X:=by rw [M];exact (Below.refl _ _).alloc (Nat.le_refl _) _
 rw [← M] at B ⊢
 have v0:=B.at 0 (.bool f.lost) rfl
 have v1:=B.at 1 (.int .i64 (D % 3001)) rfl
 have v2:=B.at 2 (.bool f.again) rfl
 have v3:=B.at 3 (.int .i64 (E % 3001)) rfl
 have Z:=Z9 (HO.out.later9 I)
 have Oq:=Z9 I
 have Wr:n+1≤maxLen:=by unfold maxLen;omega
 have Ue:(n+1)*32≤140737488355328:=by omega
 have w:W1.heap.size≤X.heap.size:=Nat.le_trans T I.size
 clear M B I z0 z1 L K y4
 go_wp2_with (at_builtin;refine zan (w0:=X) rfl _ _ 75 rfl W1.heap.size 131 4 32 _ Tryz.underlying75 zoj rfl (by decide) A' n c' _ rfl Z.out [.bool f.lost, .int .i64 (D % 3001), .bool f.again, .int .i64 (E % 3001)] rfl (by simp [Value.oneCell']) rfl Wr Ue w ?_;intro A9 c9 v9 qo Bh Ar)
 have Ja:Below W1.heap.size W1 v9:=(N.out.trans (Oq.out.mono T)).grown Bh w (fun g e=>(Z.out.block g e).1)
 have ZI:Owns v9 W1.heap.size 131 4 A9 (n+1) c9 (((fs.take (n+1)).map Ft.cut).flatMap Ft.row):=by
  rw [List.take_add_one,HF.out,List.map_append,List.flatMap_append]
  simp only [Option.toList,List.map_cons,List.map_nil,List.flatMap_cons,List.flatMap_nil,List.append_nil,GI.out]
  exact qo
 exact ⟨m-1,by omega,n+1,A9,c9,by omega,ZI,Ja,Fr.mk rfl ⟨rfl,rfl,rfl,trivial⟩⟩
noncomputable def bg9_code:Code:=((Tryz.f33.body.bind (findRegS 9)).getD .skip)
theorem zyd {Q:Exit→Act→World→Prop} (g1:Nat) (x c bl bm P:Int) (q:Sb.Pt) (W:World) (x1:W.cell? ⟨g1,1,none⟩=some (.int .u8 x)) (Z:W.cell? ⟨g1,2,none⟩=some (.int .i64 bl)) (U:W.cell? ⟨g1,3,none⟩=some (.int .i64 bm)) (M:∀ V:World,Calls Tryz.prog 6 #[.int .u8 x] V fun e w'=>e = .returned (.int .u8 c)∧Below V.heap.size V w') (L:∀ V:World,Calls Tryz.prog 5 #[.int .u8 c, .int .u32 8, .agg #[.int .i64 bl, .int .i64 bm]] V fun e w'=>e = .returned (.tuple #[.agg (PA q none 0 0), .int .u8 P])∧Below V.heap.size V w') (H:∀ (ch:_) (a:Act) (d:Tmp) (u:Value) (w:World),Q (.panic ch) (a.put (some d) u) w→Q (.panic ch) a w)
 (h:∀ (J:World) (g3:Nat) (b f p t g i j l m:Value),Hid (PB J g3 q none 0 0)→W.heap.size≤g3→Hid (Below W.heap.size W J)→Q .normal ⟨#[s0, .pointer (some ⟨g1,0,none⟩),s2,s3,s4,s5,s6,s7,s8, .pointer (some ⟨g3,0,none⟩), .int .u8 P,Nv,Hz,Iq,Ox,Kc,Kb,Na,Jo,Nu,Mz,My,Mw,Mu,Mt,Ms,Mr,Mq,Mp,Mo,Ns,Nr,Nq,Np,Mn,Mm,Ml,Mk,Mj,Mi,Ka,Jz,Jy,Mh,Mg,Mf,Me,Mc,Mb,Ma,Lz,Ly,Lx,Lw,b,f,p,t,g,i,j,l,m,Lt,Ls,Lr,Lq,Lp,Jn,Lo,Ln,Lm,Ll,Lk,Lj,Li,Lh,Lg,Lf,Le,Ld,Lc,Lb,La,Kz,Ky,Kx,Kw,Kv,Ku,Kt,Ks,Kr,Kq,Jf,Jx,Jw,Je,Jv,Ju,Ci,Ch,Cg,Cf,Ce],[]⟩ J):bg9_code.wp Tryz.prog Q ⟨#[s0, .pointer (some ⟨g1,0,none⟩),s2,s3,s4,s5,s6,s7,s8,s9,Jh,Nv,Hz,Iq,Ox,Kc,Kb,Na,Jo,Nu,Mz,My,Mw,Mu,Mt,Ms,Mr,Mq,Mp,Mo,Ns,Nr,Nq,Np,Mn,Mm,Ml,Mk,Mj,Mi,Ka,Jz,Jy,Mh,Mg,Mf,Me,Mc,Mb,Ma,Lz,Ly,Lx,Lw,Jg,Nn,Lv,Lu,Nm,Nl,Nk,Nj,Ni,Lt,Ls,Lr,Lq,Lp,Jn,Lo,Ln,Lm,Ll,Lk,Lj,Li,Lh,Lg,Lf,Le,Ld,Lc,Lb,La,Kz,Ky,Kx,Kw,Kv,Ku,Kt,Ks,Kr,Kq,Jf,Jx,Jw,Je,Jv,Ju,Ci,Ch,Cg,Cf,Ce],[]⟩ W:=by
 replace M:=Z9 M
 replace L:=Z9 L
 have hq:=Z9 h
 clear h
 conv=>arg 2;whnf
 refine wp_region_held_drew (S:=fun w'=>Below W.heap.size W w') (by kernel_rfl) (Below.drew (Below.refl _ _)) (fun A => ?_)
 obtain ⟨X,F⟩:=nm9 W.drew
 rw [← F] at A ⊢
 clear F
 iterate 2
  refine tkM 12 (v:=?_) rfl rfl ?_ A ?_ (q9 H)
  rotate_left
  · (intro w I;have z:=zae I x1;clear I;go_simp;try with_reducible rfl)
  try simp only [ss9]
 refine tkB 3 rfl A ?_ (q9 H)
 try simp only [ss9]
 refine tkA 4 (v:=?_) rfl ?_ A ?_ (q9 H)
 rotate_left
 · (intro w I;have c1:=zae I Z;have c2:=zae I U;clear I;go_simp;try with_reducible rfl)
 try simp only [ss9]
 all_goals try
  fail_if_success (have hx:=C)
  refine rd2 2 9 (by kernel_rfl) rfl rfl (fun K B=>?_) fun K B=>?_
  rotate_left
  go_simp
  have C:Hid (Blk (X.alloc (Obj.cells #[.int .u8 0, .int .u32 0, .int .u16 0, .int .u32 0, .bool false, .int .i64 0, .int .i64 0, .int .i64 0, .bool false, .int .u8 0, .int .u8 0, .int .u32 0, .int .i64 0, .int .i64 0, .int .i64 0, .int .i64 0, .int .i64 0, .bool false, .int .i64 0, .int .i64 0, .int .i64 0, .int .i64 0, .int .i64 0, .int .i64 0, .slice none 0 0, .int .i64 0, .int .i64 0, .int .i64 0, .bool false, .int .i64 0, .int .i64 0, .int .i64 0, .bool false, .int .i64 0, .int .i64 0, .int .i64 0, .int .i64 0, .int .i64 0, .int .i64 0, .int .i64 0, .bool false, .int .u32 0, .int .u8 0, .int .i64 0, .bool false, .int .u32 0, .int .u32 0, .int .u32 0] 45)) X.heap.size 45 (PL Sb.Pt.zero none 0 0).toArray):=Z9 (Blk.new _ _ _)
  have G:W.heap.size≤X.heap.size:=A.size
  obtain ⟨g8,D⟩:=nm9 X.heap.size
  refine B.out _ _ ?_ (fun A => ?_)
  · exact zaj A _
  clear B K
  try simp only [ss9]
  rw [← D] at C G ⊢
  have R:=Z9 D
  clear D
  obtain ⟨Y,E⟩:=nm9 (X.alloc (Obj.cells #[.int .u8 0, .int .u32 0, .int .u16 0, .int .u32 0, .bool false, .int .i64 0, .int .i64 0, .int .i64 0, .bool false, .int .u8 0, .int .u8 0, .int .u32 0, .int .i64 0, .int .i64 0, .int .i64 0, .int .i64 0, .int .i64 0, .bool false, .int .i64 0, .int .i64 0, .int .i64 0, .int .i64 0, .int .i64 0, .int .i64 0, .slice none 0 0, .int .i64 0, .int .i64 0, .int .i64 0, .bool false, .int .i64 0, .int .i64 0, .int .i64 0, .bool false, .int .i64 0, .int .i64 0, .int .i64 0, .int .i64 0, .int .i64 0, .int .i64 0, .int .i64 0, .bool false, .int .u32 0, .int .u8 0, .int .i64 0, .bool false, .int .u32 0, .int .u32 0, .int .u32 0] 45))
  rw [← E] at C A ⊢
  clear E
  obtain ⟨X,F⟩:=nm9 Y
  subst F
 all_goals try
  refine rd1 2 (by kernel_rfl) rfl fun K B=>?_
 all_goals
  go_simp
  try have n:=Z9 C.out.lt
  refine (M.out _).mono ?_
  rintro e X ⟨rfl,O⟩
  try replace C:=Z9 (C.out.later O)
  refine B.out _ _ ?_ (fun A => ?_)
  · exact zak O A
  clear B K O
  try simp only [ss9]
 all_goals try
  fail_if_success (have hx:=C)
  refine rd2 5 9 (by kernel_rfl) rfl rfl (fun K B=>?_) fun K B=>?_
  rotate_left
  go_simp
  have C:Hid (Blk (X.alloc (Obj.cells #[.int .u8 0, .int .u32 0, .int .u16 0, .int .u32 0, .bool false, .int .i64 0, .int .i64 0, .int .i64 0, .bool false, .int .u8 0, .int .u8 0, .int .u32 0, .int .i64 0, .int .i64 0, .int .i64 0, .int .i64 0, .int .i64 0, .bool false, .int .i64 0, .int .i64 0, .int .i64 0, .int .i64 0, .int .i64 0, .int .i64 0, .slice none 0 0, .int .i64 0, .int .i64 0, .int .i64 0, .bool false, .int .i64 0, .int .i64 0, .int .i64 0, .bool false, .int .i64 0, .int .i64 0, .int .i64 0, .int .i64 0, .int .i64 0, .int .i64 0, .int .i64 0, .bool false, .int .u32 0, .int .u8 0, .int .i64 0, .bool false, .int .u32 0, .int .u32 0, .int .u32 0] 45)) X.heap.size 45 (PL Sb.Pt.zero none 0 0).toArray):=Z9 (Blk.new _ _ _)
  have G:W.heap.size≤X.heap.size:=A.size
  obtain ⟨g8,D⟩:=nm9 X.heap.size
  refine B.out _ _ ?_ (fun A => ?_)
  · exact zaj A _
  clear B K
  try simp only [ss9]
  rw [← D] at C G ⊢
  have R:=Z9 D
  clear D
  obtain ⟨Y,E⟩:=nm9 (X.alloc (Obj.cells #[.int .u8 0, .int .u32 0, .int .u16 0, .int .u32 0, .bool false, .int .i64 0, .int .i64 0, .int .i64 0, .bool false, .int .u8 0, .int .u8 0, .int .u32 0, .int .i64 0, .int .i64 0, .int .i64 0, .int .i64 0, .int .i64 0, .bool false, .int .i64 0, .int .i64 0, .int .i64 0, .int .i64 0, .int .i64 0, .int .i64 0, .slice none 0 0, .int .i64 0, .int .i64 0, .int .i64 0, .bool false, .int .i64 0, .int .i64 0, .int .i64 0, .bool false, .int .i64 0, .int .i64 0, .int .i64 0, .int .i64 0, .int .i64 0, .int .i64 0, .int .i64 0, .bool false, .int .u32 0, .int .u8 0, .int .i64 0, .bool false, .int .u32 0, .int .u32 0, .int .u32 0] 45))
  rw [← E] at C A ⊢
  clear E
  obtain ⟨X,F⟩:=nm9 Y
  subst F
 all_goals try
  refine rd1 5 (by kernel_rfl) rfl fun K B=>?_
 all_goals
  go_simp
  try have n:=Z9 C.out.lt
  refine (L.out _).mono ?_
  rintro e X ⟨rfl,N⟩
  try replace C:=Z9 (C.out.later N)
  refine B.out _ _ ?_ (fun A => ?_)
  · exact zak N A
  clear B K N
  try simp only [ss9]
 all_goals
  refine tkB 6 rfl A ?_ (q9 H)
  try simp only [ss9]
  refine tkB 7 rfl A ?_ (q9 H)
  try simp only [ss9]
  refine tkB 8 rfl A ?_ (q9 H)
  try simp only [ss9]
 all_goals try
  fail_if_success (have hx:=C)
  refine rd1 9 (by kernel_rfl) rfl fun K B=>?_
  go_simp
  have C:Hid (Blk (X.alloc (Obj.cells #[.int .u8 0, .int .u32 0, .int .u16 0, .int .u32 0, .bool false, .int .i64 0, .int .i64 0, .int .i64 0, .bool false, .int .u8 0, .int .u8 0, .int .u32 0, .int .i64 0, .int .i64 0, .int .i64 0, .int .i64 0, .int .i64 0, .bool false, .int .i64 0, .int .i64 0, .int .i64 0, .int .i64 0, .int .i64 0, .int .i64 0, .slice none 0 0, .int .i64 0, .int .i64 0, .int .i64 0, .bool false, .int .i64 0, .int .i64 0, .int .i64 0, .bool false, .int .i64 0, .int .i64 0, .int .i64 0, .int .i64 0, .int .i64 0, .int .i64 0, .int .i64 0, .bool false, .int .u32 0, .int .u8 0, .int .i64 0, .bool false, .int .u32 0, .int .u32 0, .int .u32 0] 45)) X.heap.size 45 (PL Sb.Pt.zero none 0 0).toArray):=Z9 (Blk.new _ _ _)
  have G:W.heap.size≤X.heap.size:=A.size
  obtain ⟨g8,D⟩:=nm9 X.heap.size
  refine B.out _ _ ?_ (fun A => ?_)
  · exact zaj A _
  clear B K
  try simp only [ss9]
  rw [← D] at C G ⊢
  have R:=Z9 D
  clear D
  obtain ⟨Y,E⟩:=nm9 (X.alloc (Obj.cells #[.int .u8 0, .int .u32 0, .int .u16 0, .int .u32 0, .bool false, .int .i64 0, .int .i64 0, .int .i64 0, .bool false, .int .u8 0, .int .u8 0, .int .u32 0, .int .i64 0, .int .i64 0, .int .i64 0, .int .i64 0, .int .i64 0, .bool false, .int .i64 0, .int .i64 0, .int .i64 0, .int .i64 0, .int .i64 0, .int .i64 0, .slice none 0 0, .int .i64 0, .int .i64 0, .int .i64 0, .bool false, .int .i64 0, .int .i64 0, .int .i64 0, .bool false, .int .i64 0, .int .i64 0, .int .i64 0, .int .i64 0, .int .i64 0, .int .i64 0, .int .i64 0, .bool false, .int .u32 0, .int .u8 0, .int .i64 0, .bool false, .int .u32 0, .int .u32 0, .int .u32 0] 45))
  rw [← E] at C A ⊢
  clear E
  obtain ⟨X,F⟩:=nm9 Y
  subst F
 all_goals
  refine rd1 10 (by kernel_rfl) rfl fun K B=>?_
  refine zam rfl 45 (.tmp 9) (.tmp 61) rfl g8 0 rfl 45 _ C.out (PL q none 0 0) rfl zai (Nat.le_refl 48) rfl (PL q none 0 0) rfl ?_
  intro WF y o
  have T:=o.bel (show Bel W X from A) G
  refine B.out _ _ T (fun A => ?_)
  clear B K
  try simp only [ss9]
  refine tkB 11 rfl A ?_ (q9 H)
  try simp only [ss9]
  refine wpAnyH_done (by kernel_rfl) ?_ _
  exact hq.out WF g8 _ _ _ _ _ _ _ _ _ (Z9 y) G (Z9 T)
def vl0 (q1 q2:Sb.Pt):VL:=⟨⟨q1,none,0,0,[]⟩,⟨q2,none,0,0,[]⟩,0, -1,none,0,[],none,0,[],0,0,0,(0,0),(0,0)⟩
theorem zye {k1:Int} (hB:Blk W g1 77 #[.int .u8 k1, .int .u8 k2, .int .i64 bl, .int .i64 bm, .slice fA fn fc]) (hO:Owns W (W0.heap.size+1) 131 4 A' fs.length c' (fs.flatMap Ft.row)) (hU:Below W0.heap.size W0 W) (hg:W0.heap.size≤g1) (As:∀ f∈fs,f.ok) (hl:fs.length≤120) (a1:0≤k1∧k1≤255) (a2:0≤k2∧k2≤255) {R:Ending→World→Prop}
 (h:∀ (W':World) (gW gc:Nat) (A2:Option Addr) (c2:Nat),Blk W' gW 86 ((vl0 (Sb.new (cod3 k1) 7 1 1).1 (Sb.new (cod3 k2) 8 bl bm).1).row gc).toArray→Blk W' gc 253 (Ca.row ⟨A2,c2,fs,none,0,[],0,0,0⟩).toArray→W0.heap.size≤gc→gc<gW→Owns W' W0.heap.size 131 4 A2 fs.length c2 (fs.flatMap Ft.row)→ownB A2≠some gc→ownB A2≠some gW→Below W0.heap.size W0 W'→R (.returned (.tuple #[.pointer (some ⟨gW,0,none⟩), .bool (decide (Jb.cfg bl bm))])) W')
 (a:Act) (ha:Fr 105 [(1, .pointer (some ⟨g1,0,none⟩)),(4, .slice A' fs.length c')] a):firstWp Tryz.prog bg8_code (bodyPost Tryz.prog Tryz.f33 R) a W:=by
 obtain ⟨s,rfl,Ak⟩:=ha
 simp only [rl9]
 obtain ⟨B,e4,_⟩:=Ak
 rw [B,e4]
 have x0:=hB.at 0 (.int .u8 k1) rfl
 have Z:∀ x,0≤cod3 x∧cod3 x≤255:=fun x=>by
  unfold cod3
  split
  · omega
  · split<;>omega
 have kC:=Z9 (fun V:World=>(zin k1 a1.1 a1.2 V).mono (R':=fun e w'=>e = .returned (.int .u8 (cod3 k1))∧Below V.heap.size V w') (by rintro e w' ⟨rfl,rfl⟩;exact ⟨rfl,Below.refl _ _⟩))
 have M:=Z9 (fun V:World=>zou (cod3 k1) 7 1 1 (Z k1).1 (Z k1).2 V)
 unfold NewP at M
 have Pb:(Sb.new (cod3 k1) 7 1 1).2=0:=by rw [Sb.new_src (zdw k1) (by decide)]
 rw [Pb] at M
 obtain ⟨q1,Bg⟩:=nm9 ((Sb.new (cod3 k1) 7 1 1).1)
 rw [← Bg] at M
 have l:=Z9 Bg
 have HB:=Z9 hB
 have HO:=Z9 hO
 have Q:=Z9 hU
 clear Bg Pb hB hO hU B e4
 refine zas ?_
 intro _ _
 go_upto_region 8 with fail
 go_wp2_with fail
 refine (kC.out _).mono ?_
 rintro e w1 ⟨rfl,Ab⟩
 have G:=Z9 Ab
 clear Ab
 go_wp2_with fail
 refine (M.out _).mono ?_
 rintro e w2 ⟨rfl,Ad⟩
 have I:=Z9 Ad
 clear Ad
 have BZ:Blk (w2.alloc (Obj.cells (PA Sb.Pt.zero none 0 0) 45)) w2.heap.size 45 (PL Sb.Pt.zero none 0 0).toArray:=Blk.new _ _ _
 go_upto_region 9 with (first|(refine zag rfl 45 (.tmp 7) (.tmp 52) rfl (w2.heap.size) 0 rfl 45 (PL Sb.Pt.zero none 0 0) BZ (PL q1 none 0 0) rfl zai (show 0+48≤48 by decide) rfl (PL q1 none 0 0) rfl ?_;intro WB P OB)|fail)
 have UB:Below w2.heap.size w2 WB:=OB.below ((Below.refl _ w2).alloc (Nat.le_refl _) _) (by simp) (Nat.le_refl _)
 have m:Below W.heap.size W WB:=(G.out.trans (I.out.mono G.out.size)).trans (UB.mono (Nat.le_trans G.out.size I.out.size))
 obtain ⟨g7,z⟩:=nm9 w2.heap.size
 rw [← z] at P ⊢
 have l9:W.heap.size≤g7:=by rw [z];exact Nat.le_trans G.out.size I.out.size
 have T:=HB.out.later m
 have O9:=HO.out.later9 m
 have UU:=Q.out.trans (m.mono Q.out.size)
 clear BZ OB UB z kC M x0
 have x1:=T.at 1 (.int .u8 k2) rfl
 have v:=T.at 2 (.int .i64 bl) rfl
 have t:=T.at 3 (.int .i64 bm) rfl
 have ME:=(fun V:World=>(zin k2 a2.1 a2.2 V).mono (R':=fun e w'=>e = .returned (.int .u8 (cod3 k2))∧Below V.heap.size V w') (by rintro e w' ⟨rfl,rfl⟩;exact ⟨rfl,Below.refl _ _⟩))
 have L:=(fun V:World=>zou (cod3 k2) 8 bl bm (Z k2).1 (Z k2).2 V)
 unfold NewP at L
 obtain ⟨O,Y⟩:=nm9 ((Sb.new (cod3 k2) 8 bl bm).2)
 rw [← Y] at L
 have UL:=Z9 (show (Jb.cfg bl bm→O=0)∧(¬Jb.cfg bl bm→O≠0) from ⟨fun h=>by rw [Y,Sb.new_src (zdw k2) h],fun h=>by rw [Y];exact (Sb.new_bad (fun hc=>h hc.2)).2⟩)
 obtain ⟨q2,Cu⟩:=nm9 ((Sb.new (cod3 k2) 8 bl bm).1)
 rw [← Cu] at L
 have n:=Z9 Cu
 have P:=Z9 P
 have UY:=Z9 T
 have TL:=Z9 O9
 have U:=Z9 UU
 clear Y Cu T O9 UU HB HO Q G I m
 refine zyd g1 k2 (cod3 k2) bl bm O q2 WB x1 v t ME L ?_ ?_
 · intro ch a d u w h;exact h
 intro wx b lU lT KB JZ lS lR lQ lP lO p hg9 K
 have CQ:=TL.out.later9 K.out
 have aU:=zdb (row:=Ft.row) (size:=4) (fun _=>rfl) (by decide) CQ rfl
 have QO:A'=none→fs=[]:=fun e=>by
  by_cases h0:0<fs.length
  · obtain ⟨g,A,_⟩:=CQ.form h0
    rw [e] at A;cases A
  · exact List.eq_nil_of_length_eq_zero (by omega)
 have E:W0.heap.size≤wx.heap.size:=Nat.le_trans U.out.size K.out.size
 have MC:=Z9 (zol A' c' fs wx aU.1 QO (by omega) As)
 have G:=Z9 (UY.out.later K.out)
 have TI:=Z9 (Blk.later P.out K.out)
 have p:=Z9 p.out
 have y:=Z9 (U.out.trans (K.out.mono U.out.size))
 clear CQ aU QO TL UY P U x1 v t ME L
 go_upto_region 10 with fail
 go_wp2_with fail
 refine MC.out.mono ?_
 rintro e w3 ⟨gc,A2,c2,rfl,o,QL,PJ,j,N⟩
 have C:=Z9 QL
 have D:=Z9 PJ
 have I:=Z9 (G.out.later N)
 have c:=Z9 (TI.out.later N)
 have i:=Z9 (Blk.later p.out N)
 have F:=Z9 (y.out.trans (N.mono y.out.size))
 clear QL PJ N G TI p y MC K
 have v:=I.out.at 2 (.int .i64 bl) rfl
 have t:=I.out.at 3 (.int .i64 bm) rfl
 by_cases H:Jb.cfg bl bm
 · have X:=UL.out.1 H
   rw [decide_eq_true H] at h
   obtain ⟨f1,f2,f3⟩:=H
   subst X
   go_upto_region 12 with fail
   go_wp2_with (first|(refine zaf rfl 45 (.tmp 7) rfl g7 0 rfl 45 (PL q1 none 0 0) c.out 48 _ Tryz.underlying45 zai (show 0+48≤48 by decide) (PA q1 none 0 0) rfl rfl ?_)|(refine zaf rfl 45 (.tmp 9) rfl b 0 rfl 45 (PL q2 none 0 0) i.out 48 _ Tryz.underlying45 zai (show 0+48≤48 by decide) (PA q2 none 0 0) rfl rfl ?_)|(refine wpList_buildTo rfl 86 _ rfl (some 102) rfl ((vl0 q1 q2).row gc).toArray (by kernel_rfl) ?_)|(refine wpList_boxTo rfl 86 (.tmp 102) rfl (some 103) rfl w3.heap.size rfl ((vl0 q1 q2).row gc).toArray rfl ?_)|fail)
   have B:=l.out
   have A:=n.out
   subst B A
   have J:=C.out.lt
   exact h _ w3.heap.size gc A2 c2 (Blk.new _ _ _) (C.out.push _) (Nat.le_trans E o) J ((D.out.base_mono E).alloc _) j (fun e=>by have:=(D.out.block _ e).2;omega) (F.out.alloc F.out.size _)
 · have X:=UL.out.2 H
   rw [decide_eq_false H] at h
   have er1:(O==0)=false:=by simpa using X
   have er2:decide (O=0)=false:=decide_eq_false X
   have hw:bl<1∨(1≤bl∧bm<bl)∨(1≤bl∧bl≤bm∧1000<bm):=by unfold Jb.cfg at H;omega
   clear H
   rcases hw with f1|⟨f1,f2⟩|⟨f1,f2,f3⟩
   · have DR:¬1≤bl:=by omega
     have DQ:decide (1≤bl)=false:=decide_eq_false DR
     go_upto_region 12 with fail
     go_wp2_with (first|(refine zaf rfl 45 (.tmp 7) rfl g7 0 rfl 45 (PL q1 none 0 0) c.out 48 _ Tryz.underlying45 zai (show 0+48≤48 by decide) (PA q1 none 0 0) rfl rfl ?_)|(refine zaf rfl 45 (.tmp 9) rfl b 0 rfl 45 (PL q2 none 0 0) i.out 48 _ Tryz.underlying45 zai (show 0+48≤48 by decide) (PA q2 none 0 0) rfl rfl ?_)|(refine wpList_buildTo rfl 86 _ rfl (some 102) rfl ((vl0 q1 q2).row gc).toArray (by kernel_rfl) ?_)|(refine wpList_boxTo rfl 86 (.tmp 102) rfl (some 103) rfl w3.heap.size rfl ((vl0 q1 q2).row gc).toArray rfl ?_)|fail)
     have B:=l.out
     have A:=n.out
     subst B A
     have J:=C.out.lt
     exact h _ w3.heap.size gc A2 c2 (Blk.new _ _ _) (C.out.push _) (Nat.le_trans E o) J ((D.out.base_mono E).alloc _) j (fun e=>by have:=(D.out.block _ e).2;omega) (F.out.alloc F.out.size _)
   · have DR:decide (1≤bl)=true:=decide_eq_true f1
     have DQ:¬bl≤bm:=by omega
     have QS:decide (bl≤bm)=false:=decide_eq_false DQ
     go_upto_region 12 with fail
     go_wp2_with (first|(refine zaf rfl 45 (.tmp 7) rfl g7 0 rfl 45 (PL q1 none 0 0) c.out 48 _ Tryz.underlying45 zai (show 0+48≤48 by decide) (PA q1 none 0 0) rfl rfl ?_)|(refine zaf rfl 45 (.tmp 9) rfl b 0 rfl 45 (PL q2 none 0 0) i.out 48 _ Tryz.underlying45 zai (show 0+48≤48 by decide) (PA q2 none 0 0) rfl rfl ?_)|(refine wpList_buildTo rfl 86 _ rfl (some 102) rfl ((vl0 q1 q2).row gc).toArray (by kernel_rfl) ?_)|(refine wpList_boxTo rfl 86 (.tmp 102) rfl (some 103) rfl w3.heap.size rfl ((vl0 q1 q2).row gc).toArray rfl ?_)|fail)
     have B:=l.out
     have A:=n.out
     subst B A
     have J:=C.out.lt
     exact h _ w3.heap.size gc A2 c2 (Blk.new _ _ _) (C.out.push _) (Nat.le_trans E o) J ((D.out.base_mono E).alloc _) j (fun e=>by have:=(D.out.block _ e).2;omega) (F.out.alloc F.out.size _)
   · have DR:decide (1≤bl)=true:=decide_eq_true f1
     have DQ:decide (bl≤bm)=true:=decide_eq_true f2
     have QS:¬bm≤1000:=by omega
     have gg4:decide (bm≤1000)=false:=decide_eq_false QS
     go_upto_region 12 with fail
     go_wp2_with (first|(refine zaf rfl 45 (.tmp 7) rfl g7 0 rfl 45 (PL q1 none 0 0) c.out 48 _ Tryz.underlying45 zai (show 0+48≤48 by decide) (PA q1 none 0 0) rfl rfl ?_)|(refine zaf rfl 45 (.tmp 9) rfl b 0 rfl 45 (PL q2 none 0 0) i.out 48 _ Tryz.underlying45 zai (show 0+48≤48 by decide) (PA q2 none 0 0) rfl rfl ?_)|(refine wpList_buildTo rfl 86 _ rfl (some 102) rfl ((vl0 q1 q2).row gc).toArray (by kernel_rfl) ?_)|(refine wpList_boxTo rfl 86 (.tmp 102) rfl (some 103) rfl w3.heap.size rfl ((vl0 q1 q2).row gc).toArray rfl ?_)|fail)
     have B:=l.out
     have A:=n.out
     subst B A
     have J:=C.out.lt
     exact h _ w3.heap.size gc A2 c2 (Blk.new _ _ _) (C.out.push _) (Nat.le_trans E o) J ((D.out.base_mono E).alloc _) j (fun e=>by have:=(D.out.block _ e).2;omega) (F.out.alloc F.out.size _)
def BegR (k1 k2 bl bm:Int) (fs:List Ft) (W:World) (e:Ending) (w':World):Prop:=∃ (gW gc:Nat) (A2:Option Addr) (c2:Nat),e = .returned (.tuple #[.pointer (some ⟨gW,0,none⟩), .bool (decide (Jb.cfg bl bm))])∧Blk w' gW 86 ((vl0 (Sb.new (cod3 k1) 7 1 1).1 (Sb.new (cod3 k2) 8 bl bm).1).row gc).toArray∧Blk w' gc 253 (Ca.row ⟨A2,c2,(fs.take 120).map Ft.cut,none,0,[],0,0,0⟩).toArray∧W.heap.size≤gc∧gc<gW∧Owns w' W.heap.size 131 4 A2 ((fs.take 120).map Ft.cut).length c2 (((fs.take 120).map Ft.cut).flatMap Ft.row)∧ownB A2≠some gc∧ownB A2≠some gW∧Below W.heap.size W w'
theorem zik (k1 k2 bl bm:Int) (A:Option Addr) (c:Nat) (fs:List Ft) (W:World) (D:RowsAt W W.heap.size 4 Ft.row A fs) (hl:fs.length≤maxLen) (L:0≤k1∧k1≤255) (K:0≤k2∧k2≤255):Calls Tryz.prog 33 #[.agg #[.int .u8 k1, .int .u8 k2, .int .i64 bl, .int .i64 bm, .slice A fs.length c]] W (BegR k1 k2 bl bm fs W):=by
 refine zwl k1 k2 bl bm A c fs W D hl (fun W' a g1 A' c' n hB hg hn E C B => ?_)
 subst hn
 refine zye hB E C hg (fun f hf => ?_) (by simp;omega) L K (fun W2 gW gc A2 c2 b1 b2 b3 J I H G F => ?_) a B
 · obtain ⟨x,_,rfl⟩:=List.mem_map.1 hf
   exact x.cut_ok
 · exact ⟨gW,gc,A2,c2,rfl,b1,b2,b3,J,I,H,G,F⟩
end
section
open Go.RowKit
structure LvG (W0:World) (gW gc base:Nat) (S0:List Nat) (W:World) (S:List Nat) (v1:VL) (k1:Ca) (pc:Pc) (k9:Sb.Pkt) (u':Sb.Pt) (FA:Option Addr) (fc:Nat):Prop where
 m:SyM W S base gW gc v1 k1
 c:LvC v1 k1 pc k9 u'
 ss:v1.ss=[⟨FA,fc,Sb.decS k9.ty k9.pl⟩]
 len:(Sb.decS k9.ty k9.pl).length=160
 wf:u'.wf
 chk:Sb.chkT u' 50=0
 run:(Sb.run u' 50).2=[⟨50,Sb.decS k9.ty k9.pl,[]⟩]
 ok:∀ a∈u'.jt.q,OkW a
 mv:Mv S0 S0 W0 S W
theorem ztg (q1 q2:Sb.Pt) (P:q1=(Sb.new 0 7 1 1).1) (O:q2=(Sb.new 0 8 40 200).1) {c2:Nat} {f:Ft} (M:SyM W S0 base gW gc (vl0 q1 q2) ⟨A2,c2,[f],none,0,[],0,0,0⟩) (hf:f=⟨false,10,false,0⟩) (hb:base≤W.heap.size) {zs:List Int} (j:IntsAt W W.heap.size .i16 ZA zs) (zl:zs.length=160) (zb:Within (-32768) 32767 zs) :
 Calls Tryz.prog 34 #[.pointer (some ⟨gW,0,none⟩), .slice ZA 160 zc] W fun e w'=>e = .returned (.tuple #[])∧∃ S v1 k1 pc k9 u' FA fc,LvG W gW gc base S0 w' S v1 k1 pc k9 u' FA fc:=by
 have A:speechB 0=true:=by decide
 have J:=(Sb.SpkI.startS (s:=7) A (show Jb.cfg 1 1 by decide) (by decide) (by decide)).1
 rw [← P] at J
 have F:=(Sb.SpkI.startS (s:=8) A (show Jb.cfg 40 200 by decide) (by decide) (by decide)).1
 rw [← O] at F
 have G:=Sb.LisE.startS (trip:=10) (s:=8) A (show Jb.cfg 40 200 by decide) (by decide) (by decide) (by decide)
 rw [← O] at G
 obtain ⟨x,hx,x1,h,g,d,c,L⟩:=Sb.live_send 0 7 1 1 A (by decide) (by decide) (by decide) zs zl zb
 rw [← P] at hx
 have i:Within 0 255 x.pl∧x.pl.length≤1500:=by
  obtain ⟨more,_,_,_,hk⟩:=J.step zs (by omega) zl zb
  have:=hk x (by rw [hx];simp)
  exact ⟨this.2.2.2.2,this.2.2.2.1⟩
 refine zpv M J (by omega) rfl (show 0≤maxLen by decide) rfl (by show speechB q2.codec=true;rw [F.codec];exact A) rfl (by show Dlt.valid 0 0=true;decide) j zl zb hb (by show (0:Int)≤0;decide) (by show (0:Int)≤0;decide) (by show (0:Int)≤1000000;decide) (by show (0:Int)≤0;decide) (by show (0:Int)<10000;decide) (by show 1≤2000;decide) (by show 0≤990;decide) (by show (-100000:Int)≤0∧(0:Int)≤100000;decide) (fun h0 => ?_) (fun x' u W' A1 c1 z k' A' c' sA sc FA fc Cy X Tf a Ql w Z hm => ?_)
 · exfalso
   have:(Sb.send0 q1 zs).2=[]:=h0
   rw [hx] at this
   cases this
 have V:(Sb.send0 q1 zs).2=[x']:=u
 rw [hx] at V
 obtain rfl:x=x':=by simpa using V
 have v:q2.codec=0:=F.codec
 obtain ⟨T,s9,R⟩:∃ (T:List Int) (s9:Int×Int),Sb.enc 0 ((0,0):Int×Int) (Sb.decS 0 x.pl)=(T,s9):=⟨_,_,rfl⟩
 have K:=Sb.enc_in 0 ((0,0):Int×Int) (Sb.decS 0 x.pl) (by decide) L
 have b:=Sb.encS_len 0 ((0,0):Int×Int) (Sb.decS 0 x.pl) A (by decide) L
 rw [R] at K b
 have N:sayX (vl0 q1 q2) 0 x=({ x with ty:=0,pl:=T }, Sb.decS 0 T,s9):=by
  unfold sayX
  rw [if_pos x1]
  show (({ x with ty:=q2.codec,pl:=(Sb.enc q2.codec (0,0) (Sb.decS 0 x.pl)).1 } : Sb.Pkt),Sb.decS q2.codec (Sb.enc q2.codec (0,0) (Sb.decS 0 x.pl)).1,(Sb.enc q2.codec (0,0) (Sb.decS 0 x.pl)).2)=_
  rw [v,R]
 obtain ⟨k9,C⟩:∃ k9:Sb.Pkt,k9 = { x with ty:=0,pl:=T } := ⟨_,rfl⟩
 rw [N,← C] at Z w
 rw [N] at X
 have B:k9.ty=0:=by rw [C]
 have D:k9.pl=T:=by rw [C]
 have E:k9.sq=0:=by rw [C];exact h
 have I:k9.ti=0:=by rw [C];exact g
 have Y:k9.src=x.src:=by rw [C]
 have H:k9.ok:=⟨by rw [B];decide,by rw [B];decide,by rw [E];decide,by rw [E];decide,by rw [I];decide,by rw [I];decide,by rw [Y];exact d,by rw [Y];exact c,by rw [D];exact K.1,by rw [D];exact Nat.le_trans K.2.1 (by decide)⟩
 have U:q2.jt.q=[]:=F.jq
 obtain ⟨u',f1,f2,p,f4,o,n,m,f8,l,t,Q⟩:=Sb.live_arr q2 G U ⟨k9.mrk,k9.ty,k9.sq,k9.ti,k9.pl⟩ E I (by show speechB k9.ty=true;rw [B];exact A) H.len H.pl
 have AU:Sb.chkT q2 10=0:=G.chk (by omega) 10 (by decide) (by decide)
 have y:k'.ps=[⟨f,0,0,false,A',c',Pk.bytes k9.pk⟩]:=by
  rw [Z]
  show []++copies f 0 0 A' c' (Pk.bytes k9.pk)=_
  rw [hf]
  rfl
 refine ⟨z,_,k',_,k9,u',FA,fc,X,⟨y,by rw [hf];rfl,rfl,a,rfl,rfl,rfl,rfl,rfl,rfl,rfl,H,by rw [B];exact A,E,G.wf,AU,U,rfl,rfl,(show 0≤maxLen by decide),f1,f2,p,f4,o,n⟩,?_,?_,m,f8,l,Q,hm⟩
 · show [] ++ [(⟨FA,fc,Sb.decS 0 T⟩:TF)]=_
   rw [B,D]
   rfl
 · rw [B,D];exact b
end
section
attribute [local go_sem ↓] zab zac
attribute [local go_sem] zaa zad
open Go.RowKit
theorem zlc {c2:Nat} (hf:∀ f∈fs,f.ok) (b1:Blk w1 gW 86 ((vl0 q1 q2).row gc).toArray) (b2:Blk w1 gc 253 (Ca.row ⟨A2,c2,fs,none,0,[],0,0,0⟩).toArray) (hlt:gc<gW) (D:Owns w1 W.heap.size 131 4 A2 fs.length c2 (fs.flatMap Ft.row)) (n1:ownB A2≠some gc) (n2:ownB A2≠some gW):SyM w1 [gW,gc] w1.heap.size gW gc (vl0 q1 q2) ⟨A2,c2,fs,none,0,[],0,0,0⟩:=by
 have F:=b1.lt
 have G:=b2.lt
 have C:∀ x ∈ [gW,gc],x<w1.heap.size:=by intro x hx;simp at hx;rcases hx with e|e<;>rw [e]<;>assumption
 have hr:RowsAt w1 w1.heap.size 4 Ft.row A2 fs:=Owns.rows (l:=fs) (row:=Ft.row) D rfl (fun a=>rfl)
 have hn:∀ g,ownB (none:Option Addr)≠some g:=fun g e=>by cases e
 refine ⟨b1,⟨b2,Owns.nil,hn gc,by simp,fun g e=>absurd e (hn g),⟨hr,fun h0 b off e hb => ?_⟩,(fun p hp=>by cases hp),(fun p hp=>by cases hp),hf,C⟩,by simp,by omega,hn gW,Owns.nil,hn gW,hn gc,fun g e=>absurd e (hn g),fun g e=>absurd e (hn g),(fun f hf=>by cases hf),⟨RowsAt.nil,fun h0=>absurd h0 (by show ¬0<0;decide)⟩,QAv.nil⟩
 have E:A2=some ⟨b,off,none⟩:=e
 have A:ownB A2=some b:=by rw [E];rfl
 simp at hb
 rcases hb with B|B
 · rw [B] at A;exact n2 A
 · rw [B] at A;exact n1 A
theorem zpw {S:List Nat} (G:LvG W0 gW gc base S0 W3 S v1 k1 pc k9 u' FA fc) (F:LvF gW gc v1 u' 49 v w) :
 Calls Tryz.prog 36 #[.pointer (some ⟨gW,0,none⟩), .int .i64 50] w fun e w'=>e = .returned (.tuple #[])∧∃ v5:VL,Blk w' gW 86 (v5.row gc).toArray∧v5.ds=[]∧v5.done=0∧Chg [gW] w w':=by
 have D:=G.c.jq
 have V:v.u.n=1:=by rw [← F.un];have h:=congrArg List.length F.uq;rw [List.length_map,D] at h;exact h
 have hm:∀ x ∈ [gW],x ∈ [gW,gc]:=by simp
 have N:=F.blk.lt
 have L:∀ a∈v.u.l,I64 a.w.m.sq:=fun a K=>by
  have h:a.w∈u'.jt.q:=by rw [← F.uq];exact List.mem_map_of_mem K
  rw [D] at h
  simp at h
  rw [h]
  show I64 k9.sq
  rw [G.c.sq]
  exact ⟨by decide,by decide⟩
 refine zgi gW gc v 50 w F.blk (by rw [F.up];exact G.wf) (by rw [F.up];exact F.uq) F.un (by omega) F.uc F.um (F.q.sub hm) L (by rw [F.up];exact G.chk) (by rw [F.up];exact G.ok) (R:=fun w' => ∃ v5:VL,Blk w' gW 86 (v5.row gc).toArray∧v5.ds=[]∧v5.done=0∧Chg [gW] w w') (fun W A' n' c' l' O sc ls q1 q2 U T P C hB B => ?_)
 rw [F.up,G.run] at C
 obtain ⟨d,rfl⟩:∃ d,ls=[d]:=List.length_eq_one_iff.1 (by have h:=congrArg List.length C;simpa using h)
 have hd:d.s=⟨50,Sb.decS k9.ty k9.pl,[]⟩:=by simpa using C
 have A:=(P [gW] (by intro x hx;simp at hx;rw [hx];exact N)).2
 have E:v.ss=[⟨FA,fc,Sb.decS k9.ty k9.pl⟩]:=by rw [F.ss];exact G.ss
 have H:=F.st.chg B hm
 have I:d.s.at_=50:=by rw [hd]
 have J:d.s.zs=Sb.decS k9.ty k9.pl:=by rw [hd]
 have h1:=zph gW gc 0 { v with now:=50,u:=⟨(Sb.run v.u.p 50).1,A',n',c',l'⟩ } d ⟨FA,fc,Sb.decS k9.ty k9.pl⟩ O sc W hB (by show v.ds=[(d.s.at_,((0:Nat):Int))];rw [F.ds,I];rfl) F.dc ((F.due.chg B hm).re (fun x hx => .inl (hm x hx))) A.sds (fun b off e hb=>by
  subst hb
  exact A.1.2 (by simp) b off e (by simp)) (by rw [J];exact G.len) (A.2 d (by simp)) (H.rows.re (fun x hx => .inl (hm x hx))) (by show v.ss[0]? = _;rw [E];rfl) J.symm ((H.ints ⟨FA,fc,Sb.decS k9.ty k9.pl⟩ (by rw [E];simp)).sub hm) (by rw [I];exact Int.le_refl 50)
 refine h1.mono ?_
 rintro e w' ⟨X,c5,rfl,M,h5⟩
 refine ⟨rfl,_,M,rfl,?_,B.trans h5⟩
 show max v.done ((0:Nat):Int)=0
 rw [F.done,G.c.done]
 decide
theorem zdu (V:World):Calls Tryz.prog 15 #[] V fun e w'=>e = .returned (.bool true)∧Below V.heap.size V w':=by
 go_enter Tryz.func15,Tryz.ntmps15
 go_wp2_with fail
 obtain ⟨W0,H⟩:=nm9 (V.alloc (.cells #[.bool false, .int .i64 10, .bool false, .int .i64 0] 131))
 obtain ⟨E,O⟩:=nm9 V.heap.size
 have T:Blk W0 E 131 #[.bool false, .int .i64 10, .bool false, .int .i64 0]:=by rw [H,O];exact Blk.new _ _ _
 have J:Below V.heap.size V W0:=by rw [H];exact (Below.refl _ _).alloc (Nat.le_refl _) _
 have Z:RowsAt W0 W0.heap.size 4 Ft.row (some ⟨E,0,none⟩) [⟨false,10,false,0⟩]:=fun _=>⟨E,0,rfl,T.lt,fun i a hi j v hv=>by
  have h0:i=0:=by have:=(List.getElem?_eq_some_iff.1 hi).1;simp at this;exact this
  subst h0
  obtain rfl:(⟨false,10,false,0⟩:Ft)=a:=by simpa using hi
  have:=T.at (0+0*4+j) v (by simpa [Ft.row] using hv)
  exact this⟩
 rw [← H,← O]
 have t:=Z9 J
 have hcut:(([⟨false,10,false,0⟩]:List Ft).take 120).map Ft.cut=[⟨false,10,false,0⟩]:=by rfl
 have l:cod3 0=0:=by decide
 refine (zik 0 0 40 200 (some ⟨E,0,none⟩) 1 [⟨false,10,false,0⟩] W0 Z (by show 1≤maxLen;decide) (by decide) (by decide)).mono ?_
 have Uj:decide (Jb.cfg 40 200)=true:=by decide
 unfold BegR
 rw [Uj]
 rintro e w1 ⟨gW,gc,A2,c2,rfl,b1,b2,h1,h2,K,n1,n2,Q⟩
 rw [hcut] at b2 K
 rw [l] at b1
 obtain ⟨q1,N⟩:=nm9 ((Sb.new 0 7 1 1).1)
 obtain ⟨q2,L⟩:=nm9 ((Sb.new 0 8 40 200).1)
 rw [← N,← L] at b1
 have M:=zlc (W:=W0) (fs:=[⟨false,10,false,0⟩]) (fun f hf=>by simp at hf;rw [hf];exact ⟨⟨by decide,by decide⟩,by decide,by decide⟩) b1 b2 h2 K n1 n2
 have Bi:=b1.at 110 (.bool false) rfl
 have HM:=Z9 M
 have HB:=Z9 Q
 have Y:=Z9 N
 have p:=Z9 L
 have Ir:=J.size
 have o:V.heap.size≤gc:=Nat.le_trans Ir h1
 have Z0:=Z9 o
 have Y9:=Z9 h2
 clear b1 b2 h1 h2 K n1 n2 Q M N L H O T J Z hcut l Ir o
 go_wp2_with fail
 refine (zdx 8000 0 (by decide) (by decide) (by decide) (by decide) _).mono ?_
 rintro e w2 ⟨zs,ZA,zl,zb,rfl,A,I⟩
 have w:=HM.out.later I
 have Bs:=Z9 I
 have HI:=Z9 A
 have y:=Z9 zl
 have u:=Z9 zb
 have Zf:=I.size
 have Fp:=Z9 w
 clear w I A Bi HM zl zb
 go_wp2_with fail
 refine (ztg q1 q2 Y.out p.out Fp.out rfl Zf HI.out.1 y.out u.out).mono ?_
 rintro e w3 ⟨rfl,S,v1,k1,pc,k9,u',FA,fc,G⟩
 have B:=Z9 G
 have hm:∀ x ∈ [gW],x ∈ [gW,gc]:=by simp
 clear Fp HI y u G Y p
 go_wp2_with fail
 refine (zig (R:=fun e w'=>e = .returned (.tuple #[])∧∃ v,LvF gW gc v1 u' 49 v w'∧Chg [gW,gc] w3 w') (ztf (W0:=w3) (base:=w1.heap.size) (S:=S) B.out.c) v1 k1 w3 ⟨Chg.refl _ _, .inl ⟨rfl,rfl,rfl,B.out.m⟩⟩ (fun n v k W A hx W' hB D => ?_)).mono ?_
 · obtain ⟨Bp,A⟩:=A
   rcases A with ⟨rfl,rfl,rfl,M⟩|⟨hn,Ke,fD,Ao,hF⟩
   · exfalso
     rcases hx with h|h
     · omega
     · have:=h pc (by rw [B.out.c.ps];simp)
       rw [B.out.c.at_] at this
       omega
   · have DT:max v.now 49=49:=by rw [hF.now];decide
     rw [DT] at hB
     exact ⟨rfl, { v with now:=49 }, ⟨hB,hF.up,hF.uq,hF.un,hF.uc,hF.um,rfl,hF.done,hF.ds,hF.dc,hF.ss,hF.q.chg D hm,hF.due.chg D hm,hF.st.chg D hm⟩,Bp.trans (D.more hm)⟩
 rintro e w4 ⟨rfl,v,hF,z⟩
 have hds:=hF.ds
 obtain ⟨bd,od,U,Ru,x0,x1⟩:=zee (i:=0) (d:=(50,0)) hF.due.1 (by rw [hds];rfl)
 simp only [Nat.zero_mul,Nat.add_zero] at x0
 have Cv:w4.cell? ⟨gW,100,none⟩=some (.slice (some ⟨bd,od,none⟩) 1 v.dc):=by
  have C:=hF.blk.at 100 (.slice v.dA v.ds.length v.dc) rfl
  rw [hds,U] at C
  exact C
 have HF:=Z9 hF
 have Z8:=Z9 z
 clear hds U x1 hF z
 go_wp2_with fail
 refine (zpw B.out HF.out).mono ?_
 rintro e w5 ⟨rfl,v5,F,X,n5,c5⟩
 have z98:w5.cell? ⟨gW,98,none⟩=some (.int .i64 0):=by rw [← n5];exact F.at 98 _ rfl
 have VR:w5.cell? ⟨gW,100,none⟩=some (.slice v5.dA 0 v5.dc):=by
  have C:=F.at 100 (.slice v5.dA v5.ds.length v5.dc) rfl
  rw [X] at C
  exact C
 have Yw:=F.at 110 (.bool false) rfl
 have g:Below V.heap.size V w2:=t.out.trans ((HB.out.trans (Bs.out.mono HB.out.size)).mono t.out.size)
 have zL:=Z0.out
 have Ax:=Y9.out
 have P:∀ x ∈ [gW,gc],V.heap.size≤x:=by intro x hx;simp at hx;rcases hx with e|e<;>rw [e]<;>omega
 have b:Bel V w5:=Chg.bel (c5.more hm) (Chg.bel Z8.out (Chg.bel B.out.mv.chg g P) P) P
 have qW:=Z9 b
 clear F X n5 c5 g b x0 Cv
 go_wp2_with fail
 go_ret
 exact ⟨rfl,qW.out⟩
end
namespace Jb
open Go.RowKit
theorem put0_done (s:Jt) (m:Md):(put0 s m).1.done=s.done:=by
 unfold put0
 split
 · rfl
 split
 · rfl
 split
 · rfl
 dsimp only
 split
 · rfl
 split<;>rfl
theorem put0_take (s:Jt) (m:Md) (hr:s.rest) (h0:0≤m.sq) (h:(put0 s m).2=1):s.done<m.sq:=by
 unfold put0 at h
 split at h
 · cases h
 split at h
 · cases h
 · rename_i h2
   rcases hr with e|⟨_,_,e⟩
   · have:¬m.sq≤s.done:=fun h3=>h2 ⟨e,h3⟩
     omega
   · omega
end Jb
namespace Sb
open Go.RowKit
def Pkt.md (k:Pkt):Jb.Md:=⟨k.sq,k.ti,k.mrk,k.ty,k.pl⟩
def Pkt.arrv (k:Pkt):Arr:=⟨k.mrk,k.ty,k.sq,k.ti,k.pl⟩
structure PktG (i:Nat) (k:Pkt):Prop where
 sq:k.sq=(i:Int)
 i60:i<60
 ti0:0≤k.ti
 ti1:k.ti≤9600
 ty:speechB k.ty=true∨k.ty=13
 len:k.pl.length≤1500
 bd:∀ z∈k.pl,0≤z∧z≤255
 one:k.ty=13→k.pl.length=1
 src:0≤k.src∧k.src≤4294967295
def Sent (P:List Pkt):Prop:=∀ i k,P[i]? = some k→PktG i k
structure LisG (u:Pt) (n:Int) (now:Int) (P:List Pkt):Prop where
 wf:u.wf
 sp:speechB u.codec=true
 cod:Dlt.valid u.cv u.ci=true
 tn:u.tn=Ev.Snd.zero
 tk:u.tk=Pk.Tr.zero∨∃ h:Int,u.tk=⟨true,h, -1⟩∧0≤h∧h<60
 ht:0≤u.ht∧u.ht≤9600
 sm:Jb.Small n u.jt
 near:Jb.Near u.jt.now u.jt.q
 n0:u.jt.now≤now
 qP:∀ a∈u.jt.q,∃ (i:Nat) (k:Pkt),P[i]? = some k∧a.m=k.md
theorem LisG.now0 {u:Pt} {P:List Pkt} (h:LisG u n now P):0≤now:=by
 have:=h.sm.ok.1.1.1
 have:=h.n0
 omega
theorem LisG.later {u:Pt} {P:List Pkt} (h:LisG u n now P) (ht:now≤t):LisG u n t P:=⟨h.wf,h.sp,h.cod,h.tn,h.tk,h.ht,h.sm,h.near,Int.le_trans h.n0 ht,h.qP⟩
theorem LisG.more {u:Pt} {P:List Pkt} (h:LisG u n now P) (l:List Pkt):LisG u n now (P++l):=⟨h.wf,h.sp,h.cod,h.tn,h.tk,h.ht,h.sm,h.near,h.n0,fun a A=>by
 obtain ⟨i,k,h1,h2⟩:=h.qP a A
 exact ⟨i,k,by rw [List.getElem?_append_left (List.getElem?_eq_some_iff.1 h1).1];exact h1,h2⟩⟩
theorem LisG.valid {u:Pt} {P:List Pkt} (h:LisG u n now P):u.valid=true:=by
 have h1:=h.ht
 have hn:u.near:=by
  unfold Pt.near
  rcases h.tk with e|⟨x,e,x0,x1⟩
  · rw [e];show 0≤(0:Int)∧(0:Int)≤140737488355328 ∧ -1≤(0:Int)∧(0:Int)≤65535∧_;omega
  · rw [e];show 0≤x∧x≤140737488355328 ∧ -1≤(-1:Int)∧(-1:Int)≤65535∧_;omega
 have A:Jb.valid u.jt=true:=by unfold Jb.valid;rw [decide_eq_true_iff];exact h.sm.ok
 unfold Pt.valid
 rw [h.sp,h.cod,A,h.tn,tn0,decide_eq_true hn];rfl
theorem LisG.chk {u:Pt} {P:List Pkt} (h:LisG u n now P) (t:Int) (h1:now≤t) (h2:t≤281474976710656):chkT u t=0:=by
 have:=h.n0
 unfold chkT
 rw [if_neg (by rw [h.valid];rintro (e|e);cases e;omega),if_neg (by omega)]
theorem LisG.okW {u:Pt} {P:List Pkt} (h:LisG u n now P) (g:Sent P):∀ a∈u.jt.q,OkW a:=fun a A=>by
 obtain ⟨i,k,h1,h2⟩:=h.qP a A
 have hg:=g i k h1
 have ht:0≤k.ty∧k.ty≤255:=by
  rcases hg.ty with e|e
  · exact ztq e
  · omega
 have hl:=hg.len
 rcases a with ⟨at_,m⟩
 obtain rfl:m=k.md:=h2
 exact ⟨ht.1,ht.2,hg.bd,by show k.pl.length≤8000;omega⟩
theorem LisG.i64 {u:Pt} {P:List Pkt} (h:LisG u n now P) (g:Sent P):∀ a∈u.jt.q,0≤a.m.sq∧a.m.sq<60:=fun a A=>by
 obtain ⟨i,k,h1,h2⟩:=h.qP a A
 have hg:=g i k h1
 have h3:=hg.sq
 have h4:=hg.i60
 rw [h2]
 show 0≤k.sq∧k.sq<60
 omega
theorem LisG.follow {u:Pt} {P:List Pkt} (h:LisG u n now P) (s:Int) (s0:0≤s) (s1:s<60):∃ x:Int,Pk.follow u.tk s=(⟨true,x, -1⟩,s,true)∧0≤x∧x<60:=by
 rcases h.tk with e|⟨x,e,x0,x1⟩
 · refine ⟨s,?_,s0,s1⟩
   rw [e];unfold Pk.follow
   rw [if_neg (fun hn=>hn (by decide)),if_pos (show Pk.Tr.zero.on=false from rfl)]
 · refine ⟨max x s,?_,by omega,by omega⟩
   rw [e];unfold Pk.follow
   have A:Pk.Tr.ok ⟨true,x, -1⟩:=by unfold Pk.Tr.ok;simp only;omega
   rw [if_neg (fun hn=>hn A),if_neg (by simp)]
   simp only [zqt x s x0 x1 s0 s1]
   rw [if_pos (by omega)]
theorem LisG.recv {u:Pt} {P:List Pkt} (h:LisG u n now P) (hn:n≤500) (g:Sent P) {k:Pkt} (hk:P[i]? = some k) (t1:now≤1000000) :
 ∃ (u':Pt) (A:Int) (sds:List Sd),(Pk.follow u.tk k.sq).2.2=true∧(Jb.put u.jt now ⟨(Pk.follow u.tk k.sq).2.1,time u k.arrv,k.mrk,k.ty,k.pl⟩).2.2.2=0∧recv0 u now k.arrv=(u',A,sds)∧LisG u' (n+1) now P ∧
  sds=(sounds u.seed (Jb.due now u.jt.q)).2∧u'.jt=(Jb.put0 (Jb.run0 u.jt now) k.md).1∧A=(Jb.put0 (Jb.run0 u.jt now) k.md).2∧u'.st=Rep.arrive u.st k.sq (8*now) k.ti∧u'.codec=u.codec:=by
 have hg:=g i k hk
 have Y:=hg.sq
 have hi:=hg.i60
 have X:=h.sm.ok.1.1.1
 have E:=h.n0
 obtain ⟨y,hf,N,M⟩:=h.follow k.sq (by omega) (by omega)
 have L:time u k.arrv=k.ti:=by
  unfold time
  split
  · exact zqu _ _ h.ht.1 h.ht.2 hg.ti0 hg.ti1
  · rfl
 have H:k.md.ok:=by
  have h1:=hg.ti0
  have h2:=hg.ti1
  have h3:=hg.len
  unfold Jb.Md.ok Pkt.md
  simp only
  omega
 have n2:now≤281474976710656:=by omega
 have F:Jb.put u.jt now k.md=((Jb.put0 (Jb.run0 u.jt now) k.md).1,Jb.due now u.jt.q,(Jb.put0 (Jb.run0 u.jt now) k.md).2,0):=by
  unfold Jb.put
  rw [Jb.chk_put h.sm.ok E n2 H,if_pos rfl]
 have I:=Jb.small_run h.sm (by omega) now E n2
 have J:=Jb.small_put h.sm (by omega) now E n2 k.md H
 have D:=Jb.put0_cnt (Jb.run0 u.jt now) k.md
 have G:=Jb.put0_cases (Jb.run0 u.jt now) k.md I.ok H (by have:=I.late;omega) (by have:=I.twice;omega)
 have K:=Jb.near_left h.near E
 obtain ⟨s',A,R⟩:∃ s' A,Jb.put0 (Jb.run0 u.jt now) k.md=(s',A):=⟨_,_,rfl⟩
 rw [R] at F J D G ⊢
 simp only at F J D G ⊢
 have U:known k.arrv≠false:=by
  unfold known
  show (speechB k.ty||k.ty==13||(k.ty==101&&(Ev.decT k.pl).2==0))≠false
  rcases hg.ty with e|e
  · rw [e];simp
  · rw [e];simp
 have T:¬k.ty=101:=by
  rcases hg.ty with e|e
  · rcases zal.1 e with e|e|e<;>omega
  · omega
 refine ⟨{ u with tk:=⟨true,y, -1⟩,ht:=if u.tk.on=false∨u.ht<k.ti then k.ti else u.ht,st:=Rep.arrive u.st k.sq (8*now) k.ti,jt:=s',seed:=(sounds u.seed (Jb.due now u.jt.q)).1 }, A,(sounds u.seed (Jb.due now u.jt.q)).2,by rw [hf],?_,?_,⟨?_,h.sp,h.cod,h.tn, .inr ⟨y,rfl,N,M⟩,?_,J,?_,?_,?_⟩,rfl,rfl,rfl,rfl,rfl⟩
 · rw [hf,L]
   show (Jb.put u.jt now k.md).2.2.2=0
   rw [F]
 · unfold recv0
   rw [if_neg U]
   have O:Pk.follow u.tk k.arrv.sq=(⟨true,y, -1⟩,k.sq,true):=hf
   have V:¬k.arrv.ty=101:=T
   simp only [O,L]
   rw [if_neg (by decide),if_neg V]
   have e:Jb.put u.jt now ⟨k.sq,k.ti,k.arrv.mrk,k.arrv.ty,k.arrv.pl⟩=(s',Jb.due now u.jt.q,A,0):=F
   rw [e]
 · exact ⟨h.wf.codec,h.wf.src,h.wf.seq,h.wf.time,h.wf.below,h.wf.tvol,h.wf.tcode,h.wf.tst,zay _ _ h.wf.seed,h.wf.pk,h.wf.oc⟩
 · show 0≤(if u.tk.on=false∨u.ht<k.ti then k.ti else u.ht)∧(if u.tk.on=false∨u.ht<k.ti then k.ti else u.ht)≤9600
   have h1:=h.ht
   have h2:=hg.ti0
   have h3:=hg.ti1
   split<;>omega
 · show Jb.Near s'.now s'.q
   rw [D.2.2.2.1]
   rcases G with ⟨c1,c2,c3,C,c5⟩|⟨c1,c2,c3,C⟩
   · rw [C];exact Jb.near_ins K c3
   · rw [c3];exact K
 · show s'.now≤_
   rw [D.2.2.2.1];exact Int.le_refl _
 · show ∀ a∈s'.q,_
   have hl:∀ a∈Jb.left now u.jt.q,∃ (i:Nat) (k:Pkt),P[i]? = some k∧a.m=k.md:=fun a B=>h.qP a ((Jb.left_sub _ _).subset B)
   rcases G with ⟨c1,c2,c3,C,c5⟩|⟨c1,c2,c3,C⟩
   · rw [C]
     intro a B
     rcases List.mem_cons.1 ((Jb.ins_perm _ _).subset B) with rfl|B
     · exact ⟨i,k,hk,rfl⟩
     · exact hl a B
   · rw [c3];exact hl
theorem LisG.run {u:Pt} {P:List Pkt} (h:LisG u n now P) (hn:n≤500) (n2:now≤281474976710656) :
 (Jb.run u.jt now).2.2=0∧(run u now).2=(sounds u.seed (Jb.due now u.jt.q)).2∧(run u now).1.jt=Jb.run0 u.jt now∧(run u now).1.st=u.st∧LisG (run u now).1 (n+1) now P:=by
 have hr:Jb.run u.jt now=(Jb.run0 u.jt now,Jb.due now u.jt.q,0):=by
  unfold Jb.run;rw [Jb.chk_run h.sm.ok h.n0 n2,if_pos rfl]
 have B:=Jb.small_run h.sm (by omega) now h.n0 n2
 unfold Sb.run
 rw [hr]
 refine ⟨rfl,rfl,rfl,rfl,⟨?_,h.sp,h.cod,h.tn,h.tk,h.ht,B,Jb.near_left h.near h.n0,Int.le_refl _,fun a A=>h.qP a ((Jb.left_sub _ _).subset A)⟩⟩
 exact ⟨h.wf.codec,h.wf.src,h.wf.seq,h.wf.time,h.wf.below,h.wf.tvol,h.wf.tcode,h.wf.tst,zay _ _ h.wf.seed,h.wf.pk,h.wf.oc⟩
structure StG (st:Rep.St) (count least most:Int):Prop where
 c0:0≤count
 z:count=0→st=Rep.St.zero
 s:0<count→st.seen=true∧st.base=least∧st.high=most∧st.got=count∧st.wexp=0∧st.wrec=0∧0≤least∧least≤most∧most<60∧(-9000000≤st.trans∧st.trans≤9000000)∧0≤st.jit∧st.jit≤18000000*count
theorem StG.arrive {st:Rep.St} (h:StG st count least most) (h1:count≤500) (sq now ti:Int) (s0:0≤sq) (s1:sq<60) (n0:0≤now) (n1:now≤1000000) (t0:0≤ti) (t1:ti≤9600) :
 StG (Rep.arrive st sq (8*now) ti) (count+1) (min (if count=0 then sq else least) sq) (max (if count=0 then sq else most) sq):=by
 have hc:=h.c0
 refine ⟨by omega,fun e=>by omega,fun _ => ?_⟩
 have A:∀ x:Int, -9000000≤x→x≤9000000→Rep.small x=true:=fun x h1 h2=>by
  unfold Rep.small Rep.inB
  simp
  omega
 have D:=A sq (by omega) (by omega)
 have C:=A (8*now) (by omega) (by omega)
 have B:=A ti (by omega) (by omega)
 by_cases hz:count=0
 · rw [h.z hz,if_pos hz,if_pos hz]
   have ho:Rep.okS Rep.St.zero=true:=by decide
   unfold Rep.arrive
   rw [ho,D,C,B,if_neg (by decide),if_pos (show Rep.St.zero.seen=false from rfl)]
   refine ⟨rfl,?_,?_,?_,rfl,rfl,by omega,by omega,by omega,?_,?_,?_⟩<;>simp only<;>omega
 · obtain ⟨J,I,H,G,F,E,P,O,N,K,L,M⟩:=h.s (by omega)
   obtain ⟨seen,base,high,got,wexp,wrec,trans,jit⟩:=st
   simp only at J I H G F E K L M
   subst J I H G F E
   have ho:Rep.okS ⟨true,base,high,got,0,0,trans,jit⟩=true:=by rw [Rep.okS_iff];simp only;omega
   rw [if_neg hz,if_neg hz]
   unfold Rep.arrive
   rw [ho,D,C,B,if_neg (by decide),if_neg (by simp)]
   have R:0≤Rep.absI (8*now-ti-trans)∧Rep.absI (8*now-ti-trans)≤18000000:=by
    unfold Rep.absI
    split<;>omega
   refine ⟨rfl,rfl,rfl,rfl,rfl,rfl,by omega,by omega,by omega,?_,?_,?_⟩<;>simp only<;>omega
theorem StG.sum {st:Rep.St} (h:StG st count least most) (h1:count≤500) (hc:0<count) (s l d:Int) :
 ∃ (A:Rep.St) (j:Int),Rep.summary st s l d=(⟨s,Rep.frac (most-least+1) (most-least+1-count),most-least+1-count,most,j,l,d⟩,A)∧0≤j∧j≤4294967295 ∧
  (Rep.summary A s l d).1.frac=0∧(Rep.summary A s l d).1.lost=most-least+1-count:=by
 obtain ⟨H,G,F,E,D,C,T,R,P,M,N,O⟩:=h.s hc
 obtain ⟨seen,base,high,got,wexp,wrec,trans,jit⟩:=st
 simp only at H G F E D C M N O
 subst H G F E D C
 have ho:Rep.okS ⟨true,base,high,got,0,0,trans,jit⟩=true:=by rw [Rep.okS_iff];simp only;omega
 have B:Rep.okS ⟨true,base,high,got,high-base+1,got,trans,jit⟩=true:=by rw [Rep.okS_iff];simp only;omega
 refine ⟨⟨true,base,high,got,high-base+1,got,trans,jit⟩,min (jit / 16) 4294967295,?_,by omega,by omega,?_,?_⟩
 · unfold Rep.summary
   rw [ho,if_neg (by decide),if_neg (by simp)]
   simp only
   have L:high-base+1-0-(got-0)=high-base+1-got:=by omega
   have K:high-base+1-0=high-base+1:=by omega
   have J:min (max (high-base+1-got) (-8388608)) 8388607=high-base+1-got:=by omega
   have I:high % 4294967296=high:=by omega
   rw [L,K,J,I]
 · unfold Rep.summary
   rw [B,if_neg (by decide),if_neg (by simp)]
   show Rep.frac (high-base+1-(high-base+1)) _=0
   unfold Rep.frac
   rw [if_neg (by omega)]
 · unfold Rep.summary
   rw [B,if_neg (by decide),if_neg (by simp)]
   show min (max (high-base+1-got) (-8388608)) 8388607=_
   omega
end Sb
section
open Go.RowKit
theorem zgk:∀ (l:List Jb.Wt) (s:Int) (j:Nat) (d:Sb.Sd),(Sb.sounds s l).2[j]? = some d→∃ (a:Jb.Wt) (s':Int),l[j]? = some a∧d=⟨a.at_,(Sb.dec a.m.ty a.m.pl s').1,[]⟩
 | [],s,j,d,h=>by simp [Sb.sounds] at h
 | a :: l, s, 0, d, h => ⟨a, s, rfl, by
   have h2:some (⟨a.at_,(Sb.dec a.m.ty a.m.pl s).1,[]⟩:Sb.Sd)=some d:=h
   injection h2 with h2
   exact h2.symm⟩
 | a :: l, s, j + 1, d, h => by
   obtain ⟨b,s',h1,h2⟩:=zgk l (Sb.dec a.m.ty a.m.pl s).2 j d h
   exact ⟨b,s',h1,h2⟩
theorem zyv (pl:List Int) (s:Int) (h:pl.length=1):(Sb.dec 13 pl s).1.length=160:=by
 unfold Sb.dec
 rw [if_pos rfl,if_pos h]
 unfold Ev.noise
 rw [if_neg (by omega)]
 simp
def wtP (w:Jb.Wt):Int×Int:=(w.at_,w.m.sq)
theorem zpx:∀ (l:List Jb.Wt) (d:Int),maxD d (l.map wtP)=Jb.maxSq d l
 | [],d=>rfl
 | a::l,d=>zpx l _
theorem zyw (q:List Jb.Wt) (w:Jb.Wt):(Jb.ins q w).map wtP=insD (q.map wtP) (wtP w):=by
 have hp:∀ l:List Jb.Wt,(l.map wtP).takeWhile (fun p=>decide (befD p (wtP w)))=(l.takeWhile fun x=>decide (Jb.bef x w)).map wtP∧(l.map wtP).dropWhile (fun p=>decide (befD p (wtP w)))=(l.dropWhile fun x=>decide (Jb.bef x w)).map wtP:=by
  intro l
  induction l with
  | nil=>exact ⟨rfl,rfl⟩
  | cons a l ih =>
    have e:decide (befD (wtP a) (wtP w))=decide (Jb.bef a w):=rfl
    rw [List.map_cons,List.takeWhile_cons,List.dropWhile_cons,List.takeWhile_cons,List.dropWhile_cons,e]
    split
    · rw [ih.1,ih.2];exact ⟨rfl,rfl⟩
    · exact ⟨rfl,rfl⟩
 unfold Jb.ins insD
 rw [List.map_append,List.map_cons,(hp q).1,(hp q).2]
structure LnG (v:VL) (P:List Sb.Pkt):Prop where
 lis:Sb.LisG v.u.p v.count v.now P
 uq:v.u.l.map TW.w=v.u.p.jt.q
 un:v.u.l.length=v.u.n
 uc:v.u.n≤v.u.c
 um:v.u.c≤maxLen
 ds:v.ds=v.u.p.jt.q.map wtP
 done:v.done=v.u.p.jt.done
 ssl:v.ss.length=P.length
 ssP:∀ (i:Nat) (k:Sb.Pkt) (f:TF),P[i]? = some k→v.ss[i]? = some f→(speechB k.ty=true∧f.zs=Sb.decS k.ty k.pl∧f.zs.length=160)∨(k.ty=13∧f.zs=[])
 st:Sb.StG v.u.p.st v.count v.least v.most
theorem LnG.len (h:LnG v P):v.ds.length≤200∧v.u.n≤200:=by
 have h1:=h.lis.sm.ok.2.2.2.2.1
 have h2:=h.un
 have h3:=congrArg List.length h.uq
 rw [List.length_map] at h3
 rw [h.ds,List.length_map]
 omega
theorem LnG.heed (h:LnG v P) (g:Sb.Sent P) (s:Int):HeedP v (Sb.sounds s (Jb.due v.now v.u.p.jt.q)).2:=by
 have G:=Jb.due_left v.now v.u.p.jt.q
 obtain ⟨q1,q2,J,O⟩:=(Jb.okQ_iff _ _ _).1 h.lis.sm.ok.2.2.2.2
 refine ⟨fun j d hd => ?_,fun p hp => ?_⟩
 · obtain ⟨a,s',C,rfl⟩:=zgk _ _ _ _ hd
   have K:=(List.getElem?_eq_some_iff.1 C).1
   have hq:v.u.p.jt.q[j]? = some a:=by rw [← G,List.getElem?_append_left K];exact C
   have M:a.at_≤v.now:=by
    have:=Sb.takeWhile_of _ _ (List.mem_of_getElem? C)
    simpa using this
   obtain ⟨i,k,hk,hm⟩:=h.lis.qP a (List.mem_of_getElem? hq)
   have hg:=g i k hk
   have L:i<v.ss.length:=by rw [h.ssl];exact (List.getElem?_eq_some_iff.1 hk).1
   obtain ⟨f,hf⟩:∃ f,v.ss[i]? = some f:=⟨_,List.getElem?_eq_getElem L⟩
   have N:a.m.sq=(i:Int):=by rw [hm];exact hg.sq
   have I:a.m.ty=k.ty:=by rw [hm];rfl
   have H:a.m.pl=k.pl:=by rw [hm];rfl
   refine ⟨wtP a,by rw [h.ds,List.getElem?_map,hq];rfl,rfl,M,?_,i,f,N,hf,?_⟩
   · show (Sb.dec a.m.ty a.m.pl s').1.length=160
     rw [I,H]
     rcases h.ssP i k f hk hf with ⟨A,B,F⟩|⟨A,B⟩
     · have D:¬k.ty=13:=by rcases zal.1 A with e|e|e<;>omega
       unfold Sb.dec
       rw [if_neg D,← B]
       exact F
     · rw [A];exact zyv _ _ (hg.one A)
   · show f.zs=[]∨f.zs=(Sb.dec a.m.ty a.m.pl s').1
     rw [I,H]
     rcases h.ssP i k f hk hf with ⟨A,B,F⟩|⟨A,B⟩
     · right
       have D:¬k.ty=13:=by rcases zal.1 A with e|e|e<;>omega
       unfold Sb.dec
       rw [if_neg D]
       exact B
     · exact .inl B
 · rw [h.ds,Sb.sounds_len] at hp
   rw [List.getElem?_map] at hp
   cases hq:v.u.p.jt.q[(Jb.due v.now v.u.p.jt.q).length]? with
   | none=>rw [hq] at hp;cases hp
   | some a =>
     rw [hq] at hp
     injection hp with hp
     have E:(Jb.due v.now v.u.p.jt.q++Jb.left v.now v.u.p.jt.q)[(Jb.due v.now v.u.p.jt.q).length]? = some a:=by rw [G];exact hq
     rw [List.getElem?_append_right (Nat.le_refl _),Nat.sub_self] at E
     have:=Jb.left_gt v.now v.u.p.jt.q J a (List.mem_of_getElem? E)
     rw [← hp]
     exact this
theorem LnG.rest (h:LnG v P) (s:Int):v.ds.drop (Sb.sounds s (Jb.due v.now v.u.p.jt.q)).2.length=(Jb.left v.now v.u.p.jt.q).map wtP∧maxD v.done (v.ds.take (Sb.sounds s (Jb.due v.now v.u.p.jt.q)).2.length)=Jb.maxSq v.u.p.jt.done (Jb.due v.now v.u.p.jt.q):=by
 have e:v.ds=(Jb.due v.now v.u.p.jt.q).map wtP++(Jb.left v.now v.u.p.jt.q).map wtP:=by rw [← List.map_append,Jb.due_left,h.ds]
 have hl:(Sb.sounds s (Jb.due v.now v.u.p.jt.q)).2.length=((Jb.due v.now v.u.p.jt.q).map wtP).length:=by rw [Sb.sounds_len,List.length_map]
 rw [hl,e]
 refine ⟨List.drop_left,?_⟩
 rw [List.take_left,h.done,zpx]
theorem LnG.arr (h:LnG v P) (g:Sb.Sent P) {k:Sb.Pkt} (hk:P[i]? = some k) (c1:v.count≤450) (t1:v.now≤1000000) :
 ∃ (u':Sb.Pt) (B:Int) (sds:List Sb.Sd),(Pk.follow v.u.p.tk k.sq).2.2=true∧(Jb.put v.u.p.jt v.now ⟨(Pk.follow v.u.p.tk k.sq).2.1,Sb.time v.u.p k.arrv,k.mrk,k.ty,k.pl⟩).2.2.2=0∧Sb.recv0 v.u.p v.now k.arrv=(u',B,sds)∧HeedP v sds∧sds.length≤200∧u'.jt.ok∧u'.jt.q.length≤200∧(∀ a∈u'.jt.q,I64 a.m.sq)∧(∀ (u:PQ) (A:Option Addr) (c:Nat),ArP (v.hed u sds.length A c) B k.sq (Jb.ptime u'.jt k.ti))∧u'.codec=v.u.p.codec ∧
  ∀ (A':Option Addr) (n' c':Nat) (l':List TW) (F:Option Addr) (G:Nat) (dA:Option Addr) (b:Nat) (v':VL),v' = { ((v.hed ⟨u',A',n',c',l'⟩ sds.length F G).beg k.sq).cnt k.sq with dA:=dA,dc:=b,ds:=dsN (v.hed ⟨u',A',n',c',l'⟩ sds.length F G) B k.sq (Jb.ptime u'.jt k.ti) } → l'.map TW.w=u'.jt.q→l'.length=n'→n'≤c'→c'≤maxLen→LnG v' P:=by
 have hg:=g i k hk
 have Qu:=hg.sq
 have i4:=hg.i60
 have d:=hg.ti0
 have f:=hg.ti1
 have Bj:=h.lis.now0
 obtain ⟨u',B,sds,f1,f2,x,O,f4,U,T,t,f8⟩:=h.lis.recv (by omega) g hk t1
 have o:HeedP v sds:=by rw [f4];exact h.heed g _
 obtain ⟨L,K⟩:=h.rest v.u.p.seed
 rw [← f4] at L K
 have Ww:k.md.ok:=by
  have h3:=hg.len
  unfold Jb.Md.ok Sb.Pkt.md
  simp only
  omega
 have J:=Jb.small_run h.lis.sm (by omega) v.now h.lis.n0 (by omega)
 have D:=Jb.put0_cases (Jb.run0 v.u.p.jt v.now) k.md J.ok Ww (by have:=J.late;omega) (by have:=J.twice;omega)
 have H:=Jb.put0_done (Jb.run0 v.u.p.jt v.now) k.md
 have I:=Jb.put0_take (Jb.run0 v.u.p.jt v.now) k.md J.ok.2.2.2.1 (by show 0≤k.sq;omega)
 have R:=O.sm.ok
 have Ub:u'.jt.q.length≤200:=R.2.2.2.2.1
 rw [← U,← T] at D
 rw [← U] at H
 rw [← T] at I
 rw [Jb.play_eq _ _ R (by show _≤k.ti;omega) (by show k.ti≤_;omega)] at D
 have D:(B=1∧v.now<Jb.ptime u'.jt k.ti∧Jb.ptime u'.jt k.ti≤v.now+120000∧u'.jt.q=Jb.ins (Jb.left v.now v.u.p.jt.q) ⟨Jb.ptime u'.jt k.ti,k.md⟩∧((Jb.left v.now v.u.p.jt.q).any fun w=>w.m.sq==k.sq)=false)∨(B≠1∧B≠0∧u'.jt.q=Jb.left v.now v.u.p.jt.q∧(v.now<Jb.ptime u'.jt k.ti→Jb.ptime u'.jt k.ti≤v.now+120000→u'.jt.done<k.sq→((Jb.left v.now v.u.p.jt.q).any fun w=>w.m.sq==k.sq)=false→¬(Jb.left v.now v.u.p.jt.q).length<200)):=D
 have H:u'.jt.done=Jb.maxSq v.u.p.jt.done (Jb.due v.now v.u.p.jt.q):=H
 have I:B=1→Jb.maxSq v.u.p.jt.done (Jb.due v.now v.u.p.jt.q)<k.sq:=I
 have Ai:sds.length≤200:=by
  rw [f4,Sb.sounds_len]
  have h1:=(Jb.due_sub v.now v.u.p.jt.q).length_le
  have h2:=h.lis.sm.ok.2.2.2.2.1
  omega
 refine ⟨u',B,sds,f1,f2,x,o,Ai,R,Ub,fun a n => ?_,fun u A c => ?_,f8,fun A' n' c' l' F G dA b v' Y q1 q2 l j => ?_⟩
 · have:=O.i64 g a n
   exact ⟨by omega,by omega⟩
 · unfold ArP Nt
   show (B=1∧(∀ p∈v.ds.drop sds.length,p.2≠k.sq)∧v.now<_∧maxD v.done (v.ds.take sds.length)<k.sq)∨(B≠1∧(k.sq≤maxD v.done (v.ds.take sds.length)∨(∃ p∈v.ds.drop sds.length,p.2=k.sq)∨_≤v.now∨v.now+120000<_∨200≤(v.ds.drop sds.length).length))
   rw [L,K]
   rcases D with ⟨c1,c2,c3,E,c5⟩|⟨c1,c2,c3,E⟩
   · refine .inl ⟨c1,fun p hp e => ?_,c2,I c1⟩
     obtain ⟨w,hw,rfl⟩:=List.mem_map.1 hp
     have M:((Jb.left v.now v.u.p.jt.q).any fun w=>w.m.sq==k.sq)=true:=List.any_eq_true.2 ⟨w,hw,by have N:w.m.sq=k.sq:=e;simpa using N⟩
     rw [c5] at M
     cases M
   · refine .inr ⟨c1,?_⟩
     by_cases d1:k.sq≤Jb.maxSq v.u.p.jt.done (Jb.due v.now v.u.p.jt.q)
     · exact .inl d1
     by_cases Z:((Jb.left v.now v.u.p.jt.q).any fun w=>w.m.sq==k.sq)=true
     · obtain ⟨w,hw,e⟩:=List.any_eq_true.1 Z
       exact .inr (.inl ⟨wtP w,List.mem_map_of_mem hw,show w.m.sq=k.sq from by simpa using e⟩)
     by_cases d3:Jb.ptime u'.jt k.ti≤v.now
     · exact .inr (.inr (.inl d3))
     by_cases d4:v.now+120000<Jb.ptime u'.jt k.ti
     · exact .inr (.inr (.inr (.inl d4)))
     have M:=E (by omega) (by omega) (by rw [H];omega) (eq_false_of_ne_true Z)
     exact .inr (.inr (.inr (.inr (by rw [List.length_map];omega))))
 · have hds:dsN (v.hed ⟨u',A',n',c',l'⟩ sds.length F G) B k.sq (Jb.ptime u'.jt k.ti)=u'.jt.q.map wtP:=by
    unfold dsN
    show (if B=1 then insD (v.ds.drop sds.length) _ else v.ds.drop sds.length)=_
    rw [L]
    rcases D with ⟨c1,c2,c3,E,c5⟩|⟨c1,c2,c3,E⟩
    · rw [if_pos c1,E,zyw];rfl
    · rw [if_neg c1,c3]
   rw [hds] at Y
   have e0:v'.u=⟨u',A',n',c',l'⟩∧v'.now=v.now∧v'.ss=v.ss∧v'.ds=u'.jt.q.map wtP∧v'.done=maxD v.done (v.ds.take sds.length)∧v'.count=v.count+1∧v'.least=min (if v.count=0 then k.sq else v.least) k.sq∧v'.most=max (if v.count=0 then k.sq else v.most) k.sq:=by
    rw [Y]
    unfold VL.beg
    show _∧_
    have ec:(v.hed ⟨u',A',n',c',l'⟩ sds.length F G).count=v.count:=rfl
    by_cases hz:v.count=0
    · rw [ec,if_pos hz,if_pos hz,if_pos hz]
      exact ⟨rfl,rfl,rfl,rfl,rfl,rfl,rfl,rfl⟩
    · rw [ec,if_neg hz,if_neg hz,if_neg hz]
      exact ⟨rfl,rfl,rfl,rfl,rfl,rfl,rfl,rfl⟩
   obtain ⟨C,N,X,W,Q,V,z,y⟩:=e0
   refine ⟨?_,?_,?_,?_,?_,?_,?_,?_,?_,?_⟩
   · rw [C,N,V];exact O
   · rw [C];exact q1
   · rw [C];exact q2
   · rw [C];exact l
   · rw [C];exact j
   · rw [C];exact W
   · rw [C,Q,K];exact H.symm
   · rw [X];exact h.ssl
   · rw [X];exact h.ssP
   · rw [C,V,z,y]
     show Sb.StG u'.st _ _ _
     rw [t]
     exact h.st.arrive (by omega) _ _ _ (by omega) (by omega) Bj t1 d f
theorem LnG.play (h:LnG v P) (g:Sb.Sent P) (c1:v.count≤450) (n2:v.now≤281474976710656) :
 HeedP v (Sb.run v.u.p v.now).2∧(Sb.run v.u.p v.now).2.length≤200∧(Sb.run v.u.p v.now).1.st=v.u.p.st∧Sb.LisG (Sb.run v.u.p v.now).1 (v.count+1) v.now P:=by
 obtain ⟨E,A,D,C,B⟩:=h.lis.run (by omega) n2
 refine ⟨by rw [A];exact h.heed g _,?_,C,B⟩
 rw [A,Sb.sounds_len]
 have h1:=(Jb.due_sub v.now v.u.p.jt.q).length_le
 have h2:=h.lis.sm.ok.2.2.2.2.1
 omega
theorem LnG.at_ (h:LnG v P) (ht:v.now≤t):LnG { v with now:=t } P:=⟨h.lis.later ht,h.uq,h.un,h.uc,h.um,h.ds,h.done,h.ssl,h.ssP,h.st⟩
end
section
attribute [local go_sem ↓] zab zac
attribute [local go_sem] zaa zad
open Go.RowKit
theorem zpy (x:Int) (h0 : -1000000≤x) (h1:x≤1000000):IntKind.i64.wrap x=x:=by simp only [IntKind.wrap,IntKind.bits,IntKind.signed];simp;omega
def InR (V:World) (gI n:Nat):Prop:=∃ f:Nat→Nat,V.rowIs gI 3 n (fun j => .int .i64 (f j))∧∀ j,j<n→f j<n
def SoR (gI n:Nat) (V:World) (e:Ending) (w':World):Prop:=e = .returned (.tuple #[])∧Chg [gI] V w'∧InR w' gI n
theorem InR.drew {n:Nat} (h:InR V gI n):InR V.drew gI n:=h
theorem InR.lt {n:Nat} (h:InR V gI n):gI<V.heap.size:=by obtain ⟨f,h,_⟩:=h;exact h.lt
theorem InR.at {n:Nat} (h:InR V gI n) (hi:i<n):∃ a:Nat,a<n∧V.cell? ⟨gI,i,none⟩=some (.int .i64 a):=by
 obtain ⟨f,h,hf⟩:=h
 exact ⟨f i,hf i hi,h.cell hi⟩
theorem InR.frozen {n:Nat} (h:InR V gI n) (i:Nat):V.frozen? ⟨gI,i,none⟩=false:=by obtain ⟨f,h,_⟩:=h;exact h.frozen i
theorem InR.set {n:Nat} (h:InR V gI n) (i:Nat) (hx:x<n):InR (V.setCell ⟨gI,i,none⟩ (.int .i64 x)) gI n:=by
 obtain ⟨f,h,hf⟩:=h
 refine ⟨fun j=>if j=i then x else f j,(h.set i (.int .i64 x)).congr (fun j A => ?_),fun j A => ?_⟩
 · by_cases e:j=i
   · simp [e]
   · simp [e]
 · by_cases e:j=i
   · simp only [e,if_pos];exact hx
   · simp only [e,if_false];exact hf j A
theorem InR.later {n:Nat} (h:InR V gI n) (hb:Below V.heap.size V V'):InR V' gI n:=by
 obtain ⟨f,h,hf⟩:=h
 exact ⟨f,h.of_block (hb.block gI h.lt),hf⟩
theorem zfj (gI n a b m:Nat) (K:Value) (V:World) (h:InR V gI n) (h1:a+m≤b) (h2:b+m≤n) (hn:n≤1000):Calls Tryz.prog 142 #[.slice (some ⟨gI,0,none⟩) n n, .int .i64 a, .int .i64 b, .int .i64 m,K] V (SoR gI n V):=by
 go_enter Tryz.func142,Tryz.ntmps142
 go_wp2_with fail
 go_loopw [10] (fun i wr => ∃ k:Nat,k≤m∧i = .int .i64 k∧Hid (Chg [gI] V wr∧InR wr gI n)) (fun i _=>m-(intOf i).toNat)
 case atStart=>exact ⟨0,Nat.zero_le _,rfl,Z9 ⟨Chg.refl _ _,h⟩⟩
 case round =>
  obtain ⟨k,hk,rfl,HR⟩:=hrel
  by_cases hlt:k<m
  · obtain ⟨x,hx,H⟩:=HR.out.2.at (i:=b+k) (by omega)
    obtain ⟨y,B,G⟩:=HR.out.2.at (i:=a+k) (by omega)
    have C:(k:Int)<(m:Int):=by omega
    have F:=HR.out.2.frozen
    have L:=HR.out.2.lt
    have b0:(0:Int)≤(b:Int)+(k:Int):=by omega
    have b1:(b:Int)+(k:Int)<(n:Int):=by omega
    have a0:(0:Int)≤(a:Int)+(k:Int):=by omega
    have J:(a:Int)+(k:Int)<(n:Int):=by omega
    have b2:((b:Int)+(k:Int)).toNat=b+k:=by omega
    have I:((a:Int)+(k:Int)).toNat=a+k:=by omega
    have D:¬a+k=b+k:=by omega
    have E:¬b+k=a+k:=by omega
    go_upto_region 3 with fail
    go_region
    have A:=Z9 (show Chg [gI] V (World.drew ((wr.setCell ⟨gI,a+k,none⟩ (.int .i64 (x:Int))).setCell ⟨gI,b+k,none⟩ (.int .i64 (y:Int))))∧InR (World.drew ((wr.setCell ⟨gI,a+k,none⟩ (.int .i64 (x:Int))).setCell ⟨gI,b+k,none⟩ (.int .i64 (y:Int)))) gI n from ⟨HR.out.1.trans (Chg.drew ((Chg.of_only (OnlyB.setCell _ _ _ _) (by simp)).trans (Chg.of_only (OnlyB.setCell _ _ _ _) (by simp)))),((HR.out.2.set (a+k) hx).set (b+k) B).drew⟩)
    generalize World.drew ((wr.setCell ⟨gI,a+k,none⟩ (.int .i64 (x:Int))).setCell ⟨gI,b+k,none⟩ (.int .i64 (y:Int)))=W9 at A ⊢
    go_wp2_with fail
    go_roundw
    case rel=>exact ⟨k+1,by omega,by go_num,A⟩
    case measure=>simp [intOf];omega
  · have C:¬(k:Int)<(m:Int):=by omega
    go_wp2_with fail
    go_end0
    exact ⟨rfl,HR.out.1,HR.out.2⟩
theorem zwm (gI n a m b:Nat) (K:Value) (V:World) (h:InR V gI n) (h1:a<m) (h2:m<b) (h3:b≤n) (hn:n≤1000):Calls Tryz.prog 141 #[.slice (some ⟨gI,0,none⟩) n n, .int .i64 a, .int .i64 m, .int .i64 b,K] V (SoR gI n V):=by
 have J:(m:Int)-(a:Int)=((m-a:Nat):Int):=by omega
 have I:(b:Int)-(m:Int)=((b-m:Nat):Int):=by omega
 go_enter Tryz.func141,Tryz.ntmps141
 go_wp2_with fail
 go_loopw [10,11] (fun i j wr => ∃ p q:Nat,0<p∧0<q∧p≤m∧m+q≤n∧i = .int .i64 p∧j = .int .i64 q∧Hid (Chg [gI] V wr∧InR wr gI n)) (fun i j _=>(intOf i).toNat+(intOf j).toNat)
 case atStart=>exact ⟨m-a,b-m,by omega,by omega,by omega,by omega,rfl,rfl,Z9 ⟨Chg.refl _ _,h⟩⟩
 case round =>
  obtain ⟨p,q,hp,hq,F,L,rfl,rfl,HR⟩:=hrel
  have E:(m:Int)-(p:Int)=((m-p:Nat):Int):=by omega
  rcases Nat.lt_trichotomy p q with B|B|B
  · have D:¬(p:Int)=(q:Int):=by omega
    have C:¬(q:Int)<(p:Int):=by omega
    have H:(m:Int)+(q:Int)-(p:Int)=((m+q-p:Nat):Int):=by omega
    have G:(q:Int)-(p:Int)=((q-p:Nat):Int):=by omega
    go_wp2_with fail
    refine (zfj gI n (m-p) (m+q-p) p K wr HR.out.2 (by omega) (by omega) hn).mono ?_
    rintro e w9 ⟨rfl,hc,hi⟩
    have A:=Z9 (show Chg [gI] V w9∧InR w9 gI n from ⟨HR.out.1.trans hc,hi⟩)
    clear hc hi E D C H
    go_wp2_with fail
    go_roundw
    case rel=>exact ⟨p,q-p,by omega,by omega,by omega,by omega,rfl,rfl,A⟩
    case measure=>simp [intOf];omega
  · subst B
    go_wp2_with fail
    refine (zfj gI n (m-p) m p K wr HR.out.2 (by omega) (by omega) hn).mono ?_
    rintro e w9 ⟨rfl,hc,hi⟩
    have A:=Z9 (show Chg [gI] V w9∧InR w9 gI n from ⟨HR.out.1.trans hc,hi⟩)
    clear hc hi E
    go_wp2_with fail
    go_end0
    exact ⟨rfl,A.out.1,A.out.2⟩
  · have D:¬(p:Int)=(q:Int):=by omega
    have C:(q:Int)<(p:Int):=by omega
    have G:(p:Int)-(q:Int)=((p-q:Nat):Int):=by omega
    go_wp2_with fail
    refine (zfj gI n (m-p) m q K wr HR.out.2 (by omega) (by omega) hn).mono ?_
    rintro e w9 ⟨rfl,hc,hi⟩
    have A:=Z9 (show Chg [gI] V w9∧InR w9 gI n from ⟨HR.out.1.trans hc,hi⟩)
    clear hc hi E D C
    go_wp2_with fail
    go_roundw
    case rel=>exact ⟨p-q,q,by omega,by omega,by omega,by omega,rfl,rfl,A⟩
    case measure=>simp [intOf];omega
def CmpI (V:World) (e:Ending) (w':World):Prop:=∃ z:Int,e = .returned (.int .i64 z)∧Below V.heap.size V w'
theorem zpz (gI n F:Nat) (C:Array Value) (P:World→Prop) (Bo:∀ (args:Array Value) (w:World),(callFunc F args).run Tryz.prog w = .ok (.enter F args) w) (J:∀ V V':World,P V→Chg [gI] V V'→P V') (kC:∀ (V:World) (a b:Nat),P V→a<n→b<n→Calls Tryz.prog F (#[.int .i64 a, .int .i64 b]++C) V (CmpI V)) (hn:n≤1000) (a b:Nat) (V:World) (h:InR V gI n) (h0:P V) (h1:a≤b) (h2:b≤n):Calls Tryz.prog 139 #[.slice (some ⟨gI,0,none⟩) n n, .int .i64 a, .int .i64 b,(.func (.func F) #[] C)] V (SoR gI n V):=by
 go_enter Tryz.func139,Tryz.ntmps139
 go_wp2_with fail
 refine wp_loop_rounds (b-a+1) (zav (fun m c wr => ∃ (i:Nat) (z:Int),z=(i:Int)∧m+i=b+1∧a<i∧Hid (Chg [gI] V wr∧InR wr gI n∧P wr)∧Fr 53 [(8, .int .i64 z),(0, .slice (some ⟨gI,0,none⟩) n n),(1, .int .i64 a),(2, .int .i64 b),(3,(.func (.func F) #[] C))] c) (fun m c wr L => ?_) (b-a) _ _ ⟨a+1,(a:Int)+1,by omega,by omega,by omega,Z9 ⟨Chg.refl _ _,h,h0⟩,Fr.mk rfl ⟨rfl,rfl,rfl,rfl,rfl,trivial⟩⟩)
 clear h h0
 obtain ⟨i,z,rfl,hm,hai,B,hc⟩:=L
 obtain ⟨s,rfl,f⟩:=hc
 simp only [rl9]
 obtain ⟨M,T,R,O,N,_⟩:=f
 rw [M,T,R,O,N]
 by_cases hib:i<b
 rotate_left
 · have zH:¬(i:Int)<(b:Int):=by omega
   go_wp2_with fail
   go_end0
   exact ⟨rfl,B.out.1,B.out.2.1⟩
 have zH:(i:Int)<(b:Int):=by omega
 go_upto_region 3 with fail
 go_wp2_with fail
 refine wp_loop_rounds (i+1) (zav (fun m2 c wr => ∃ (j:Nat) (z:Int),z=(j:Int)∧m2=j∧a≤j∧j≤i∧Hid (Chg [gI] V wr∧InR wr gI n∧P wr)∧Fr 53 [(9, .int .i64 z),(8, .int .i64 (i:Int)),(0, .slice (some ⟨gI,0,none⟩) n n),(1, .int .i64 a),(2, .int .i64 b),(3,(.func (.func F) #[] C))] c) (fun m2 c wr L => ?_) i _ _ ⟨i,(i:Int),rfl,rfl,by omega,Nat.le_refl _,B,Fr.mk rfl ⟨rfl,rfl,rfl,rfl,rfl,rfl,trivial⟩⟩)
 clear B
 obtain ⟨j,z,rfl,rfl,haj,hji,B,hc⟩:=L
 obtain ⟨s,rfl,f⟩:=hc
 simp only [rl9]
 obtain ⟨e9,M,T,R,O,N,_⟩:=f
 rw [e9,M,T,R,O,N]
 have Z:Hid (P wr):=Z9 B.out.2.2
 by_cases hlt:a<m2
 rotate_left
 · have d:¬(a:Int)<(m2:Int):=by omega
   have eG:decide ((a:Int)<(m2:Int))=false:=decide_eq_false d
   go_upto_region 4 with fail
   refine wp_region_held_drew (S:=fun w'=>Below wr.heap.size wr w') (by kernel_rfl) (Below.drew (Below.refl _ _)) (fun A => ?_)
   obtain ⟨X,I⟩:=nm9 wr.drew
   rw [← I] at A ⊢
   clear I
   iterate 17
    first
    | refine tkN 17 (v:=undef) rfl rfl (Or.inr ⟨by rfl,rfl⟩) A ?_
    | (refine tkM 17 (v:=?_) rfl rfl ?_ A ?_
       rotate_left
       · (intro w H;clear H;go_simp;try with_reducible rfl))
    try simp only [ss9]
   refine wpAnyH_done (by kernel_rfl) ?_ _
   have E:Hid (Chg [gI] V X∧InR X gI n∧P X):=Z9 ⟨B.out.1.trans (Chg.of_below A),B.out.2.1.later A,J _ _ B.out.2.2 (Chg.of_below A)⟩
   clear d eG A B Z
   go_wp2_with fail
   first|exact ⟨m-1,by omega,i+1,(i:Int)+1,by omega,by omega,by omega,E,Fr.mk rfl ⟨rfl,rfl,rfl,rfl,rfl,trivial⟩⟩|exact ⟨m-1,by omega,i+1,by omega,by omega,Fr.mk rfl ⟨rfl,rfl,rfl,rfl,rfl,trivial⟩⟩
 have d:(a:Int)<(m2:Int):=by omega
 have j0:(0:Int)≤(m2:Int):=by omega
 have j1:(m2:Int)<(n:Int):=by omega
 have k0:(0:Int)≤(m2:Int)-1:=by omega
 have k1:(m2:Int)-1<(n:Int):=by omega
 have k3:(1:Int)≤(m2:Int):=by omega
 have k2:((m2:Int)-1).toNat=m2-1:=by omega
 have kw:IntKind.i64.wrap ((m2:Int)-1)=(m2:Int)-1:=zpy _ (by omega) (by omega)
 obtain ⟨x,hx,Y⟩:=B.out.2.1.at (i:=m2) (by omega)
 obtain ⟨y,hy,U⟩:=B.out.2.1.at (i:=m2-1) (by omega)
 have G:=B.out.2.1.lt
 go_upto_region 4 with fail
 refine wp_region_held_drew (S:=fun w'=>Below wr.heap.size wr w') (by kernel_rfl) (Below.drew (Below.refl _ _)) (fun A => ?_)
 obtain ⟨X,I⟩:=nm9 wr.drew
 rw [← I] at A ⊢
 clear I
 iterate 14
  refine tkM 17 (v:=?_) rfl rfl ?_ A ?_
  rotate_left
  · (intro w H;have u0:=(H.cell (p:=⟨gI,m2,none⟩) G).trans Y;have u1:=(H.cell (p:=⟨gI,m2-1,none⟩) G).trans U;clear H;go_simp;try with_reducible rfl)
  try simp only [ss9]
 refine rd1 14 (by kernel_rfl) rfl fun K g=>?_
 go_simp
 try rw [Bo]
 refine (kC X x y (J _ _ Z.out (Chg.of_below A)) (by assumption) (by assumption)).mono ?_
 rintro e D ⟨z,rfl,Q⟩
 refine g.out _ _ ?_ (fun W => ?_)
 · exact zak Q A
 clear g K Q A
 have A:=W
 clear W
 try simp only [ss9]
 iterate 2
  refine tkM 17 (v:=?_) rfl rfl ?_ A ?_
  rotate_left
  · (intro w H;clear H;go_simp;try with_reducible rfl)
  try simp only [ss9]
 refine wpAnyH_done (by kernel_rfl) ?_ _
 have E:Hid (Chg [gI] V D∧InR D gI n∧P D):=Z9 ⟨B.out.1.trans (Chg.of_below A),B.out.2.1.later A,J _ _ B.out.2.2 (Chg.of_below A)⟩
 have o:=(A.cell (p:=⟨gI,m2,none⟩) G).trans Y
 have l:=(A.cell (p:=⟨gI,m2-1,none⟩) G).trans U
 clear Y U A B Z G
 by_cases hz:z<0
 rotate_left
 · have u:decide (z<0)=false:=decide_eq_false hz
   clear o l j0 j1 k0 k1 k2
   go_wp2_with fail
   first|exact ⟨m-1,by omega,i+1,(i:Int)+1,by omega,by omega,by omega,E,Fr.mk rfl ⟨rfl,rfl,rfl,rfl,rfl,trivial⟩⟩|exact ⟨m-1,by omega,i+1,by omega,by omega,Fr.mk rfl ⟨rfl,rfl,rfl,rfl,rfl,trivial⟩⟩
 have u:decide (z<0)=true:=decide_eq_true hz
 have fz:=E.out.2.1.frozen
 have G:=E.out.2.1.lt
 have sU:¬m2=m2-1:=by omega
 have sR:¬m2-1=m2:=by omega
 go_upto_region 6 with fail
 go_region
 have t:Hid (Chg [gI] V (World.drew ((D.setCell ⟨gI,m2,none⟩ (.int .i64 (y:Int))).setCell ⟨gI,m2-1,none⟩ (.int .i64 (x:Int))))∧InR (World.drew ((D.setCell ⟨gI,m2,none⟩ (.int .i64 (y:Int))).setCell ⟨gI,m2-1,none⟩ (.int .i64 (x:Int)))) gI n∧P (World.drew ((D.setCell ⟨gI,m2,none⟩ (.int .i64 (y:Int))).setCell ⟨gI,m2-1,none⟩ (.int .i64 (x:Int))))):=Z9 (by
  have hc:Chg [gI] D (World.drew ((D.setCell ⟨gI,m2,none⟩ (.int .i64 (y:Int))).setCell ⟨gI,m2-1,none⟩ (.int .i64 (x:Int)))):=Chg.drew ((Chg.of_only (OnlyB.setCell _ _ _ _) (by simp)).trans (Chg.of_only (OnlyB.setCell _ _ _ _) (by simp)))
  exact ⟨E.out.1.trans hc,((E.out.2.1.set m2 hy).set (m2-1) hx).drew,J _ _ E.out.2.2 hc⟩)
 generalize World.drew ((D.setCell ⟨gI,m2,none⟩ (.int .i64 (y:Int))).setCell ⟨gI,m2-1,none⟩ (.int .i64 (x:Int)))=W9 at t ⊢
 clear E o l fz G sU sR u
 go_wp2_with fail
 exact ⟨m2-1,by omega,m2-1,(m2:Int)-1,by omega,rfl,by omega,by omega,t,Fr.mk rfl ⟨rfl,rfl,rfl,rfl,rfl,rfl,trivial⟩⟩
structure SyI (P:World→Prop) (gI n:Nat) (V wr:World):Prop where
 ch:Chg [gI] V wr
 ix:InR wr gI n
 p:P wr
def ShJ (I:World→Prop) (p1 hi:Nat) (FR:List (Nat×Value)) (m:Nat) (c:Act) (wr:World):Prop:=∃ k:Nat,k+m=hi∧I wr∧Fr 220 ((p1, .int .i64 (k:Int))::FR) c
def ShD (I:World→Prop) (p1 lo hi:Nat) (FR:List (Nat×Value)) (m:Nat) (c:Act) (wr:World):Prop:=∃ k:Nat,lo+m=k∧k≤hi∧I wr∧Fr 220 ((p1, .int .i64 (k:Int))::FR) c
def BinJ (I:World→Prop) (p1 p2 lo hi:Nat) (FR:List (Nat×Value)) (m:Nat) (c:Act) (wr:World):Prop:=∃ i j:Nat,lo≤i∧i≤j∧j≤hi∧j≤i+m∧I wr∧Fr 220 ((p1, .int .i64 (i:Int))::(p2, .int .i64 (j:Int))::FR) c
theorem SyI.later {P:World→Prop} {n:Nat} (A:∀ V V':World,P V→Chg [gI] V V'→P V') (h:SyI P gI n V wr) (hb:Below wr.heap.size wr X):SyI P gI n V X:=⟨h.ch.trans (Chg.of_below hb),h.ix.later hb,A _ _ h.p (Chg.of_below hb)⟩
theorem SyI.swap {P:World→Prop} {n:Nat} (B:∀ V V':World,P V→Chg [gI] V V'→P V') (h:SyI P gI n V wr) (i j:Nat) (hx:x<n) (A:y<n):SyI P gI n V (World.drew ((wr.setCell ⟨gI,i,none⟩ (.int .i64 (x:Int))).setCell ⟨gI,j,none⟩ (.int .i64 (y:Int)))):=by
 have hc:Chg [gI] wr (World.drew ((wr.setCell ⟨gI,i,none⟩ (.int .i64 (x:Int))).setCell ⟨gI,j,none⟩ (.int .i64 (y:Int)))):=Chg.drew ((Chg.of_only (OnlyB.setCell _ _ _ _) (by simp)).trans (Chg.of_only (OnlyB.setCell _ _ _ _) (by simp)))
 exact ⟨h.ch.trans hc,((h.ix.set i hx).set j A).drew,B _ _ h.p hc⟩
theorem zwn {P:Program} {o:Array Oper} {d:Bool} {x:Code} {Q:Exit→Act→World→Prop} {a:Act} (h:∀ L:Act→World→Prop,(∀ a w,x.wp P Q a w→L a w)→(Code.region i o d).wp P (Exit.then L Q) a w):firstWp P (.seq (.region i o d) x) Q a w:=h _ fun _ _ h=>h
noncomputable def sym1_code:Code:=((Tryz.f140.body.bind (findT 1)).getD .skip)
noncomputable def sym13_code:Code:=((Tryz.f140.body.bind (findT 13)).getD .skip)
noncomputable def sym24_code:Code:=((Tryz.f140.body.bind (fromReg 24)).getD .skip)
theorem zwo (gI n F:Nat) (C:Array Value) (P:World→Prop) (Bo:∀ (args:Array Value) (w:World),(callFunc F args).run Tryz.prog w = .ok (.enter F args) w) (Y:∀ V V':World,P V→Chg [gI] V V'→P V') (kC:∀ (V:World) (a b:Nat),P V→a<n→b<n→Calls Tryz.prog F (#[.int .i64 a, .int .i64 b]++C) V (CmpI V)) (hn:n≤1000) {R:Ending→World→Prop} (hR:∀ w':World,Chg [gI] V w'→InR w' gI n→R (.returned (.tuple #[])) w') {K9:Act→World→Prop} (a m b:Nat) (h1:a<m) (h2:m<b) (h3:b≤n) (W:World) (H:SyI P gI n V W) (c:Act) (hc:Fr 220 [(0, .slice (some ⟨gI,0,none⟩) n n),(1, .int .i64 a),(2, .int .i64 m),(3, .int .i64 b),(4,(.func (.func F) #[] C))] c):firstWp Tryz.prog sym1_code (Exit.then K9 (bodyPost Tryz.prog Tryz.f140 R)) c W:=by
 obtain ⟨s,rfl,O⟩:=hc
 simp only [rl9]
 obtain ⟨J,I,G,E,D,_⟩:=O
 rw [J,I,G,E,D]
 clear J I G E D
 refine zas ?_
 intro _ _
 go_upto_region 2 with fail
 go_wp2_with fail
 refine wp_loop_rounds (b-m+1) (zav (BinJ (SyI P gI n V) 10 11 m b [(0, .slice (some ⟨gI,0,none⟩) n n),(1, .int .i64 a),(2, .int .i64 m),(3, .int .i64 b),(4,(.func (.func F) #[] C))]) (fun g c wr Z => ?_) (b-m) _ _ ⟨m,b,Nat.le_refl _,by omega,Nat.le_refl _,by omega,H,Fr.mk rfl ⟨rfl,rfl,rfl,rfl,rfl,rfl,rfl,trivial⟩⟩)
 clear H
 obtain ⟨i,j,Ct,bF,oQ,Jr,A,hc⟩:=Z
 obtain ⟨s,rfl,O⟩:=hc
 simp only [rl9]
 obtain ⟨L,u,J,I,G,E,D,_⟩:=O
 rw [L,u,J,I,G,E,D]
 clear L u J I G E D
 by_cases hlt:i<j
 rotate_left
 · have Cx:¬(i:Int)<(j:Int):=by omega
   go_upto_region 8 with fail
   clear hlt Cx
   go_wp2_with fail
   refine wp_loop_rounds (i-a+1) (zav (ShJ (SyI P gI n V) 13 i ((10, .int .i64 (i:Int)) :: [(0, .slice (some ⟨gI,0,none⟩) n n),(1, .int .i64 a),(2, .int .i64 m),(3, .int .i64 b),(4,(.func (.func F) #[] C))])) (fun m8 c wr Z => ?_) (i-a) _ _ ⟨a,by omega,A,Fr.mk rfl ⟨rfl,rfl,rfl,rfl,rfl,rfl,rfl,trivial⟩⟩)
   clear A
   obtain ⟨k,hk,A,hc⟩:=Z
   obtain ⟨s,rfl,O⟩:=hc
   simp only [rl9]
   obtain ⟨ek,L,J,I,G,E,D,_⟩:=O
   rw [ek,L,J,I,G,E,D]
   clear ek L J I G E D
   by_cases d8:k+1<i
   rotate_left
   · have Qw:¬(k:Int)<(i:Int)-1:=by omega
     have Wz:¬(k:Int)+1<(i:Int):=by omega
     go_wp2_with fail
     go_end0
     exact hR _ A.ch A.ix
   have Qw:(k:Int)<(i:Int)-1:=by omega
   have Wz:(k:Int)+1<(i:Int):=by omega
   obtain ⟨x,hx,U⟩:=A.ix.at (i:=k+1) (by omega)
   obtain ⟨y,l,T⟩:=A.ix.at (i:=k) (by omega)
   have fz:=A.ix.frozen
   have N:=A.ix.lt
   have b0:(0:Int)≤(k:Int):=by omega
   have b1:(k:Int)<(n:Int):=by omega
   have a0:(0:Int)≤(k:Int)+1:=by omega
   have a1:(k:Int)+1<(n:Int):=by omega
   have a2:((k:Int)+1).toNat=k+1:=by omega
   have sU:¬k=k+1:=by omega
   have sR:¬k+1=k:=by omega
   go_upto_region 11 with fail
   go_region
   have HN:=Z9 (SyI.swap Y A k (k+1) hx l)
   generalize World.drew ((wr.setCell ⟨gI,k,none⟩ (.int .i64 (x:Int))).setCell ⟨gI,k+1,none⟩ (.int .i64 (y:Int)))=W9 at HN ⊢
   clear A U T fz N
   go_wp2_with fail
   exact ⟨m8-1,by omega,k+1,by omega,HN.out,Fr.mk rfl ⟨rfl,rfl,rfl,rfl,rfl,rfl,rfl,trivial⟩⟩
 have Cx:(i:Int)<(j:Int):=by omega
 obtain ⟨h,hh⟩:=nm9 ((i+j) / 2)
 have he:((i:Int)+(j:Int)) / 2=(h:Int):=by omega
 have zI:i≤h:=by omega
 have NU:h<j:=by omega
 clear hh
 have g0:(0:Int)≤(h:Int):=by omega
 have g1:(h:Int)<(n:Int):=by omega
 have g2:(0:Int)≤(a:Int):=by omega
 have g3:(a:Int)<(n:Int):=by omega
 obtain ⟨x,hx,U⟩:=A.ix.at (i:=h) (by omega)
 obtain ⟨y,l,T⟩:=A.ix.at (i:=a) (by omega)
 have N:=A.ix.lt
 have HP:=Z9 A.p
 go_upto_region 5 with fail
 refine wp_region_held_drew (S:=fun w'=>Below wr.heap.size wr w') (by kernel_rfl) (Below.drew (Below.refl _ _)) (fun B => ?_)
 obtain ⟨X,o⟩:=nm9 wr.drew
 rw [← o] at B ⊢
 clear o
 iterate 9
  refine tkM 11 (v:=?_) rfl rfl ?_ B ?_
  rotate_left
  · (intro w f;have Tc:=(f.cell (p:=⟨gI,h,none⟩) N).trans U;have Uq:=(f.cell (p:=⟨gI,a,none⟩) N).trans T;clear f;go_simp;try with_reducible rfl)
  try simp only [ss9]
 refine rd1 9 (by kernel_rfl) rfl fun K t=>?_
 go_simp
 try rw [Bo]
 refine (kC X x y (Y _ _ HP.out (Chg.of_below B)) (by assumption) (by assumption)).mono ?_
 rintro e X2 ⟨z,rfl,Ad⟩
 refine t.out _ _ ?_ (fun Aa => ?_)
 · exact zak Ad B
 clear t K Ad B
 have B:=Aa
 clear Aa
 try simp only [ss9]
 refine tkB 10 rfl B ?_
 try simp only [ss9]
 refine wpAnyH_done (by kernel_rfl) ?_ _
 have Q:=Z9 (SyI.later Y A B)
 clear B A HP U T N
 by_cases hz:z<0
 · have M:decide (z<0)=true:=decide_eq_true hz
   have dQ:¬0≤z:=by omega
   have d:(!decide (z<0))=false:=by rw [M];rfl
   first|rw [d]|rw [M]
   go_wp2_with fail
   exact ⟨g-1,by omega,h+1,j,by omega,by omega,by omega,by omega,Q.out,Fr.mk rfl ⟨rfl,rfl,rfl,rfl,rfl,rfl,rfl,trivial⟩⟩
 · have M:decide (z<0)=false:=decide_eq_false hz
   have dQ:0≤z:=by omega
   have d:(!decide (z<0))=true:=by rw [M];rfl
   first|rw [d]|rw [M]
   go_wp2_with fail
   exact ⟨g-1,by omega,i,h,by omega,by omega,by omega,by omega,Q.out,Fr.mk rfl ⟨rfl,rfl,rfl,rfl,rfl,rfl,rfl,trivial⟩⟩
theorem zth (gI n F:Nat) (C:Array Value) (P:World→Prop) (Bo:∀ (args:Array Value) (w:World),(callFunc F args).run Tryz.prog w = .ok (.enter F args) w) (Z:∀ V V':World,P V→Chg [gI] V V'→P V') (kC:∀ (V:World) (a b:Nat),P V→a<n→b<n→Calls Tryz.prog F (#[.int .i64 a, .int .i64 b]++C) V (CmpI V)) (hn:n≤1000) {R:Ending→World→Prop} (hR:∀ w':World,Chg [gI] V w'→InR w' gI n→R (.returned (.tuple #[])) w') {K9:Act→World→Prop} (a m b:Nat) (h1:a<m) (h2:m<b) (h3:b≤n) (W:World) (H:SyI P gI n V W) (c:Act) (hc:Fr 220 [(0, .slice (some ⟨gI,0,none⟩) n n),(1, .int .i64 a),(2, .int .i64 m),(3, .int .i64 b),(4,(.func (.func F) #[] C))] c):firstWp Tryz.prog sym13_code (Exit.then K9 (bodyPost Tryz.prog Tryz.f140 R)) c W:=by
 obtain ⟨s,rfl,O⟩:=hc
 simp only [rl9]
 obtain ⟨J,I,G,E,D,_⟩:=O
 rw [J,I,G,E,D]
 clear J I G E D
 refine zas ?_
 intro _ _
 go_upto_region 14 with fail
 go_wp2_with fail
 refine wp_loop_rounds (m-a+1) (zav (BinJ (SyI P gI n V) 14 15 a m [(0, .slice (some ⟨gI,0,none⟩) n n),(1, .int .i64 a),(2, .int .i64 m),(3, .int .i64 b),(4,(.func (.func F) #[] C))]) (fun l c wr d => ?_) (m-a) _ _ ⟨a,m,Nat.le_refl _,by omega,Nat.le_refl _,by omega,H,Fr.mk rfl ⟨rfl,rfl,rfl,rfl,rfl,rfl,rfl,trivial⟩⟩)
 clear H
 obtain ⟨i,j,Ct,bF,oQ,Jr,A,hc⟩:=d
 obtain ⟨s,rfl,O⟩:=hc
 simp only [rl9]
 obtain ⟨L,Q,J,I,G,E,D,_⟩:=O
 rw [L,Q,J,I,G,E,D]
 clear L Q J I G E D
 by_cases hlt:i<j
 rotate_left
 · have Cx:¬(i:Int)<(j:Int):=by omega
   go_upto_region 20 with fail
   clear hlt Cx
   go_wp2_with fail
   refine wp_loop_rounds (m-i+1) (zav (ShD (SyI P gI n V) 17 i m ((14, .int .i64 (i:Int)) :: [(0, .slice (some ⟨gI,0,none⟩) n n),(1, .int .i64 a),(2, .int .i64 m),(3, .int .i64 b),(4,(.func (.func F) #[] C))])) (fun m8 c wr d => ?_) (m-i) _ _ ⟨m,by omega,Nat.le_refl _,A,Fr.mk rfl ⟨rfl,rfl,rfl,rfl,rfl,rfl,rfl,trivial⟩⟩)
   clear A
   obtain ⟨k,hk,hkm,A,hc⟩:=d
   obtain ⟨s,rfl,O⟩:=hc
   simp only [rl9]
   obtain ⟨ek,L,J,I,G,E,D,_⟩:=O
   rw [ek,L,J,I,G,E,D]
   clear ek L J I G E D
   by_cases d8:i<k
   rotate_left
   · have Qw:¬(i:Int)<(k:Int):=by omega
     go_wp2_with fail
     go_end0
     exact hR _ A.ch A.ix
   have Qw:(i:Int)<(k:Int):=by omega
   obtain ⟨x,hx,Y⟩:=A.ix.at (i:=k-1) (by omega)
   obtain ⟨y,o,U⟩:=A.ix.at (i:=k) (by omega)
   have fz:=A.ix.frozen
   have N:=A.ix.lt
   have b0:(0:Int)≤(k:Int):=by omega
   have b1:(k:Int)<(n:Int):=by omega
   have a0:(0:Int)≤(k:Int)-1:=by omega
   have a3:(1:Int)≤(k:Int):=by omega
   have a1:(k:Int)-1<(n:Int):=by omega
   have a2:((k:Int)-1).toNat=k-1:=by omega
   have kw:IntKind.i64.wrap ((k:Int)-1)=(k:Int)-1:=zpy _ (by omega) (by omega)
   have sU:¬k=k-1:=by omega
   have sR:¬k-1=k:=by omega
   go_upto_region 23 with fail
   go_region
   have HN:=Z9 (SyI.swap Z A k (k-1) hx o)
   generalize World.drew ((wr.setCell ⟨gI,k,none⟩ (.int .i64 (x:Int))).setCell ⟨gI,k-1,none⟩ (.int .i64 (y:Int)))=W9 at HN ⊢
   have g:(k:Int)-1=((k-1:Nat):Int):=by omega
   clear A Y U fz N
   go_wp2_with fail
   exact ⟨m8-1,by omega,k-1,by omega,by omega,HN.out,Fr.mk rfl ⟨by first|rfl|(rw [← g];rfl)|simp [g],rfl,rfl,rfl,rfl,rfl,rfl,trivial⟩⟩
 have Cx:(i:Int)<(j:Int):=by omega
 obtain ⟨h,hh⟩:=nm9 ((i+j) / 2)
 have he:((i:Int)+(j:Int)) / 2=(h:Int):=by omega
 have zI:i≤h:=by omega
 have NU:h<j:=by omega
 clear hh
 have g0:(0:Int)≤(h:Int):=by omega
 have g1:(h:Int)<(n:Int):=by omega
 have g2:(0:Int)≤(m:Int):=by omega
 have g3:(m:Int)<(n:Int):=by omega
 obtain ⟨x,hx,Y⟩:=A.ix.at (i:=m) (by omega)
 obtain ⟨y,o,U⟩:=A.ix.at (i:=h) (by omega)
 have N:=A.ix.lt
 have HP:=Z9 A.p
 go_upto_region 17 with fail
 refine wp_region_held_drew (S:=fun w'=>Below wr.heap.size wr w') (by kernel_rfl) (Below.drew (Below.refl _ _)) (fun B => ?_)
 obtain ⟨X,t⟩:=nm9 wr.drew
 rw [← t] at B ⊢
 clear t
 iterate 9
  refine tkM 12 (v:=?_) rfl rfl ?_ B ?_
  rotate_left
  · (intro w T;have Tc:=(T.cell (p:=⟨gI,m,none⟩) N).trans Y;have Uq:=(T.cell (p:=⟨gI,h,none⟩) N).trans U;clear T;go_simp;try with_reducible rfl)
  try simp only [ss9]
 refine rd1 9 (by kernel_rfl) rfl fun K u=>?_
 go_simp
 try rw [Bo]
 refine (kC X x y (Z _ _ HP.out (Chg.of_below B)) (by assumption) (by assumption)).mono ?_
 rintro e X2 ⟨z,rfl,Ad⟩
 refine u.out _ _ ?_ (fun Aa => ?_)
 · exact zak Ad B
 clear u K Ad B
 have B:=Aa
 clear Aa
 try simp only [ss9]
 iterate 2
  refine tkM 12 (v:=?_) rfl rfl ?_ B ?_
  rotate_left
  · (intro w T;clear T;go_simp;try with_reducible rfl)
  try simp only [ss9]
 refine wpAnyH_done (by kernel_rfl) ?_ _
 have Ps:=Z9 (SyI.later Z A B)
 clear B A HP Y U N
 by_cases hz:z<0
 · have M:decide (z<0)=true:=decide_eq_true hz
   have dQ:¬0≤z:=by omega
   have f:(!decide (z<0))=false:=by rw [M];rfl
   first|rw [f]|rw [M]
   go_wp2_with fail
   exact ⟨l-1,by omega,i,h,by omega,by omega,by omega,by omega,Ps.out,Fr.mk rfl ⟨rfl,rfl,rfl,rfl,rfl,rfl,rfl,trivial⟩⟩
 · have M:decide (z<0)=false:=decide_eq_false hz
   have dQ:0≤z:=by omega
   have f:(!decide (z<0))=true:=by rw [M];rfl
   first|rw [f]|rw [M]
   go_wp2_with fail
   exact ⟨l-1,by omega,h+1,j,by omega,by omega,by omega,by omega,Ps.out,Fr.mk rfl ⟨rfl,rfl,rfl,rfl,rfl,rfl,rfl,trivial⟩⟩
end
end Go.Proofs.YtbcgnddpkiemoaaGreat
