/- Layer 25: packets and their bytes, in plain words; what stays of memory while bytes are appended. -/
import Derived.Test.YtbcgnddpkiemoaaGreatSs9Q
import Derived.Test.YtbcgnddpkiemoaaGreatJtPnQ
import Derived.Deep.CutRange
import Derived.Deep.DeepCutAuto
import Derived.Deep.LoopGhost
import Derived.Laws.Bits64b
import Derived.Laws.CopyOwn
import Derived.WalkMore
import Derived.Laws.Rows
import Derived.BigQuiet
import Derived.Deep.QuietTactic
import Derived.RegionCalls
import Derived.Deep.RegionWith
import Derived.Deep.RegionHeld3
import Derived.Test.YtbcgnddpkiemoaaGreatJtCopyQ
import Derived.Test.YtbcgnddpkiemoaaGreatSbDecsQ
import Derived.RegionTactic
import Derived.ChangeAlike
import Derived.Test.YtbcgnddpkiemoaaGreatJtValidQ
import Derived.Deep.CutBlock
set_option linter.unusedVariables false
set_option linter.unusedSimpArgs false
set_option maxRecDepth 100000
set_option maxHeartbeats 12800000
namespace Go.Proofs.YtbcgnddpkiemoaaGreat
variable {N g g' n base c b off m bc gt i gl gq zc:Nat} {mK xs:List Value} {w W w' wx W':World} {t e:TypeId} {bs LV mx et pl:List Int} {cs X:Array Value} {v s0 s3 s4 s5 s6 s7 s8 s9 Jh Nv Hz Iq Ox Kc Kb Na Jo Nu Mz My Mw Mu Mt Ms Mr Mq Mp Mo Ns Nr Nq Np Mn Mm Ml Mk Mj Mi Ka Jz Jy Mh Mg Mf Me Mc Mb Ma Lz Ly Lx Lw Jg Nn Lv Lu Nm Nl Nk Nj Ni Lt Ls Lr Lq Lp Jn Lo Ln Lm Ll Lk Lj Li Lh Lg Lf Le Ld Lc Lb La Kz Ky Kx Kw Kv Ku Kt Ks Kr Kq Jf Jx Jw Je Jv Ju Ci Ch Cg Cf Ce Cq Dm Dl Dk Dj Di Dh Er Eq Ep Eo En Em El Ek Ej Ei Eh Eg Ef Ee Ed Ec Eb Ea Dz Dy Dx Dw Dv Du Dt Ds Dr:Value} {A SD Mx Et B KA ZA:Option Addr} {p p':Sb.Pt} {l:List TW} {now fn:Int}
section
attribute [local go_sem ↓] zab zac
attribute [local go_sem] zaa zad
open Go.RowKit
namespace Pk
structure Pkt where
 mark:Bool
 ty:Int
 sq:Int
 ti:Int
 so:Int
 mx:List Int
 ex:Bool
 ek:Int
 et:List Int
 pl:List Int
 pad:Int
def err (p:Pkt):Int :=
 if 127<p.ty∨p.pad<0∨255<p.pad then 3 else
 if p.ex=false∧(p.ek≠0∨0<p.et.length)∨p.et.length % 4≠0 then 2 else
 if 15<p.mx.length∨1020<p.et.length∨1500<p.pl.length then 4 else 0
def lead (p:Pkt):List Int:=[128+(p.mx.length:Int)+(if p.pad=0 then 0 else 32)+(if p.ex then 16 else 0),p.ty+if p.mark then 128 else 0]
def tail (p:Pkt):List Int:=(if p.ex then be 2 p.ek++be 2 ((p.et.length:Int) / 4)++p.et else [])++p.pl++(if p.pad=0 then [] else List.replicate (p.pad-1).toNat 0 ++ [p.pad])
def bytes (p:Pkt):List Int:=lead p++be 2 p.sq++be 4 p.ti++be 4 p.so++p.mx.flatMap (be 4)++tail p
def enc (p:Pkt):List Int×Int:=if err p=0 then (bytes p,0) else ([],err p)
theorem or_a:∀ m:Fin 16,bits BinOp.or IntKind.i64 128 (m.val:Int)=128+(m.val:Int):=by decide +kernel
theorem or_t:∀ t:Fin 128,bits BinOp.or IntKind.u8 (t.val:Int) 128=(t.val:Int)+128:=by decide +kernel
end Pk
theorem zgz (n:Int):IntKind.u8.wrap n=n % 256:=by simp [IntKind.wrap,IntKind.bits,IntKind.signed]
theorem zcn (n:Int):IntKind.u32.wrap n=n % 4294967296:=by simp [IntKind.wrap,IntKind.bits,IntKind.signed]
structure EState (w wx:World) (row:List Value) (A:Option Addr) (c:Nat) (out:List Int):Prop where
 hb:Blk wx w.heap.size 112 row.toArray
 hu:Bel w wx
 ho:Owns wx w.heap.size 5 1 A out.length c (pu8s out)
section
variable {w wx w':World} {row:List Value} {A A':Option Addr} {c c':Nat} {out l:List Int}
theorem EState.grown (h:EState w wx row A c out) (C:N=(out++l).length) (hn:mK=pu8s l) (B:Owns w' w.heap.size 5 1 A' N c' (pu8s out++mK)) (hg:wx.grownBy w' (ownB A)):EState w w' row A' c' (out++l):=by
 subst C hn
 exact ⟨h.hb.grown hg (zgs h.ho h.hb (by decide)),Below.grown h.hu hg h.hu.size (fun g e=>(h.ho.block g e).1),by rw [zod];exact B⟩
theorem EState.push (h:EState w wx row A c out) (o:Obj):EState w (wx.alloc o) row A c out:=⟨h.hb.push o,Bel.push h.hu o,h.ho.alloc o⟩
def EPut (w:World) (row:List Value) (out:List Int) (e:Ending) (w':World):Prop:=∃ (A':Option Addr) (c':Nat),e = .returned (.slice A' out.length c')∧Hid (EState w w' row A' c' out)
theorem EState.put (h:EState w wx row A c out) (x:Int) (n:Nat) (hn:n≤4) (x0:0≤x) (x1:x≤4294967295) (hl:out.length≤100000):Calls Tryz.prog 53 #[.slice A out.length c, .int .u32 x, .int .i64 n] wx (EPut w row (out++be n x)):=by
 refine (zuz wx w.heap.size A c out x n h.ho h.hu.size hn x0 x1 hl).mono ?_
 rintro e w1 ⟨A',c',rfl,ho,B⟩
 exact ⟨A',c',rfl,Z9 ⟨B.blk h.hb (zgs h.ho h.hb (by decide)),B.bel h.ho h.hu (Nat.le_refl _),ho⟩⟩
end
theorem zge (l:List Int) (k:Nat) (h:k<l.length):(l.take (k+1)).flatMap (be 4)=(l.take k).flatMap (be 4)++be 4 (l.getD k 0):=by
 rw [List.take_succ_eq_append_getElem h,List.flatMap_append,List.getD_eq_getElem?_getD,List.getElem?_eq_getElem h]
 simp
section
variable (mk:Bool) (ty sq ti so:Int) (Am:Option Addr) (mx:List Int) (cm:Nat) (ek:Int) (Ae:Option Addr) (et:List Int) (ce:Nat) (Ap:Option Addr) (pl:List Int) (cp:Nat) (pad:Int) (w:World)
theorem zrr (ex:Bool) (h:127<ty) (B:mx.length≤10000) (C:et.length≤10000) (A:pl.length≤10000):Calls Tryz.prog 52 #[.agg #[.bool mk, .int .u8 ty, .int .u16 sq, .int .u32 ti, .int .u32 so, .slice Am mx.length cm, .bool ex, .int .u16 ek, .slice Ae et.length ce, .slice Ap pl.length cp, .int .i64 pad]] w fun e w'=>e = .returned (.int .u8 3)∧Below w.heap.size w w':=by
 go_enter Tryz.func52,Tryz.ntmps52
 go_wp2_with fail
 go_ret
 exact ⟨rfl,Bel.push (Bel.refl w) _⟩
theorem zrs (ex:Bool) (t:ty≤127) (h:pad<0) (B:mx.length≤10000) (C:et.length≤10000) (A:pl.length≤10000):Calls Tryz.prog 52 #[.agg #[.bool mk, .int .u8 ty, .int .u16 sq, .int .u32 ti, .int .u32 so, .slice Am mx.length cm, .bool ex, .int .u16 ek, .slice Ae et.length ce, .slice Ap pl.length cp, .int .i64 pad]] w fun e w'=>e = .returned (.int .u8 3)∧Below w.heap.size w w':=by
 go_enter Tryz.func52,Tryz.ntmps52
 go_wp2_with fail
 go_ret
 exact ⟨rfl,Bel.push (Bel.refl w) _⟩
theorem zrt (ex:Bool) (t:ty≤127) (A:0≤pad) (h:255<pad) (C:mx.length≤10000) (D:et.length≤10000) (B:pl.length≤10000):Calls Tryz.prog 52 #[.agg #[.bool mk, .int .u8 ty, .int .u16 sq, .int .u32 ti, .int .u32 so, .slice Am mx.length cm, .bool ex, .int .u16 ek, .slice Ae et.length ce, .slice Ap pl.length cp, .int .i64 pad]] w fun e w'=>e = .returned (.int .u8 3)∧Below w.heap.size w w':=by
 go_enter Tryz.func52,Tryz.ntmps52
 go_wp2_with fail
 go_ret
 exact ⟨rfl,Bel.push (Bel.refl w) _⟩
theorem zru (t:ty≤127) (A:0≤pad) (p1:pad≤255) (h:ek≠0) (C:mx.length≤10000) (D:et.length≤10000) (B:pl.length≤10000):Calls Tryz.prog 52 #[.agg #[.bool mk, .int .u8 ty, .int .u16 sq, .int .u32 ti, .int .u32 so, .slice Am mx.length cm, .bool false, .int .u16 ek, .slice Ae et.length ce, .slice Ap pl.length cp, .int .i64 pad]] w fun e w'=>e = .returned (.int .u8 2)∧Below w.heap.size w w':=by
 have hb:(ek != 0)=true:=bne_iff_ne.2 h
 clear h
 go_enter Tryz.func52,Tryz.ntmps52
 go_wp2_with fail
 go_ret
 exact ⟨rfl,Bel.push (Bel.refl w) _⟩
theorem zrv (t:ty≤127) (B:0≤pad) (p1:pad≤255) (h:ek=0) (h2:0<et.length) (E:mx.length≤10000) (F:et.length≤10000) (D:pl.length≤10000):Calls Tryz.prog 52 #[.agg #[.bool mk, .int .u8 ty, .int .u16 sq, .int .u32 ti, .int .u32 so, .slice Am mx.length cm, .bool false, .int .u16 ek, .slice Ae et.length ce, .slice Ap pl.length cp, .int .i64 pad]] w fun e w'=>e = .returned (.int .u8 2)∧Below w.heap.size w w':=by
 have hb:(ek != 0)=false:=by rw [h];rfl
 have hl:(0:Int)<(et.length:Int):=by omega
 have A:¬et.length=0:=by omega
 have C:¬et=[]:=by intro h5;rw [h5] at A;exact A rfl
 clear h
 go_enter Tryz.func52,Tryz.ntmps52
 go_wp2_with fail
 go_ret
 exact ⟨rfl,Bel.push (Bel.refl w) _⟩
theorem zrw (t:ty≤127) (A:0≤pad) (p1:pad≤255) (h4:et.length % 4≠0) (E:mx.length≤10000) (F:et.length≤10000) (D:pl.length≤10000):Calls Tryz.prog 52 #[.agg #[.bool mk, .int .u8 ty, .int .u16 sq, .int .u32 ti, .int .u32 so, .slice Am mx.length cm, .bool true, .int .u16 ek, .slice Ae et.length ce, .slice Ap pl.length cp, .int .i64 pad]] w fun e w'=>e = .returned (.int .u8 2)∧Below w.heap.size w w':=by
 have C:((et.length:Int).tmod 4 != 0)=true:=by have:=Int.tmod_eq_emod_of_nonneg (a:=(et.length:Int)) (by omega) (b:=4);rw [this];rw [bne_iff_ne];omega
 have B:((et.length:Int) % 4 != 0)=true:=by rw [bne_iff_ne];omega
 clear h4
 go_enter Tryz.func52,Tryz.ntmps52
 go_wp2_with fail
 go_ret
 exact ⟨rfl,Bel.push (Bel.refl w) _⟩
theorem zrx (t:ty≤127) (A:0≤pad) (p1:pad≤255) (h4:et.length % 4=0) (g:15<mx.length) (E:mx.length≤10000) (F:et.length≤10000) (D:pl.length≤10000):Calls Tryz.prog 52 #[.agg #[.bool mk, .int .u8 ty, .int .u16 sq, .int .u32 ti, .int .u32 so, .slice Am mx.length cm, .bool true, .int .u16 ek, .slice Ae et.length ce, .slice Ap pl.length cp, .int .i64 pad]] w fun e w'=>e = .returned (.int .u8 4)∧Below w.heap.size w w':=by
 have v1:(15:Int)<(mx.length:Int):=by omega
 have C:((et.length:Int).tmod 4 != 0)=false:=by have:=Int.tmod_eq_emod_of_nonneg (a:=(et.length:Int)) (by omega) (b:=4);rw [this];simp;omega
 have B:((et.length:Int) % 4 != 0)=false:=by simp;omega
 clear h4
 go_enter Tryz.func52,Tryz.ntmps52
 go_wp2_with fail
 go_ret
 exact ⟨rfl,Bel.push (Bel.refl w) _⟩
theorem zry (t:ty≤127) (A:0≤pad) (p1:pad≤255) (h:ek=0) (h2:et.length=0) (g:15<mx.length) (C:mx.length≤10000) (D:et.length≤10000) (B:pl.length≤10000):Calls Tryz.prog 52 #[.agg #[.bool mk, .int .u8 ty, .int .u16 sq, .int .u32 ti, .int .u32 so, .slice Am mx.length cm, .bool false, .int .u16 ek, .slice Ae et.length ce, .slice Ap pl.length cp, .int .i64 pad]] w fun e w'=>e = .returned (.int .u8 4)∧Below w.heap.size w w':=by
 have hb:(ek != 0)=false:=by rw [h];rfl
 obtain rfl:=List.eq_nil_of_length_eq_zero h2
 clear h h2
 have v1:(15:Int)<(mx.length:Int):=by omega
 go_enter Tryz.func52,Tryz.ntmps52
 go_wp2_with fail
 go_ret
 exact ⟨rfl,Bel.push (Bel.refl w) _⟩
theorem zrz (t:ty≤127) (A:0≤pad) (p1:pad≤255) (h4:et.length % 4=0) (g:mx.length≤15) (g2:1020<et.length) (E:mx.length≤10000) (F:et.length≤10000) (D:pl.length≤10000):Calls Tryz.prog 52 #[.agg #[.bool mk, .int .u8 ty, .int .u16 sq, .int .u32 ti, .int .u32 so, .slice Am mx.length cm, .bool true, .int .u16 ek, .slice Ae et.length ce, .slice Ap pl.length cp, .int .i64 pad]] w fun e w'=>e = .returned (.int .u8 4)∧Below w.heap.size w w':=by
 have v1:(mx.length:Int)≤15:=by omega
 have v2:(1020:Int)<(et.length:Int):=by omega
 have C:((et.length:Int).tmod 4 != 0)=false:=by have:=Int.tmod_eq_emod_of_nonneg (a:=(et.length:Int)) (by omega) (b:=4);rw [this];simp;omega
 have B:((et.length:Int) % 4 != 0)=false:=by simp;omega
 clear h4
 go_enter Tryz.func52,Tryz.ntmps52
 go_wp2_with fail
 go_ret
 exact ⟨rfl,Bel.push (Bel.refl w) _⟩
theorem zsa (t:ty≤127) (B:0≤pad) (p1:pad≤255) (h4:et.length % 4=0) (g:mx.length≤15) (g2:et.length≤1020) (g3:1500<pl.length) (F:mx.length≤10000) (G:et.length≤10000) (E:pl.length≤10000):Calls Tryz.prog 52 #[.agg #[.bool mk, .int .u8 ty, .int .u16 sq, .int .u32 ti, .int .u32 so, .slice Am mx.length cm, .bool true, .int .u16 ek, .slice Ae et.length ce, .slice Ap pl.length cp, .int .i64 pad]] w fun e w'=>e = .returned (.int .u8 4)∧Below w.heap.size w w':=by
 have v1:(mx.length:Int)≤15:=by omega
 have v2:(et.length:Int)≤1020:=by omega
 have A:(1500:Int)<(pl.length:Int):=by omega
 have D:((et.length:Int).tmod 4 != 0)=false:=by have:=Int.tmod_eq_emod_of_nonneg (a:=(et.length:Int)) (by omega) (b:=4);rw [this];simp;omega
 have C:((et.length:Int) % 4 != 0)=false:=by simp;omega
 clear h4
 go_enter Tryz.func52,Tryz.ntmps52
 go_wp2_with fail
 go_ret
 exact ⟨rfl,Bel.push (Bel.refl w) _⟩
theorem zsb (t:ty≤127) (B:0≤pad) (p1:pad≤255) (h:ek=0) (h2:et.length=0) (g:mx.length≤15) (g2:et.length≤1020) (g3:1500<pl.length) (D:mx.length≤10000) (E:et.length≤10000) (C:pl.length≤10000):Calls Tryz.prog 52 #[.agg #[.bool mk, .int .u8 ty, .int .u16 sq, .int .u32 ti, .int .u32 so, .slice Am mx.length cm, .bool false, .int .u16 ek, .slice Ae et.length ce, .slice Ap pl.length cp, .int .i64 pad]] w fun e w'=>e = .returned (.int .u8 4)∧Below w.heap.size w w':=by
 have hb:(ek != 0)=false:=by rw [h];rfl
 obtain rfl:=List.eq_nil_of_length_eq_zero h2
 clear h h2
 have v1:(mx.length:Int)≤15:=by omega
 have A:(1500:Int)<(pl.length:Int):=by omega
 go_enter Tryz.func52,Tryz.ntmps52
 go_wp2_with fail
 go_ret
 exact ⟨rfl,Bel.push (Bel.refl w) _⟩
theorem zsc (t:ty≤127) (B:0≤pad) (p1:pad≤255) (h4:et.length % 4=0) (g:mx.length≤15) (g2:et.length≤1020) (g3:pl.length≤1500) (F:mx.length≤10000) (G:et.length≤10000) (E:pl.length≤10000):Calls Tryz.prog 52 #[.agg #[.bool mk, .int .u8 ty, .int .u16 sq, .int .u32 ti, .int .u32 so, .slice Am mx.length cm, .bool true, .int .u16 ek, .slice Ae et.length ce, .slice Ap pl.length cp, .int .i64 pad]] w fun e w'=>e = .returned (.int .u8 0)∧Below w.heap.size w w':=by
 have v1:(mx.length:Int)≤15:=by omega
 have v2:(et.length:Int)≤1020:=by omega
 have A:(pl.length:Int)≤1500:=by omega
 have D:((et.length:Int).tmod 4 != 0)=false:=by have:=Int.tmod_eq_emod_of_nonneg (a:=(et.length:Int)) (by omega) (b:=4);rw [this];simp;omega
 have C:((et.length:Int) % 4 != 0)=false:=by simp;omega
 clear h4
 go_enter Tryz.func52,Tryz.ntmps52
 go_wp2_with fail
 go_ret
 exact ⟨rfl,Bel.push (Bel.refl w) _⟩
theorem zsd (t:ty≤127) (B:0≤pad) (p1:pad≤255) (h:ek=0) (h2:et.length=0) (g:mx.length≤15) (g2:et.length≤1020) (g3:pl.length≤1500) (D:mx.length≤10000) (E:et.length≤10000) (C:pl.length≤10000):Calls Tryz.prog 52 #[.agg #[.bool mk, .int .u8 ty, .int .u16 sq, .int .u32 ti, .int .u32 so, .slice Am mx.length cm, .bool false, .int .u16 ek, .slice Ae et.length ce, .slice Ap pl.length cp, .int .i64 pad]] w fun e w'=>e = .returned (.int .u8 0)∧Below w.heap.size w w':=by
 have hb:(ek != 0)=false:=by rw [h];rfl
 obtain rfl:=List.eq_nil_of_length_eq_zero h2
 clear h h2
 have v1:(mx.length:Int)≤15:=by omega
 have A:(pl.length:Int)≤1500:=by omega
 go_enter Tryz.func52,Tryz.ntmps52
 go_wp2_with fail
 go_ret
 exact ⟨rfl,Bel.push (Bel.refl w) _⟩
end
theorem zgf (mk:Bool) (ty sq ti so:Int) (Am:Option Addr) (mx:List Int) (cm:Nat) (ek:Int) (Ae:Option Addr) (et:List Int) (ce:Nat) (Ap:Option Addr) (pl:List Int) (cp:Nat) (pad:Int) (w:World) (ex:Bool) (B:mx.length≤10000) (C:et.length≤10000) (A:pl.length≤10000):Calls Tryz.prog 52 #[.agg #[.bool mk, .int .u8 ty, .int .u16 sq, .int .u32 ti, .int .u32 so, .slice Am mx.length cm, .bool ex, .int .u16 ek, .slice Ae et.length ce, .slice Ap pl.length cp, .int .i64 pad]] w fun e w'=>e = .returned (.int .u8 (Pk.err ⟨mk,ty,sq,ti,so,mx,ex,ek,et,pl,pad⟩))∧Below w.heap.size w w':=by
 unfold Pk.err
 simp only
 by_cases c1:127<ty∨pad<0∨255<pad
 · rw [if_pos c1]
   by_cases h1:127<ty
   · exact zrr mk ty sq ti so Am mx cm ek Ae et ce Ap pl cp pad w ex h1 B C A
   by_cases h2:pad<0
   · exact zrs mk ty sq ti so Am mx cm ek Ae et ce Ap pl cp pad w ex (by omega) h2 B C A
   · exact zrt mk ty sq ti so Am mx cm ek Ae et ce Ap pl cp pad w ex (by omega) (by omega) (by omega) B C A
 rw [if_neg c1]
 cases ex
 · by_cases c2:ek≠0
   · rw [if_pos (.inl ⟨rfl, .inl c2⟩)]
     exact zru mk ty sq ti so Am mx cm ek Ae et ce Ap pl cp pad w (by omega) (by omega) (by omega) c2 B C A
   have E:ek=0:=by simpa using c2
   by_cases c3:0<et.length
   · rw [if_pos (.inl ⟨rfl, .inr c3⟩)]
     exact zrv mk ty sq ti so Am mx cm ek Ae et ce Ap pl cp pad w (by omega) (by omega) (by omega) E c3 B C A
   rw [if_neg (by omega)]
   by_cases D:15<mx.length
   · rw [if_pos (.inl D)]
     exact zry mk ty sq ti so Am mx cm ek Ae et ce Ap pl cp pad w (by omega) (by omega) (by omega) E (by omega) D B C A
   by_cases c5:1500<pl.length
   · rw [if_pos (.inr (.inr c5))]
     exact zsb mk ty sq ti so Am mx cm ek Ae et ce Ap pl cp pad w (by omega) (by omega) (by omega) E (by omega) (by omega) (by omega) c5 B C A
   · rw [if_neg (by omega)]
     exact zsd mk ty sq ti so Am mx cm ek Ae et ce Ap pl cp pad w (by omega) (by omega) (by omega) E (by omega) (by omega) (by omega) (by omega) B C A
 · by_cases c2:et.length % 4≠0
   · rw [if_pos (.inr c2)]
     exact zrw mk ty sq ti so Am mx cm ek Ae et ce Ap pl cp pad w (by omega) (by omega) (by omega) c2 B C A
   rw [if_neg (by simp at c2 ⊢; omega)]
   by_cases D:15<mx.length
   · rw [if_pos (.inl D)]
     exact zrx mk ty sq ti so Am mx cm ek Ae et ce Ap pl cp pad w (by omega) (by omega) (by omega) (by omega) D B C A
   by_cases c5:1020<et.length
   · rw [if_pos (.inr (.inl c5))]
     exact zrz mk ty sq ti so Am mx cm ek Ae et ce Ap pl cp pad w (by omega) (by omega) (by omega) (by omega) (by omega) c5 B C A
   by_cases F:1500<pl.length
   · rw [if_pos (.inr (.inr F))]
     exact zsa mk ty sq ti so Am mx cm ek Ae et ce Ap pl cp pad w (by omega) (by omega) (by omega) (by omega) (by omega) (by omega) F B C A
   · rw [if_neg (by omega)]
     exact zsc mk ty sq ti so Am mx cm ek Ae et ce Ap pl cp pad w (by omega) (by omega) (by omega) (by omega) (by omega) (by omega) (by omega) B C A
def PEncR (R:List Int×Int) (w:World) (e:Ending) (w':World):Prop :=
 ∃ (A:Option Addr) (c:Nat),e = .returned (.tuple #[.slice A R.1.length c, .int .u8 R.2])∧IntsNew w.heap.size w' .u8 A R.1∧Below w.heap.size w w'
def PEncRC (R:List Int×Int) (w:World) (e:Ending) (w':World):Prop :=
 ∃ (A:Option Addr) (c:Nat),e = .returned (.tuple #[.slice A R.1.length c, .int .u8 R.2])∧R.1.length≤c∧IntsNew w.heap.size w' .u8 A R.1∧Below w.heap.size w w'
theorem Owns.lit (w:World) (base:Nat) (e:TypeId) (cs:List Value) (n:Nat) (hb:base≤w.heap.size) (hm:n≤maxLen) (hn:cs.length=n):Owns (w.alloc (.cells cs.toArray e)) base e 1 (some ⟨w.heap.size,0,none⟩) n n cs:=by
 have:=World.ownsRow_lit (base:=base) (e:=e) (size:=1) w cs.toArray n hb hm (by simpa using hn)
 simpa [Owns] using this
section
variable (ty sq ti so:Int) (Am:Option Addr) (mx:List Int) (cm:Nat) (ek:Int) (Ae:Option Addr) (et:List Int) (ce:Nat) (Ap:Option Addr) (pl:List Int) (cp:Nat) (pad:Int) (w:World)
theorem zvi (ty0:0≤ty) (ty1:ty≤127) (sq0:0≤sq) (sq1:sq≤65535) (ti0:0≤ti) (ti1:ti≤4294967295) (so0:0≤so) (so1:so≤4294967295) (L7:0≤ek) (uR:ek≤65535) (N:pad=0) (lm:mx.length≤15) (le:et.length≤1020) (XL:et.length % 4=0) (lp:pl.length≤1500) (Z:Within 0 4294967295 mx) (ZD:0≤pad∧pad≤255) (AE:ek=0∧et.length=0) (g:IntsAt w w.heap.size .u32 Am mx) (i:IntsAt w w.heap.size .u8 Ae et) (f:IntsAt w w.heap.size .u8 Ap pl):Calls Tryz.prog 24 #[.agg #[.bool false, .int .u8 ty, .int .u16 sq, .int .u32 ti, .int .u32 so, .slice Am mx.length cm, .bool false, .int .u16 ek, .slice Ae et.length ce, .slice Ap pl.length cp, .int .i64 pad]] w (PEncRC (Pk.bytes ⟨false,ty,sq,ti,so,mx,false,ek,et,pl,pad⟩,0) w):=by
 have kc:=fun W=>zgf false ty sq ti so Am mx cm ek Ae et ce Ap pl cp pad W false (by omega) (by omega) (by omega)
 have X:Pk.err ⟨false,ty,sq,ti,so,mx,false,ek,et,pl,pad⟩=0:=by
  unfold Pk.err
  simp only
  rw [if_neg (by omega),if_neg (by intro h;rcases h with ⟨h1,h2⟩|h3<;>first|(cases h1;done)|omega),if_neg (by omega)]
 rw [X] at kc
 clear X
 have d:=Z9 kc
 have HM:=Z9 Z
 have IM:=Z9 g
 have IE:=Z9 i
 have IP:=Z9 f
 clear kc Z g i f AE
 obtain ⟨m,hm⟩:∃ m:Nat,m=mx.length:=⟨_,rfl⟩
 have dZ:=Pk.or_a ⟨mx.length,by omega⟩
 have XY:IntKind.u8.wrap (128+(mx.length:Int))=128+(mx.length:Int):=by rw [zgz];omega
 simp only at dZ
 clear hm
 have Qv:(pad != 0)=false:=by rw [N];rfl
 have a:=Z9 N
 clear N
 have tK:sq % 4294967296=sq:=by omega
 have xP:IntKind.u32.wrap sq=sq:=by rw [zcn];omega
 have n6:IntKind.u32.wrap ek=ek:=by rw [zcn];omega
 go_enter Tryz.func24,Tryz.ntmps24
 go_wp2_with fail
 refine (d.out _).mono ?_
 rintro e w1 ⟨rfl,U⟩
 have A:=Z9 ((Blk.new w 112 #[.bool false, .int .u8 ty, .int .u16 sq, .int .u32 ti, .int .u32 so, .slice Am mx.length cm, .bool false, .int .u16 ek, .slice Ae et.length ce, .slice Ap pl.length cp, .int .i64 pad]).later U)
 have L:=Z9 (((Bel.refl w).push (.cells #[.bool false, .int .u8 ty, .int .u16 sq, .int .u32 ti, .int .u32 so, .slice Am mx.length cm, .bool false, .int .u16 ek, .slice Ae et.length ce, .slice Ap pl.length cp, .int .i64 pad] 112)).later U)
 clear U d
 have yU:=A.out.lt
 have c0:=A.out.at 0 _ rfl
 have c1:=A.out.at 1 _ rfl
 have c2:=A.out.at 2 _ rfl
 have c3:=A.out.at 3 _ rfl
 have G:=A.out.at 4 _ rfl
 have c5:=A.out.at 5 _ rfl
 have F:=A.out.at 6 _ rfl
 have E:=A.out.at 7 _ rfl
 have C:=A.out.at 8 _ rfl
 have c9:=A.out.at 9 _ rfl
 have H:=A.out.at 10 _ rfl
 go_wp2_with fail
 clear c0 c1 c2 c3 G c5 F E C c9 H
 have D:Hid (EState w (w1.alloc (.cells #[.int .u8 (128+(mx.length:Int)), .int .u8 ty] 5)) [.bool false, .int .u8 ty, .int .u16 sq, .int .u32 ti, .int .u32 so, .slice Am mx.length cm, .bool false, .int .u16 ek, .slice Ae et.length ce, .slice Ap pl.length cp, .int .i64 pad] (some ⟨w1.heap.size,0,none⟩) 2 [(128+(mx.length:Int)),ty]):=Z9 ⟨A.out.push _,Bel.push L.out _,Owns.lit w1 w.heap.size 5 (pu8s [(128+(mx.length:Int)),ty]) 2 L.out.size (by unfold maxLen;omega) rfl⟩
 obtain ⟨W0,n⟩:=nm9 (w1.alloc (.cells #[.int .u8 (128+(mx.length:Int)), .int .u8 ty] 5))
 rw [← n] at D ⊢
 obtain ⟨o0,I⟩:∃ o:List Int,o=[(128+(mx.length:Int)),ty]:=⟨_,rfl⟩
 have O:(2:Nat)=o0.length:=by rw [I];rfl
 rw [← I] at D
 have GF:=Z9 I
 have Fe:o0.length≤10:=by rw [← O];omega
 clear n I A L
 rw [show Value.slice (some ⟨w1.heap.size,0,none⟩) 2 2=Value.slice (some ⟨w1.heap.size,0,none⟩) o0.length 2 by rw [← O]]
 clear O
 refine (D.out.put sq 2 (by omega) (by omega) (by omega) (by omega)).mono ?_
 rintro e lM ⟨A1,Ra,rfl,B⟩
 clear D
 have D:=B
 clear B
 generalize M:(o0++be 2 (sq))=o1 at *
 have Az:o1.length≤o0.length+2:=by rw [← M,List.length_append,zap];omega
 have Xx:=Z9 M
 clear M
 have c0:=D.out.hb.at 0 _ rfl
 have c1:=D.out.hb.at 1 _ rfl
 have c2:=D.out.hb.at 2 _ rfl
 have c3:=D.out.hb.at 3 _ rfl
 have G:=D.out.hb.at 4 _ rfl
 have c5:=D.out.hb.at 5 _ rfl
 have F:=D.out.hb.at 6 _ rfl
 have E:=D.out.hb.at 7 _ rfl
 have C:=D.out.hb.at 8 _ rfl
 have c9:=D.out.hb.at 9 _ rfl
 have H:=D.out.hb.at 10 _ rfl
 go_wp2_with fail
 clear c0 c1 c2 c3 G c5 F E C c9 H
 refine (D.out.put ti 4 (by omega) (by omega) (by omega) (by omega)).mono ?_
 rintro e lL ⟨A2,Od,rfl,B⟩
 clear D
 have D:=B
 clear B
 generalize R:(o1++be 4 (ti))=o2 at *
 have Dd:o2.length≤o1.length+4:=by rw [← R,List.length_append,zap];omega
 have Sg:=Z9 R
 clear R
 have c0:=D.out.hb.at 0 _ rfl
 have c1:=D.out.hb.at 1 _ rfl
 have c2:=D.out.hb.at 2 _ rfl
 have c3:=D.out.hb.at 3 _ rfl
 have G:=D.out.hb.at 4 _ rfl
 have c5:=D.out.hb.at 5 _ rfl
 have F:=D.out.hb.at 6 _ rfl
 have E:=D.out.hb.at 7 _ rfl
 have C:=D.out.hb.at 8 _ rfl
 have c9:=D.out.hb.at 9 _ rfl
 have H:=D.out.hb.at 10 _ rfl
 go_wp2_with fail
 clear c0 c1 c2 c3 G c5 F E C c9 H
 refine (D.out.put so 4 (by omega) (by omega) (by omega) (by omega)).mono ?_
 rintro e wI ⟨A3,x,rfl,B⟩
 clear D
 have D:=B
 clear B
 generalize P:(o2++be 4 (so))=o3 at *
 have It:o3.length≤o2.length+4:=by rw [← P,List.length_append,zap];omega
 have Ux:=Z9 P
 clear P
 have c0:=D.out.hb.at 0 _ rfl
 have c1:=D.out.hb.at 1 _ rfl
 have c2:=D.out.hb.at 2 _ rfl
 have c3:=D.out.hb.at 3 _ rfl
 have G:=D.out.hb.at 4 _ rfl
 have c5:=D.out.hb.at 5 _ rfl
 have F:=D.out.hb.at 6 _ rfl
 have E:=D.out.hb.at 7 _ rfl
 have C:=D.out.hb.at 8 _ rfl
 have c9:=D.out.hb.at 9 _ rfl
 have H:=D.out.hb.at 10 _ rfl
 go_wp2_with fail
 clear c0 c1 c2 c3 G c5 F E C c9 H
 go_loopg [7,54] mx.length (fun gk s7 Jg wr => ∃ (k:Nat) (A':Option Addr) (c':Nat) (out:List Int),gk+k=mx.length∧Jg = .int .i64 k∧s7 = .slice A' out.length c'∧Hid (out=o3++(mx.take k).flatMap (be 4))∧Hid (out.length≤20+4*k)∧Hid (EState w wr [.bool false, .int .u8 ty, .int .u16 sq, .int .u32 ti, .int .u32 so, .slice Am mx.length cm, .bool false, .int .u16 ek, .slice Ae et.length ce, .slice Ap pl.length cp, .int .i64 pad] A' c' out))
 case atStart=>exact ⟨0,A3,x,o3,rfl,rfl,rfl,Z9 (by simp),Z9 (by omega),D⟩
 case round =>
  clear D
  obtain ⟨k,A',c',out,hg,rfl,rfl,T,j,D⟩:=hrel
  have aY:=j.out
  by_cases hlt:k<mx.length
  · have Ct:(0:Int)≤(k:Int):=by omega
    have Cn:(k:Int)<(mx.length:Int):=by omega
    obtain ⟨b,off,rfl,Bb,qc⟩:=IM.out (by omega)
    have q1:=(D.out.hu.cell (p:=⟨b,off+k,none⟩) Bb).trans (qc k hlt)
    obtain ⟨z0,z1⟩:=HM.out.at hlt
    have v:=zge mx k hlt
    generalize mx.getD k 0=z at *
    have Hw:=Z9 v
    clear v qc
    go_wp2_with fail
    refine (D.out.put z 4 (by omega) z0 z1 (by omega)).mono ?_
    rintro e w9 ⟨A9,EJ,rfl,B⟩
    go_wp2_with fail
    go_roundg (gk-1)
    case measure=>omega
    case rel=>exact ⟨k+1,A9,EJ,out++be 4 z,by omega,by go_num,by first|rfl|rw [List.length_append,zap],Z9 (by rw [Hw.out,T.out,List.append_assoc]),Z9 (by rw [List.length_append,zap];omega),B⟩
  · obtain rfl:k=mx.length:=by omega
    have Cn:(mx.length:Int)≤(mx.length:Int):=Int.le_refl _
    have hx:out=o3++mx.flatMap (be 4):=by rw [T.out,List.take_length]
    have HX:=Z9 hx
    clear hx T j
    have c0:=D.out.hb.at 0 _ rfl
    have c1:=D.out.hb.at 1 _ rfl
    have c2:=D.out.hb.at 2 _ rfl
    have c3:=D.out.hb.at 3 _ rfl
    have G:=D.out.hb.at 4 _ rfl
    have c5:=D.out.hb.at 5 _ rfl
    have F:=D.out.hb.at 6 _ rfl
    have E:=D.out.hb.at 7 _ rfl
    have C:=D.out.hb.at 8 _ rfl
    have c9:=D.out.hb.at 9 _ rfl
    have H:=D.out.hb.at 10 _ rfl
    have c0:=D.out.hb.at 0 _ rfl
    have c1:=D.out.hb.at 1 _ rfl
    have c2:=D.out.hb.at 2 _ rfl
    have c3:=D.out.hb.at 3 _ rfl
    have G:=D.out.hb.at 4 _ rfl
    have c5:=D.out.hb.at 5 _ rfl
    have F:=D.out.hb.at 6 _ rfl
    have E:=D.out.hb.at 7 _ rfl
    have C:=D.out.hb.at 8 _ rfl
    have c9:=D.out.hb.at 9 _ rfl
    have H:=D.out.hb.at 10 _ rfl
    have c:=D.out.hu.size
    go_upto_region 26 with (at_builtin;go_loud (refine zbl rfl (.tmp 80) (.tmp 82) 69 rfl w.heap.size 5 1 (.int .u8 0) Tryz.underlying69 zei rfl A' out.length c' (pu8s out) rfl D.out.ho _ .u8 Ap cp pl rfl (IP.out.below D.out.hu) (by unfold maxLen;omega) (by omega) c (out.length+pl.length) rfl ?_);intro GW gY wJ V u Ar)
    clear c0 c1 c2 c3 G c5 F E C c9 H c
    have B:=Z9 (D.out.grown (l:=pl) (by rw [List.length_append]) rfl V u)
    clear D V u Ar
    have D:=B
    clear B
    obtain ⟨J,K⟩:=nm9 (out++pl)
    rw [← K] at D
    have y:=Z9 K
    have Y:J.length=out.length+(pl).length:=by rw [K,List.length_append]
    have Q:=Z9 Y
    have zD:J.length≤out.length+(pl).length:=by omega
    clear Y K
    rw [show out.length+pl.length=J.length from Q.out.symm]
    have t:J=Pk.bytes ⟨false,ty,sq,ti,so,mx,false,ek,et,pl,pad⟩:=by
     unfold Pk.bytes Pk.lead Pk.tail
     rw [y.out,HX.out,← Ux.out,← Sg.out,← Xx.out,GF.out]
     rw [a.out]
     simp [List.append_assoc]
    have Pi:=Z9 t
    clear t
    have c0:=D.out.hb.at 0 _ rfl
    have c1:=D.out.hb.at 1 _ rfl
    have c2:=D.out.hb.at 2 _ rfl
    have c3:=D.out.hb.at 3 _ rfl
    have G:=D.out.hb.at 4 _ rfl
    have c5:=D.out.hb.at 5 _ rfl
    have F:=D.out.hb.at 6 _ rfl
    have E:=D.out.hb.at 7 _ rfl
    have C:=D.out.hb.at 8 _ rfl
    have c9:=D.out.hb.at 9 _ rfl
    have H:=D.out.hb.at 10 _ rfl
    go_wp2_with fail
    go_ret2
    rw [← Pi.out]
    exact ⟨GW,gY,rfl,D.out.ho.cap,IntsNew.of_own D.out.ho (Nat.le_refl _),D.out.hu⟩
end
section
variable (ty sq ti so:Int) (Am:Option Addr) (mx:List Int) (cm:Nat) (ek:Int) (Ae:Option Addr) (et:List Int) (ce:Nat) (Ap:Option Addr) (pl:List Int) (cp:Nat) (pad:Int) (w:World)
theorem zvj (ty0:0≤ty) (ty1:ty≤127) (sq0:0≤sq) (sq1:sq≤65535) (ti0:0≤ti) (ti1:ti≤4294967295) (so0:0≤so) (so1:so≤4294967295) (L7:0≤ek) (uR:ek≤65535) (N:pad=0) (lm:mx.length≤15) (le:et.length≤1020) (XL:et.length % 4=0) (lp:pl.length≤1500) (Z:Within 0 4294967295 mx) (ZD:0≤pad∧pad≤255) (AE:ek=0∧et.length=0) (g:IntsAt w w.heap.size .u32 Am mx) (i:IntsAt w w.heap.size .u8 Ae et) (f:IntsAt w w.heap.size .u8 Ap pl):Calls Tryz.prog 24 #[.agg #[.bool true, .int .u8 ty, .int .u16 sq, .int .u32 ti, .int .u32 so, .slice Am mx.length cm, .bool false, .int .u16 ek, .slice Ae et.length ce, .slice Ap pl.length cp, .int .i64 pad]] w (PEncRC (Pk.bytes ⟨true,ty,sq,ti,so,mx,false,ek,et,pl,pad⟩,0) w):=by
 have kc:=fun W=>zgf true ty sq ti so Am mx cm ek Ae et ce Ap pl cp pad W false (by omega) (by omega) (by omega)
 have X:Pk.err ⟨true,ty,sq,ti,so,mx,false,ek,et,pl,pad⟩=0:=by
  unfold Pk.err
  simp only
  rw [if_neg (by omega),if_neg (by intro h;rcases h with ⟨h1,h2⟩|h3<;>first|(cases h1;done)|omega),if_neg (by omega)]
 rw [X] at kc
 clear X
 have d:=Z9 kc
 have HM:=Z9 Z
 have IM:=Z9 g
 have IE:=Z9 i
 have IP:=Z9 f
 clear kc Z g i f AE
 obtain ⟨m,hm⟩:∃ m:Nat,m=mx.length:=⟨_,rfl⟩
 have dZ:=Pk.or_a ⟨mx.length,by omega⟩
 have XY:IntKind.u8.wrap (128+(mx.length:Int))=128+(mx.length:Int):=by rw [zgz];omega
 simp only at dZ
 clear hm
 have Qv:(pad != 0)=false:=by rw [N];rfl
 have iL:=Z9 N
 clear N
 have ZE:bits BinOp.or IntKind.u8 ty 128=ty+128:=by
  obtain ⟨n,rfl⟩:=Int.eq_ofNat_of_zero_le ty0
  exact Pk.or_t ⟨n,by omega⟩
 have tK:sq % 4294967296=sq:=by omega
 have xP:IntKind.u32.wrap sq=sq:=by rw [zcn];omega
 have n6:IntKind.u32.wrap ek=ek:=by rw [zcn];omega
 go_enter Tryz.func24,Tryz.ntmps24
 go_wp2_with fail
 refine (d.out _).mono ?_
 rintro e w1 ⟨rfl,U⟩
 have A:=Z9 ((Blk.new w 112 #[.bool true, .int .u8 ty, .int .u16 sq, .int .u32 ti, .int .u32 so, .slice Am mx.length cm, .bool false, .int .u16 ek, .slice Ae et.length ce, .slice Ap pl.length cp, .int .i64 pad]).later U)
 have L:=Z9 (((Bel.refl w).push (.cells #[.bool true, .int .u8 ty, .int .u16 sq, .int .u32 ti, .int .u32 so, .slice Am mx.length cm, .bool false, .int .u16 ek, .slice Ae et.length ce, .slice Ap pl.length cp, .int .i64 pad] 112)).later U)
 clear U d
 have yU:=A.out.lt
 have c0:=A.out.at 0 _ rfl
 have c1:=A.out.at 1 _ rfl
 have c2:=A.out.at 2 _ rfl
 have c3:=A.out.at 3 _ rfl
 have G:=A.out.at 4 _ rfl
 have c5:=A.out.at 5 _ rfl
 have F:=A.out.at 6 _ rfl
 have E:=A.out.at 7 _ rfl
 have C:=A.out.at 8 _ rfl
 have c9:=A.out.at 9 _ rfl
 have H:=A.out.at 10 _ rfl
 go_wp2_with fail
 clear c0 c1 c2 c3 G c5 F E C c9 H
 have D:Hid (EState w (w1.alloc (.cells #[.int .u8 (128+(mx.length:Int)), .int .u8 (ty+128)] 5)) [.bool true, .int .u8 ty, .int .u16 sq, .int .u32 ti, .int .u32 so, .slice Am mx.length cm, .bool false, .int .u16 ek, .slice Ae et.length ce, .slice Ap pl.length cp, .int .i64 pad] (some ⟨w1.heap.size,0,none⟩) 2 [(128+(mx.length:Int)),(ty+128)]):=Z9 ⟨A.out.push _,Bel.push L.out _,Owns.lit w1 w.heap.size 5 (pu8s [(128+(mx.length:Int)),(ty+128)]) 2 L.out.size (by unfold maxLen;omega) rfl⟩
 obtain ⟨W0,t⟩:=nm9 (w1.alloc (.cells #[.int .u8 (128+(mx.length:Int)), .int .u8 (ty+128)] 5))
 rw [← t] at D ⊢
 obtain ⟨o0,I⟩:∃ o:List Int,o=[(128+(mx.length:Int)),(ty+128)]:=⟨_,rfl⟩
 have O:(2:Nat)=o0.length:=by rw [I];rfl
 rw [← I] at D
 have GF:=Z9 I
 have Fe:o0.length≤10:=by rw [← O];omega
 clear t I A L
 rw [show Value.slice (some ⟨w1.heap.size,0,none⟩) 2 2=Value.slice (some ⟨w1.heap.size,0,none⟩) o0.length 2 by rw [← O]]
 clear O
 refine (D.out.put sq 2 (by omega) (by omega) (by omega) (by omega)).mono ?_
 rintro e lM ⟨A1,Ra,rfl,B⟩
 clear D
 have D:=B
 clear B
 generalize M:(o0++be 2 (sq))=o1 at *
 have Az:o1.length≤o0.length+2:=by rw [← M,List.length_append,zap];omega
 have Xx:=Z9 M
 clear M
 have c0:=D.out.hb.at 0 _ rfl
 have c1:=D.out.hb.at 1 _ rfl
 have c2:=D.out.hb.at 2 _ rfl
 have c3:=D.out.hb.at 3 _ rfl
 have G:=D.out.hb.at 4 _ rfl
 have c5:=D.out.hb.at 5 _ rfl
 have F:=D.out.hb.at 6 _ rfl
 have E:=D.out.hb.at 7 _ rfl
 have C:=D.out.hb.at 8 _ rfl
 have c9:=D.out.hb.at 9 _ rfl
 have H:=D.out.hb.at 10 _ rfl
 go_wp2_with fail
 clear c0 c1 c2 c3 G c5 F E C c9 H
 refine (D.out.put ti 4 (by omega) (by omega) (by omega) (by omega)).mono ?_
 rintro e lL ⟨A2,Od,rfl,B⟩
 clear D
 have D:=B
 clear B
 generalize R:(o1++be 4 (ti))=o2 at *
 have Dd:o2.length≤o1.length+4:=by rw [← R,List.length_append,zap];omega
 have Sg:=Z9 R
 clear R
 have c0:=D.out.hb.at 0 _ rfl
 have c1:=D.out.hb.at 1 _ rfl
 have c2:=D.out.hb.at 2 _ rfl
 have c3:=D.out.hb.at 3 _ rfl
 have G:=D.out.hb.at 4 _ rfl
 have c5:=D.out.hb.at 5 _ rfl
 have F:=D.out.hb.at 6 _ rfl
 have E:=D.out.hb.at 7 _ rfl
 have C:=D.out.hb.at 8 _ rfl
 have c9:=D.out.hb.at 9 _ rfl
 have H:=D.out.hb.at 10 _ rfl
 go_wp2_with fail
 clear c0 c1 c2 c3 G c5 F E C c9 H
 refine (D.out.put so 4 (by omega) (by omega) (by omega) (by omega)).mono ?_
 rintro e wI ⟨A3,y,rfl,B⟩
 clear D
 have D:=B
 clear B
 generalize P:(o2++be 4 (so))=o3 at *
 have It:o3.length≤o2.length+4:=by rw [← P,List.length_append,zap];omega
 have Ux:=Z9 P
 clear P
 have c0:=D.out.hb.at 0 _ rfl
 have c1:=D.out.hb.at 1 _ rfl
 have c2:=D.out.hb.at 2 _ rfl
 have c3:=D.out.hb.at 3 _ rfl
 have G:=D.out.hb.at 4 _ rfl
 have c5:=D.out.hb.at 5 _ rfl
 have F:=D.out.hb.at 6 _ rfl
 have E:=D.out.hb.at 7 _ rfl
 have C:=D.out.hb.at 8 _ rfl
 have c9:=D.out.hb.at 9 _ rfl
 have H:=D.out.hb.at 10 _ rfl
 go_wp2_with fail
 clear c0 c1 c2 c3 G c5 F E C c9 H
 go_loopg [7,54] mx.length (fun gk s7 Jg wr => ∃ (k:Nat) (A':Option Addr) (c':Nat) (out:List Int),gk+k=mx.length∧Jg = .int .i64 k∧s7 = .slice A' out.length c'∧Hid (out=o3++(mx.take k).flatMap (be 4))∧Hid (out.length≤20+4*k)∧Hid (EState w wr [.bool true, .int .u8 ty, .int .u16 sq, .int .u32 ti, .int .u32 so, .slice Am mx.length cm, .bool false, .int .u16 ek, .slice Ae et.length ce, .slice Ap pl.length cp, .int .i64 pad] A' c' out))
 case atStart=>exact ⟨0,A3,y,o3,rfl,rfl,rfl,Z9 (by simp),Z9 (by omega),D⟩
 case round =>
  clear D
  obtain ⟨k,A',c',out,hg,rfl,rfl,T,j,D⟩:=hrel
  have aY:=j.out
  by_cases hlt:k<mx.length
  · have Ct:(0:Int)≤(k:Int):=by omega
    have Cn:(k:Int)<(mx.length:Int):=by omega
    obtain ⟨b,off,rfl,Bb,qc⟩:=IM.out (by omega)
    have q1:=(D.out.hu.cell (p:=⟨b,off+k,none⟩) Bb).trans (qc k hlt)
    obtain ⟨z0,z1⟩:=HM.out.at hlt
    have x:=zge mx k hlt
    generalize mx.getD k 0=z at *
    have Hw:=Z9 x
    clear x qc
    go_wp2_with fail
    refine (D.out.put z 4 (by omega) z0 z1 (by omega)).mono ?_
    rintro e w9 ⟨A9,EJ,rfl,B⟩
    go_wp2_with fail
    go_roundg (gk-1)
    case measure=>omega
    case rel=>exact ⟨k+1,A9,EJ,out++be 4 z,by omega,by go_num,by first|rfl|rw [List.length_append,zap],Z9 (by rw [Hw.out,T.out,List.append_assoc]),Z9 (by rw [List.length_append,zap];omega),B⟩
  · obtain rfl:k=mx.length:=by omega
    have Cn:(mx.length:Int)≤(mx.length:Int):=Int.le_refl _
    have hx:out=o3++mx.flatMap (be 4):=by rw [T.out,List.take_length]
    have HX:=Z9 hx
    clear hx T j
    have c0:=D.out.hb.at 0 _ rfl
    have c1:=D.out.hb.at 1 _ rfl
    have c2:=D.out.hb.at 2 _ rfl
    have c3:=D.out.hb.at 3 _ rfl
    have G:=D.out.hb.at 4 _ rfl
    have c5:=D.out.hb.at 5 _ rfl
    have F:=D.out.hb.at 6 _ rfl
    have E:=D.out.hb.at 7 _ rfl
    have C:=D.out.hb.at 8 _ rfl
    have c9:=D.out.hb.at 9 _ rfl
    have H:=D.out.hb.at 10 _ rfl
    have c0:=D.out.hb.at 0 _ rfl
    have c1:=D.out.hb.at 1 _ rfl
    have c2:=D.out.hb.at 2 _ rfl
    have c3:=D.out.hb.at 3 _ rfl
    have G:=D.out.hb.at 4 _ rfl
    have c5:=D.out.hb.at 5 _ rfl
    have F:=D.out.hb.at 6 _ rfl
    have E:=D.out.hb.at 7 _ rfl
    have C:=D.out.hb.at 8 _ rfl
    have c9:=D.out.hb.at 9 _ rfl
    have H:=D.out.hb.at 10 _ rfl
    have c:=D.out.hu.size
    go_upto_region 26 with (at_builtin;go_loud (refine zbl rfl (.tmp 80) (.tmp 82) 69 rfl w.heap.size 5 1 (.int .u8 0) Tryz.underlying69 zei rfl A' out.length c' (pu8s out) rfl D.out.ho _ .u8 Ap cp pl rfl (IP.out.below D.out.hu) (by unfold maxLen;omega) (by omega) c (out.length+pl.length) rfl ?_);intro GW gY wJ V v Ar)
    clear c0 c1 c2 c3 G c5 F E C c9 H c
    have B:=Z9 (D.out.grown (l:=pl) (by rw [List.length_append]) rfl V v)
    clear D V v Ar
    have D:=B
    clear B
    obtain ⟨J,K⟩:=nm9 (out++pl)
    rw [← K] at D
    have Q:=Z9 K
    have Y:J.length=out.length+(pl).length:=by rw [K,List.length_append]
    have a:=Z9 Y
    have zD:J.length≤out.length+(pl).length:=by omega
    clear Y K
    rw [show out.length+pl.length=J.length from a.out.symm]
    have u:J=Pk.bytes ⟨true,ty,sq,ti,so,mx,false,ek,et,pl,pad⟩:=by
     unfold Pk.bytes Pk.lead Pk.tail
     rw [Q.out,HX.out,← Ux.out,← Sg.out,← Xx.out,GF.out]
     rw [iL.out]
     simp [List.append_assoc]
    have Pi:=Z9 u
    clear u
    have c0:=D.out.hb.at 0 _ rfl
    have c1:=D.out.hb.at 1 _ rfl
    have c2:=D.out.hb.at 2 _ rfl
    have c3:=D.out.hb.at 3 _ rfl
    have G:=D.out.hb.at 4 _ rfl
    have c5:=D.out.hb.at 5 _ rfl
    have F:=D.out.hb.at 6 _ rfl
    have E:=D.out.hb.at 7 _ rfl
    have C:=D.out.hb.at 8 _ rfl
    have c9:=D.out.hb.at 9 _ rfl
    have H:=D.out.hb.at 10 _ rfl
    go_wp2_with fail
    go_ret2
    rw [← Pi.out]
    exact ⟨GW,gY,rfl,D.out.ho.cap,IntsNew.of_own D.out.ho (Nat.le_refl _),D.out.hu⟩
end
end
section
attribute [local go_sem] zaa zad
open Go.RowKit
theorem zmd (a b:Nat) (A:a<4294967296) (hb:b<4294967296):bits .or .u32 (a:Int) (b:Int)=((a ||| b:Nat):Int):=by
 have hx:a ||| b<2 ^ 32:=Nat.or_lt_two_pow (by omega) (by omega)
 show IntKind.u32.wrap ((BitVec.ofInt 32 (a:Int) ||| BitVec.ofInt 32 (b:Int)).toNat:Int)=_
 rw [BitVec.toNat_or,BitVec.ofInt_natCast,BitVec.ofInt_natCast,BitVec.toNat_ofNat,BitVec.toNat_ofNat,Nat.mod_eq_of_lt (by omega),Nat.mod_eq_of_lt (by omega)]
 have e:((a ||| b:Nat):Int) % 2 ^ 32=((a ||| b:Nat):Int):=Int.emod_eq_of_lt (by omega) (by omega)
 simp only [IntKind.wrap,IntKind.bits,IntKind.signed,e]
 simp
theorem zov (x z:Int) (x0:0≤x) (x1:x≤16777215) (z0:0≤z) (z1:z≤255):bits BinOp.or IntKind.u32 (x*256) z=256*x+z:=by
 obtain ⟨n0,rfl⟩:=Int.eq_ofNat_of_zero_le x0
 obtain ⟨n1,rfl⟩:=Int.eq_ofNat_of_zero_le z0
 have e:((n0:Int)*256)=((n0*256:Nat):Int):=by omega
 have h:n0*256 ||| n1=n0*256+n1:=by
  rw [show (256:Nat)=2 ^ 8 from rfl,← Nat.shiftLeft_eq,Nat.shiftLeft_add_eq_or_of_lt (by omega)]
 rw [e,zmd (n0*256) n1 (by omega) (by omega),h]
 omega
theorem zme (bs:List Int) (hb:Within 0 255 bs) (k:Nat) (hk:k<4):0≤val (bs.take k)∧val (bs.take k)≤16777215:=by
 obtain ⟨h1,h2⟩:=zoe _ (bs.take k) rfl (hb.take k)
 have hl:(bs.take k).length≤3:=by simp;omega
 generalize (bs.take k).length=m at *
 have h3:(256:Int) ^ m≤16777216:=by
  have:∀ i:Fin 4,(256:Int) ^ i.val≤16777216:=by decide
  exact this ⟨m,by omega⟩
 omega
section
variable (A:Option Addr) (bs:List Int) (c:Nat) (w:World) (B:Nat)
theorem zcc (C:IntsAt w B .u8 A bs) (hb:Within 0 255 bs) (hl:bs.length≤4) (n:Nat) (hn:bs.length=n) :
 Calls Tryz.prog 56 #[.slice A n c] w fun e w'=>e = .returned (.int .u32 (val bs))∧w=w':=by
 subst hn
 have F:=Z9 C
 have D:=Z9 hb
 clear C hb
 go_enter Tryz.func56,Tryz.ntmps56
 go_wp2
 go_loop [3,8] (fun s i => ∃ k:Nat,k≤bs.length∧i = .int .i64 k∧s = .int .u32 (val (bs.take k))) (fun _ i=>bs.length-(intOf i).toNat)
 case atStart=>exact ⟨0,Nat.zero_le _,rfl,rfl⟩
 case round =>
  obtain ⟨k,hk,rfl,rfl⟩:=hrel
  by_cases hlt:k<bs.length
  · obtain ⟨b,off,rfl,K,qc⟩:=F.out (by omega)
    have hc:=qc k hlt
    obtain ⟨z0,z1⟩:=D.out.at hlt
    obtain ⟨v0,v1⟩:=zme bs D.out k (by omega)
    have E:=zkr bs k hlt
    have HS:=Z9 E
    clear qc E
    generalize bs.getD k 0=z at *
    generalize val (bs.take k)=v at *
    have G:=zov v z v0 v1 z0 z1
    have I:(0:Int)≤(k:Int):=by omega
    have J:(k:Int)<(bs.length:Int):=by omega
    have H:IntKind.u32.wrap z=z:=by rw [zcn];omega
    go_wp2
    go_round
    case rel=>exact ⟨k+1,by omega,by go_num,by rw [HS.out]⟩
    case measure=>simp [intOf];omega
  · obtain rfl:k=bs.length:=by omega
    go_wp2
    go_ret
    exact ⟨zev (by first|rfl|rw [List.take_length]),rfl⟩
end
def NumR (n:Nat) (x:Int) (w:World) (e:Ending) (w':World):Prop :=
 ∃ (A:Option Addr) (c:Nat),e = .returned (.slice A n c)∧IntsNew w.heap.size w' .u8 A (be n x)∧Below w.heap.size w w'
namespace Pk
def chk (bs:List Int):Int×Int :=
 if bs.length=0 then (0,6) else
 if bs.getD 0 0 / 64≠2 then (0,15) else
 if (bs.length:Int)<12+4*(bs.getD 0 0 % 16) then (bs.length,6) else
 if bs.getD 0 0 / 16 % 2=0 then (0,0) else
 if (bs.length:Int)<12+4*(bs.getD 0 0 % 16)+4 then (bs.length,6) else
 if 1020<4*fld bs (14+4*(bs.getD 0 0 % 16).toNat) 2 then (12+4*(bs.getD 0 0 % 16)+2,4) else
 if (bs.length:Int)<12+4*(bs.getD 0 0 % 16)+4+4*fld bs (14+4*(bs.getD 0 0 % 16).toNat) 2 then (bs.length,6) else (0,0)
end Pk
theorem zfa (x:Int) (x0:0≤x) (x1:x≤255):bits BinOp.and IntKind.u8 x 15=x % 16:=by
 obtain ⟨n,rfl⟩:=Int.eq_ofNat_of_zero_le x0
 have h:∀ i:Fin 256,bits BinOp.and IntKind.u8 (i.val:Int) 15=(i.val:Int) % 16:=by decide +kernel
 exact h ⟨n,by omega⟩
theorem zfb (x:Int) (x0:0≤x) (x1:x≤255):bits BinOp.and IntKind.u8 x 16=16*(x / 16 % 2):=by
 obtain ⟨n,rfl⟩:=Int.eq_ofNat_of_zero_le x0
 have h:∀ i:Fin 256,bits BinOp.and IntKind.u8 (i.val:Int) 16=16*((i.val:Int) / 16 % 2):=by decide +kernel
 exact h ⟨n,by omega⟩
section
variable (A:Option Addr) (bs:List Int) (c:Nat) (w:World)
theorem zow (B:IntsAt w w.heap.size .u8 A bs) (hz:Within 0 255 bs) (hm:bs.length≤100000) (hc:bs.length≤c) (h:bs.length=0):Calls Tryz.prog 54 #[.slice A bs.length c] w fun e w'=>e = .returned (.tuple #[.int .i64 (0), .int .u8 6])∧w=w':=by
 obtain rfl:=List.eq_nil_of_length_eq_zero h
 clear B hz h
 go_enter Tryz.func54,Tryz.ntmps54
 go_wp2_with fail
 go_ret2
 exact ⟨rfl,rfl⟩
theorem zvk (B:IntsAt w w.heap.size .u8 A bs) (hz:Within 0 255 bs) (hm:bs.length≤100000) (hc:bs.length≤c) (h:0<bs.length) (h2:bs.getD 0 0 / 64≠2):Calls Tryz.prog 54 #[.slice A bs.length c] w fun e w'=>e = .returned (.tuple #[.int .i64 (0), .int .u8 15])∧w=w':=by
 obtain ⟨b,off,rfl,I,qc⟩:=B (by omega)
 have q0:w.cell? ⟨b,off,none⟩=some (.int .u8 (bs.getD 0 0)):=qc 0 (by omega)
 obtain ⟨D,n0⟩:=hz.at (i:=0) (by omega)
 have C:¬bs.length=0:=by omega
 have H:¬bs=[]:=by intro h5;rw [h5] at C;exact C rfl
 have E:(0:Int)<(bs.length:Int):=by omega
 generalize bs.getD 0 0=x at *
 have G:=Z9 B
 have F:=Z9 hz
 clear qc B hz
 have k1:(x / 64 != 2)=true:=bne_iff_ne.2 h2
 clear h2
 go_enter Tryz.func54,Tryz.ntmps54
 go_wp2_with fail
 go_ret2
 exact ⟨rfl,rfl⟩
theorem zmf (B:IntsAt w w.heap.size .u8 A bs) (hz:Within 0 255 bs) (hm:bs.length≤100000) (hc:bs.length≤c) (mm:Nat) (h:0<bs.length) (h2:bs.getD 0 0 / 64=2) (D:bs.getD 0 0 % 16=(mm:Int)) (h3:(bs.length:Int)<12+4*(mm:Int)):Calls Tryz.prog 54 #[.slice A bs.length c] w fun e w'=>e = .returned (.tuple #[.int .i64 (bs.length), .int .u8 6])∧w=w':=by
 obtain ⟨b,off,rfl,M,qc⟩:=B (by omega)
 have q0:w.cell? ⟨b,off,none⟩=some (.int .u8 (bs.getD 0 0)):=qc 0 (by omega)
 obtain ⟨C,n0⟩:=hz.at (i:=0) (by omega)
 have E:¬bs.length=0:=by omega
 have L:¬bs=[]:=by intro h5;rw [h5] at E;exact E rfl
 have I:(0:Int)<(bs.length:Int):=by omega
 generalize bs.getD 0 0=x at *
 have K:=Z9 B
 have J:=Z9 hz
 clear qc B hz
 have F:=zfa x C n0
 rw [D] at F
 have G:(mm:Int)≤15:=by omega
 have k1:(x / 64 != 2)=false:=by simp [h2]
 have H:=zfb x C n0
 clear h2 D
 go_enter Tryz.func54,Tryz.ntmps54
 go_wp2_with fail
 go_ret2
 exact ⟨rfl,rfl⟩
theorem zox (B:IntsAt w w.heap.size .u8 A bs) (hz:Within 0 255 bs) (hm:bs.length≤100000) (hc:bs.length≤c) (mm:Nat) (h:0<bs.length) (h2:bs.getD 0 0 / 64=2) (D:bs.getD 0 0 % 16=(mm:Int)) (h3:12+4*(mm:Int)≤(bs.length:Int)) (h4:bs.getD 0 0 / 16 % 2=0):Calls Tryz.prog 54 #[.slice A bs.length c] w fun e w'=>e = .returned (.tuple #[.int .i64 (0), .int .u8 0])∧w=w':=by
 obtain ⟨b,off,rfl,M,qc⟩:=B (by omega)
 have q0:w.cell? ⟨b,off,none⟩=some (.int .u8 (bs.getD 0 0)):=qc 0 (by omega)
 obtain ⟨C,n0⟩:=hz.at (i:=0) (by omega)
 have E:¬bs.length=0:=by omega
 have L:¬bs=[]:=by intro h5;rw [h5] at E;exact E rfl
 have I:(0:Int)<(bs.length:Int):=by omega
 generalize bs.getD 0 0=x at *
 have K:=Z9 B
 have J:=Z9 hz
 clear qc B hz
 have F:=zfa x C n0
 rw [D] at F
 have H:(mm:Int)≤15:=by omega
 have k1:(x / 64 != 2)=false:=by simp [h2]
 have G:=zfb x C n0
 rw [h4] at G
 clear h2 D h4
 go_enter Tryz.func54,Tryz.ntmps54
 go_wp2_with fail
 go_ret2
 exact ⟨rfl,rfl⟩
theorem zmg (B:IntsAt w w.heap.size .u8 A bs) (hz:Within 0 255 bs) (hm:bs.length≤100000) (hc:bs.length≤c) (mm:Nat) (h:0<bs.length) (h2:bs.getD 0 0 / 64=2) (D:bs.getD 0 0 % 16=(mm:Int)) (h3:12+4*(mm:Int)≤(bs.length:Int)) (h4:bs.getD 0 0 / 16 % 2=1) (h5:(bs.length:Int)<12+4*(mm:Int)+4):Calls Tryz.prog 54 #[.slice A bs.length c] w fun e w'=>e = .returned (.tuple #[.int .i64 (bs.length), .int .u8 6])∧w=w':=by
 obtain ⟨b,off,rfl,M,qc⟩:=B (by omega)
 have q0:w.cell? ⟨b,off,none⟩=some (.int .u8 (bs.getD 0 0)):=qc 0 (by omega)
 obtain ⟨C,n0⟩:=hz.at (i:=0) (by omega)
 have E:¬bs.length=0:=by omega
 have L:¬bs=[]:=by intro h5;rw [h5] at E;exact E rfl
 have I:(0:Int)<(bs.length:Int):=by omega
 generalize bs.getD 0 0=x at *
 have K:=Z9 B
 have J:=Z9 hz
 clear qc B hz
 have F:=zfa x C n0
 rw [D] at F
 have H:(mm:Int)≤15:=by omega
 have k1:(x / 64 != 2)=false:=by simp [h2]
 have G:=zfb x C n0
 rw [h4] at G
 clear h2 D h4
 go_enter Tryz.func54,Tryz.ntmps54
 go_wp2_with fail
 go_ret2
 exact ⟨rfl,rfl⟩
theorem zoy (B:IntsAt w w.heap.size .u8 A bs) (hz:Within 0 255 bs) (hm:bs.length≤100000) (hc:bs.length≤c) (mm:Nat) (h:0<bs.length) (h2:bs.getD 0 0 / 64=2) (F:bs.getD 0 0 % 16=(mm:Int)) (h3:12+4*(mm:Int)≤(bs.length:Int)) (h4:bs.getD 0 0 / 16 % 2=1) (h5:12+4*(mm:Int)+4≤(bs.length:Int)) (h6:1020<4*fld bs (14+4*mm) 2):Calls Tryz.prog 54 #[.slice A bs.length c] w fun e w'=>e = .returned (.tuple #[.int .i64 (12+4*(mm:Int)+2), .int .u8 4])∧w=w':=by
 obtain ⟨b,off,rfl,U,qc⟩:=B (by omega)
 have q0:w.cell? ⟨b,off,none⟩=some (.int .u8 (bs.getD 0 0)):=qc 0 (by omega)
 obtain ⟨D,n0⟩:=hz.at (i:=0) (by omega)
 have G:¬bs.length=0:=by omega
 have R:¬bs=[]:=by intro h5;rw [h5] at G;exact G rfl
 have N:(0:Int)<(bs.length:Int):=by omega
 obtain ⟨f0,f1⟩:=zdc bs (14+4*mm) 2 hz (by omega)
 have E:IntsAt w w.heap.size .u8 (some ⟨b,off+(14+4*mm),none⟩) ((bs.drop (14+4*mm)).take 2):=by
  obtain ⟨M,T,e,J⟩:=B.drop (14+4*mm) (by omega)
  cases e
  exact J.take 2
 have ks:=Z9 fun C=>zcc (some ⟨b,off+(14+4*mm),none⟩) ((bs.drop (14+4*mm)).take 2) C w _ E ((hz.drop _).take _) (by simp;omega) 2 (by simp;omega)
 change Hid (∀ C,Calls _ _ _ _ (fun e w'=>e = .returned (.int .u32 (fld bs (14+4*mm) 2))∧w=w')) at ks
 clear E
 generalize fld bs (14+4*mm) 2=X at *
 have f2:X≤65535:=by have:(256:Int) ^ 2=65536:=rfl;omega
 clear f1
 generalize bs.getD 0 0=x at *
 have P:=Z9 B
 have O:=Z9 hz
 clear qc B hz
 have H:=zfa x D n0
 rw [F] at H
 have L:(mm:Int)≤15:=by omega
 have k1:(x / 64 != 2)=false:=by simp [h2]
 have I:=zfb x D n0
 rw [h4] at I
 clear h2 F h4
 have s1:(12+4*(mm:Int)+2).toNat=14+4*mm:=by omega
 have K:(12+4*(mm:Int)+4).toNat=16+4*mm:=by omega
 have s3:12+4*(mm:Int)+4≤(c:Int):=by omega
 have s4:16+4*mm-(14+4*mm)=2:=by omega
 have s5:¬c=14+4*mm:=by omega
 go_enter Tryz.func54,Tryz.ntmps54
 go_wp2_with fail
 refine (ks.out _).mono ?_
 rintro e w1 ⟨rfl,rfl⟩
 go_wp2_with fail
 go_ret2
 exact ⟨rfl,rfl⟩
theorem zmh (B:IntsAt w w.heap.size .u8 A bs) (hz:Within 0 255 bs) (hm:bs.length≤100000) (hc:bs.length≤c) (mm:Nat) (h:0<bs.length) (h2:bs.getD 0 0 / 64=2) (F:bs.getD 0 0 % 16=(mm:Int)) (h3:12+4*(mm:Int)≤(bs.length:Int)) (h4:bs.getD 0 0 / 16 % 2=1) (h5:12+4*(mm:Int)+4≤(bs.length:Int)) (h6:4*fld bs (14+4*mm) 2≤1020) (M:(bs.length:Int)<12+4*(mm:Int)+4+4*fld bs (14+4*mm) 2):Calls Tryz.prog 54 #[.slice A bs.length c] w fun e w'=>e = .returned (.tuple #[.int .i64 (bs.length), .int .u8 6])∧w=w':=by
 obtain ⟨b,off,rfl,V,qc⟩:=B (by omega)
 have q0:w.cell? ⟨b,off,none⟩=some (.int .u8 (bs.getD 0 0)):=qc 0 (by omega)
 obtain ⟨D,n0⟩:=hz.at (i:=0) (by omega)
 have G:¬bs.length=0:=by omega
 have T:¬bs=[]:=by intro h5;rw [h5] at G;exact G rfl
 have O:(0:Int)<(bs.length:Int):=by omega
 obtain ⟨f0,f1⟩:=zdc bs (14+4*mm) 2 hz (by omega)
 have E:IntsAt w w.heap.size .u8 (some ⟨b,off+(14+4*mm),none⟩) ((bs.drop (14+4*mm)).take 2):=by
  obtain ⟨N,U,e,J⟩:=B.drop (14+4*mm) (by omega)
  cases e
  exact J.take 2
 have ks:=Z9 fun C=>zcc (some ⟨b,off+(14+4*mm),none⟩) ((bs.drop (14+4*mm)).take 2) C w _ E ((hz.drop _).take _) (by simp;omega) 2 (by simp;omega)
 change Hid (∀ C,Calls _ _ _ _ (fun e w'=>e = .returned (.int .u32 (fld bs (14+4*mm) 2))∧w=w')) at ks
 clear E
 generalize fld bs (14+4*mm) 2=X at *
 have f2:X≤65535:=by have:(256:Int) ^ 2=65536:=rfl;omega
 clear f1
 generalize bs.getD 0 0=x at *
 have R:=Z9 B
 have P:=Z9 hz
 clear qc B hz
 have H:=zfa x D n0
 rw [F] at H
 have L:(mm:Int)≤15:=by omega
 have k1:(x / 64 != 2)=false:=by simp [h2]
 have I:=zfb x D n0
 rw [h4] at I
 clear h2 F h4
 have s1:(12+4*(mm:Int)+2).toNat=14+4*mm:=by omega
 have K:(12+4*(mm:Int)+4).toNat=16+4*mm:=by omega
 have s3:12+4*(mm:Int)+4≤(c:Int):=by omega
 have s4:16+4*mm-(14+4*mm)=2:=by omega
 have s5:¬c=14+4*mm:=by omega
 go_enter Tryz.func54,Tryz.ntmps54
 go_wp2_with fail
 refine (ks.out _).mono ?_
 rintro e w1 ⟨rfl,rfl⟩
 go_wp2_with fail
 go_ret2
 exact ⟨rfl,rfl⟩
theorem zvl (B:IntsAt w w.heap.size .u8 A bs) (hz:Within 0 255 bs) (hm:bs.length≤100000) (hc:bs.length≤c) (mm:Nat) (h:0<bs.length) (h2:bs.getD 0 0 / 64=2) (F:bs.getD 0 0 % 16=(mm:Int)) (h3:12+4*(mm:Int)≤(bs.length:Int)) (h4:bs.getD 0 0 / 16 % 2=1) (h5:12+4*(mm:Int)+4≤(bs.length:Int)) (h6:4*fld bs (14+4*mm) 2≤1020) (M:12+4*(mm:Int)+4+4*fld bs (14+4*mm) 2≤(bs.length:Int)):Calls Tryz.prog 54 #[.slice A bs.length c] w fun e w'=>e = .returned (.tuple #[.int .i64 (0), .int .u8 0])∧w=w':=by
 obtain ⟨b,off,rfl,V,qc⟩:=B (by omega)
 have q0:w.cell? ⟨b,off,none⟩=some (.int .u8 (bs.getD 0 0)):=qc 0 (by omega)
 obtain ⟨D,n0⟩:=hz.at (i:=0) (by omega)
 have G:¬bs.length=0:=by omega
 have T:¬bs=[]:=by intro h5;rw [h5] at G;exact G rfl
 have O:(0:Int)<(bs.length:Int):=by omega
 obtain ⟨f0,f1⟩:=zdc bs (14+4*mm) 2 hz (by omega)
 have E:IntsAt w w.heap.size .u8 (some ⟨b,off+(14+4*mm),none⟩) ((bs.drop (14+4*mm)).take 2):=by
  obtain ⟨N,U,e,J⟩:=B.drop (14+4*mm) (by omega)
  cases e
  exact J.take 2
 have ks:=Z9 fun C=>zcc (some ⟨b,off+(14+4*mm),none⟩) ((bs.drop (14+4*mm)).take 2) C w _ E ((hz.drop _).take _) (by simp;omega) 2 (by simp;omega)
 change Hid (∀ C,Calls _ _ _ _ (fun e w'=>e = .returned (.int .u32 (fld bs (14+4*mm) 2))∧w=w')) at ks
 clear E
 generalize fld bs (14+4*mm) 2=X at *
 have f2:X≤65535:=by have:(256:Int) ^ 2=65536:=rfl;omega
 clear f1
 generalize bs.getD 0 0=x at *
 have R:=Z9 B
 have P:=Z9 hz
 clear qc B hz
 have H:=zfa x D n0
 rw [F] at H
 have L:(mm:Int)≤15:=by omega
 have k1:(x / 64 != 2)=false:=by simp [h2]
 have I:=zfb x D n0
 rw [h4] at I
 clear h2 F h4
 have s1:(12+4*(mm:Int)+2).toNat=14+4*mm:=by omega
 have K:(12+4*(mm:Int)+4).toNat=16+4*mm:=by omega
 have s3:12+4*(mm:Int)+4≤(c:Int):=by omega
 have s4:16+4*mm-(14+4*mm)=2:=by omega
 have s5:¬c=14+4*mm:=by omega
 go_enter Tryz.func54,Tryz.ntmps54
 go_wp2_with fail
 refine (ks.out _).mono ?_
 rintro e w1 ⟨rfl,rfl⟩
 go_wp2_with fail
 go_ret2
 exact ⟨rfl,rfl⟩
theorem zha (B:IntsAt w w.heap.size .u8 A bs) (hz:Within 0 255 bs) (hm:bs.length≤100000) (hc:bs.length≤c):Calls Tryz.prog 54 #[.slice A bs.length c] w fun e w'=>e = .returned (.tuple #[.int .i64 (Pk.chk bs).1, .int .u8 (Pk.chk bs).2])∧w=w':=by
 unfold Pk.chk
 by_cases h1:bs.length=0
 · rw [if_pos h1];exact zow A bs c w B hz hm hc h1
 rw [if_neg h1]
 by_cases h2:bs.getD 0 0 / 64=2
 case neg=>rw [if_pos h2];exact zvk A bs c w B hz hm hc (by omega) h2
 rw [if_neg (by omega)]
 obtain ⟨mm,C⟩:∃ n:Nat,bs.getD 0 0 % 16=(n:Int):=⟨(bs.getD 0 0 % 16).toNat,by omega⟩
 have hq:(bs.getD 0 0 % 16).toNat=mm:=by omega
 rw [hq,C]
 by_cases h3:(bs.length:Int)<12+4*(mm:Int)
 · rw [if_pos h3];exact zmf A bs c w B hz hm hc mm (by omega) h2 C h3
 rw [if_neg h3]
 by_cases h4:bs.getD 0 0 / 16 % 2=0
 · rw [if_pos h4];exact zox A bs c w B hz hm hc mm (by omega) h2 C (by omega) h4
 rw [if_neg h4]
 have D:bs.getD 0 0 / 16 % 2=1:=by omega
 by_cases h5:(bs.length:Int)<12+4*(mm:Int)+4
 · rw [if_pos h5];exact zmg A bs c w B hz hm hc mm (by omega) h2 C (by omega) D h5
 rw [if_neg h5]
 by_cases h6:1020<4*fld bs (14+4*mm) 2
 · rw [if_pos h6];exact zoy A bs c w B hz hm hc mm (by omega) h2 C (by omega) D (by omega) h6
 rw [if_neg h6]
 by_cases E:(bs.length:Int)<12+4*(mm:Int)+4+4*fld bs (14+4*mm) 2
 · rw [if_pos E];exact zmh A bs c w B hz hm hc mm (by omega) h2 C (by omega) D (by omega) (by omega) E
 · rw [if_neg E];exact zvl A bs c w B hz hm hc mm (by omega) h2 C (by omega) D (by omega) (by omega) (by omega)
end
open Go.RowKit
attribute [local go_sem] zaa zad
theorem zoz (h:Blk w g t (pu8s bs).toArray):IntsAt w w.heap.size .u8 (some ⟨g,0,none⟩) bs:=fun h0=>by
 refine ⟨g,0,rfl,h.lt,fun i hi => ?_⟩
 rw [Nat.zero_add,h.cell i]
 simp [pu8s,List.getElem?_eq_getElem hi,List.getD_eq_getElem?_getD]
section
variable (A:Option Addr) (bs:List Int) (c:Nat) (w:World)
def CloneR (bs:List Int) (w:World) (e:Ending) (w':World):Prop:=∃ (A':Option Addr) (c':Nat),e = .returned (.slice A' bs.length c')∧IntsNew w.heap.size w' .u8 A' bs∧Below w.heap.size w w'
def CloneRC (bs:List Int) (w:World) (e:Ending) (w':World):Prop:=∃ (A':Option Addr) (c':Nat),e = .returned (.slice A' bs.length c')∧bs.length≤c'∧IntsNew w.heap.size w' .u8 A' bs∧Below w.heap.size w w'
theorem zpa:Calls Tryz.prog 57 #[.slice A 0 c] w (CloneRC [] w):=by
 go_enter Tryz.func57,Tryz.ntmps57
 go_wp2_with fail
 go_ret
 exact ⟨none,0,rfl,Nat.le_refl _,IntsNew.nil,Bel.refl w⟩
theorem zmi (G:IntsAt w w.heap.size .u8 A bs) (hl:bs.length≤100000) (h0:0<bs.length):Calls Tryz.prog 57 #[.slice A bs.length c] w (CloneRC bs w):=by
 have T:=run_make_row' (P:=Tryz.prog) 69 5 (.int .u8 0) 1 Tryz.underlying69 zei rfl .i64 .i64 bs.length (by omega) (by omega) w
 obtain ⟨cur,F⟩:∃ cur:List Value,cur=(madeCells #[.int .u8 0] bs.length).toList:=⟨_,rfl⟩
 have E:cur.length=bs.length:=by rw [F];simp [madeCells]
 obtain ⟨W1,B⟩:=nm9 (w.alloc (.cells (madeCells #[.int .u8 0] bs.length) 5))
 have hB:Blk W1 w.heap.size 5 cur.toArray:=by rw [B,F,Array.toArray_toList];exact Blk.new _ _ _
 have D:Below w.heap.size w W1:=by rw [B];exact (Below.refl _ _).alloc (Nat.le_refl _) _
 rw [← B] at T
 clear B F
 have J:¬bs.length=0:=by omega
 have X:¬bs=[]:=by intro h5;rw [h5] at J;exact J rfl
 obtain ⟨b,off,rfl,U,qc⟩:=G h0
 have I:splice cur 0 (pu8s bs)=pu8s bs:=by simp [splice,pu8s,E]
 have HC:∀ j v,(pu8s bs)[j]? = some v→W1.cell? ((⟨b,off,none⟩:Addr).add j)=some v:=by
  intro j v hv
  have C:j<bs.length:=by
   have:=(List.getElem?_eq_some_iff.1 hv).1
   simpa [pu8s] using this
  have:=(D.cell (p:=⟨b,off+j,none⟩) U).trans (qc j C)
  rw [show ((⟨b,off,none⟩:Addr).add j)=⟨b,off+j,none⟩ by simp [Addr.add],this]
  simp [pu8s,List.getElem?_eq_getElem C] at hv
  rw [← hv];simp [List.getD_eq_getElem?_getD,List.getElem?_eq_getElem C]
 have K:=Z9 HC
 have O:=Z9 hB
 have N:=Z9 D
 have R:=Z9 I
 have L:=Z9 E
 clear HC hB D I qc G E
 go_enter Tryz.func57,Tryz.ntmps57
 go_wp2_with (refine wpList_copy_splice (o := ⟨some 12, _, _, _, _, _⟩) rfl (.tmp 10) (.tmp 11) 69 69 rfl 5 Tryz.underlying69 (by kernel_rfl) _ _ _ _ _ _ rfl rfl w.heap.size 0 cur 5 O.out (pu8s bs) (by simp [pu8s]) (fun _ => ⟨rfl, _, rfl, K.out⟩) (by rw [L.out]; simp [pu8s]) (by intro v hv; simp [pu8s] at hv; obtain ⟨z, _, rfl⟩ := hv; rfl) w.heap.size w N.out (Nat.le_refl _) ?_
              intro w2 H M)
 rw [R.out] at H
 go_ret
 exact ⟨_,_,rfl,Nat.le_refl _,⟨zoz H.out,fun _ V Y e=>by cases e;exact Nat.le_refl _⟩,M⟩
end
open Go.RowKit
attribute [local go_sem] zaa zad
def Only (g:Nat) (w w':World):Prop:=w.grownBy w' (some g)∧w'.heap.size=w.heap.size
section
variable {g:Nat} {w w1 w2:World}
theorem Only.refl (g:Nat) (w:World):Only g w w:=⟨World.grownBy.refl w _,rfl⟩
theorem Only.trans (h:Only g w w1) (h2:Only g w1 w2):Only g w w2 :=
 ⟨⟨h2.1.os.trans h.1.os,h2.1.tape.trans h.1.tape,h2.1.output.trans h.1.output,Nat.le_trans h.1.size h2.1.size,fun k hk A=>(h2.1.block k (Nat.lt_of_lt_of_le hk h.1.size) A).trans (h.1.block k hk A)⟩,h2.2.trans h.2⟩
theorem Only.set (h:Only g w w1) (i:Nat) (v:Value):Only g w (w1.setCell ⟨g,i,none⟩ v) :=
 h.trans ⟨⟨rfl,rfl,rfl,by simp [World.setCell],fun k hk A=>Below.heap_setCell w1 _ v k (fun e=>A (by rw [e]))⟩,by simp [World.setCell]⟩
theorem Only.drew (h:Only g w w1):Only g w w1.drew:=⟨⟨h.1.os,h.1.tape,h.1.output,h.1.size,h.1.block⟩,h.2⟩
theorem Only.blk (h:Only g w w1) (hb:Blk w g' t cs) (A:g'≠g):Blk w1 g' t cs:=hb.grown h.1 (fun e=>A (by injection e))
theorem Only.cell {a:Addr} (h:Only g w w1) (hc:w.cell? a=some v) (A:a.block≠g):w1.cell? a=some v:=h.1.cell hc (fun e=>A (by injection e))
theorem Only.below (h:Only g w w1) (hb:Below W.heap.size W w) (hg:W.heap.size≤g):Below W.heap.size W w1 :=
 hb.grown h.1 (Nat.le_trans (Nat.le_refl _) hb.size) (fun k e=>by injection e with e;omega)
end
def TakeR (gb b off L C n:Nat) (w:World) (e:Ending) (w':World):Prop :=
 e = .returned (.slice (some ⟨b,off,none⟩) n n)∧Only gb w w'∧∃ o':Nat,Blk w' gb 69 #[.slice (some ⟨b,o',none⟩) (L-n) (C-n)]∧(n<C→o'=off+n)
section
variable (gb b off L C n:Nat) (w:World)
theorem zse (hg:Blk w gb 69 #[.slice (some ⟨b,off,none⟩) L C]) (hn:n≤L) (D:L≤C) (hm:L≤100000) :
 Calls Tryz.prog 55 #[.int .i64 n, .pointer (some ⟨gb,0,none⟩)] w (TakeR gb b off L C n w):=by
 have c0:=hg.at 0 _ rfl
 have hz:=hg.frozen
 have B:=Z9 hg
 have n0:(0:Int)≤(n:Int):=by omega
 have n1:(n:Int)≤(L:Int):=by omega
 have n2:(n:Int)≤(C:Int):=by omega
 clear hg
 by_cases A:C=n
 · subst A
   obtain rfl:L=C:=by omega
   go_enter Tryz.func55,Tryz.ntmps55
   go_wp2_with fail
   go_ret
   exact ⟨rfl,(Only.refl _ _).set 0 _,off,by have h:=B.out.set_ 0 (.slice (some ⟨b,off,none⟩) 0 0);simpa using h,fun h=>absurd h (by omega)⟩
 · have E:¬C=n:=A
   go_enter Tryz.func55,Tryz.ntmps55
   go_wp2_with fail
   go_ret
   exact ⟨rfl,(Only.refl _ _).set 0 _,off+n,by have h:=B.out.set_ 0 (.slice (some ⟨b,off+n,none⟩) (L-n) (C-n));simpa using h,fun _=>rfl⟩
end
namespace Pk
def bad (bs:List Int):Nat→Nat→Option Nat
 | _,0=>none
 | i,k+1=>if bs.getD i 0=0 then bad bs (i+1) k else some i
def padOf (n:Int):Option Nat→Int×Int×Int
 | none=>(n,0,0)
 | some i=>(0,i,5)
def padR (bs:List Int):Int×Int×Int :=
 if bs.length=0 then (0, -1,5) else
 if bs.getD (bs.length-1) 0=0∨(bs.length:Int)<bs.getD (bs.length-1) 0 then (0,(bs.length:Int)-1,5) else
 padOf (bs.getD (bs.length-1) 0) (bad bs (bs.length-(bs.getD (bs.length-1) 0).toNat) ((bs.getD (bs.length-1) 0).toNat-1))
def many (bs:List Int):Nat:=(bs.getD 0 0 % 16).toNat
def ext (bs:List Int):Bool:=decide (bs.getD 0 0 / 16 % 2=1)
def extN (bs:List Int):Nat:=(4*fld bs (14+4*many bs) 2).toNat
def bodyAt (bs:List Int):Nat:=if ext bs then 16+4*many bs+extN bs else 12+4*many bs
def Pkt.zero:Pkt:=⟨false,0,0,0,0,[],false,0,[],[],0⟩
def pkt (bs:List Int) (n:Nat):Pkt :=
 ⟨decide (128≤bs.getD 1 0),bs.getD 1 0 % 128,fld bs 2 2,fld bs 4 4,fld bs 8 4,(List.range (many bs)).map (fun i=>fld bs (12+4*i) 4),ext bs,
  if ext bs then fld bs (12+4*many bs) 2 else 0,if ext bs then (bs.drop (16+4*many bs)).take (extN bs) else [],
  (bs.drop (bodyAt bs)).take (bs.length-bodyAt bs-n),n⟩
def fin (bs:List Int) (n:Nat):Pkt×Int×Int :=
 if 1500<bs.length-bodyAt bs-n then (Pkt.zero,bodyAt bs,4) else (pkt bs n,0,0)
def decP (bs:List Int):Pkt×Int×Int :=
 if (padR (bs.drop (bodyAt bs))).2.2≠0 then (Pkt.zero,(bodyAt bs:Int)+(padR (bs.drop (bodyAt bs))).2.1,(padR (bs.drop (bodyAt bs))).2.2)
 else fin bs (padR (bs.drop (bodyAt bs))).1.toNat
def dec (bs:List Int):Pkt×Int×Int :=
 if (chk bs).2≠0 then (Pkt.zero,(chk bs).1,(chk bs).2) else
 if bs.getD 0 0 / 32 % 2=1 then decP bs else fin bs 0
end Pk
open Go.RowKit
attribute [local go_sem] zaa zad
open Go.RowKit
attribute [local go_sem] zaa zad
def Pk.Pkt.row (r:Pk.Pkt) (Mx:Option Addr) (cm:Nat) (Et:Option Addr) (ce:Nat) (Pl:Option Addr) (cp:Nat):List Value:=[.bool r.mark, .int .u8 r.ty, .int .u16 r.sq, .int .u32 r.ti, .int .u32 r.so, .slice Mx r.mx.length cm, .bool r.ex, .int .u16 r.ek, .slice Et r.et.length ce, .slice Pl r.pl.length cp, .int .i64 r.pad]
def PDecR (R:Pk.Pkt×Int×Int) (w:World) (e:Ending) (w':World):Prop :=
 ∃ (Mx:Option Addr) (cm:Nat) (Et:Option Addr) (ce:Nat) (Pl:Option Addr) (cp:Nat),e = .returned (.tuple #[.agg (R.1.row Mx cm Et ce Pl cp).toArray, .int .i64 R.2.1, .int .u8 R.2.2])∧IntsNew w.heap.size w' .u32 Mx R.1.mx∧IntsNew w.heap.size w' .u8 Et R.1.et∧IntsNew w.heap.size w' .u8 Pl R.1.pl∧Bel w w'
def PDecRC (R:Pk.Pkt×Int×Int) (w:World) (e:Ending) (w':World):Prop :=
 ∃ (Mx:Option Addr) (cm:Nat) (Et:Option Addr) (ce:Nat) (Pl:Option Addr) (cp:Nat),e = .returned (.tuple #[.agg (R.1.row Mx cm Et ce Pl cp).toArray, .int .i64 R.2.1, .int .u8 R.2.2])∧R.1.pl.length≤cp∧IntsNew w.heap.size w' .u32 Mx R.1.mx∧IntsNew w.heap.size w' .u8 Et R.1.et∧IntsNew w.heap.size w' .u8 Pl R.1.pl∧Bel w w'
theorem Only.undrew (h:Only g W.drew w'):Only g W w':=⟨⟨h.1.os,h.1.tape,h.1.output,h.1.size,h.1.block⟩,h.2⟩
theorem IntsNew.only {k:IntKind} {zs:List Int} (h:IntsNew n w k A zs) (ho:Only g w w') (hg:g<n):IntsNew n w' k A zs:=by
 refine ⟨fun h0 => ?_,h.2⟩
 obtain ⟨b,off,rfl,hb,hc⟩:=h.1 h0
 refine ⟨b,off,rfl,by rw [ho.2];exact hb,fun i hi=>ho.cell (hc i hi) ?_⟩
 have:=h.2 h0 b off rfl
 simp only
 omega
theorem zbi {size:Nat} (h:Owns w base e size A n c xs) (ho:Only g w w') (hg:g<base):Owns w' base e size A n c xs :=
 h.grown ho.1 (fun b C B=>by injection B with B;have:=(h.block b C).1;omega)
structure PState (w wx:World) (b off c:Nat) (bs:List Int) (p:Nat) (row:List Value) (Mx:Option Addr) (mx:List Int) (Et:Option Addr) (et:List Int):Prop where
 ints:IntsAt w w.heap.size .u8 (some ⟨b,off,none⟩) bs
 bytes:Within 0 255 bs
 len:bs.length≤100000
 cap:bs.length≤c
 hr:Blk wx (w.heap.size+2) 112 row.toArray
 hg:∃ o',Blk wx (w.heap.size+1) 69 #[.slice (some ⟨b,o',none⟩) (bs.length-p) (c-p)]∧(p<c→o'=off+p)
 hz:Blk wx w.heap.size 112 #[.bool false, .int .u8 0, .int .u16 0, .int .u32 0, .int .u32 0, .slice none 0 0, .bool false, .int .u16 0, .slice none 0 0, .slice none 0 0, .int .i64 0]
 hu:Bel w wx
 hs:w.heap.size+3≤wx.heap.size
 hm:IntsNew (w.heap.size+3) wx .u32 Mx mx
 he:IntsNew (w.heap.size+3) wx .u8 Et et
section
variable {w wx w':World} {b off c p:Nat} {bs:List Int} {row:List Value} {Mx Et:Option Addr} {mx et:List Int}
theorem PState.grown (h:PState w wx b off c bs p row Mx mx Et et) {r:Option Nat} (hg:wx.grownBy w' r) (hr:∀ g,r=some g→w.heap.size+3≤g) (hm:IntsNew (w.heap.size+3) w' .u32 Mx mx) (he:IntsNew (w.heap.size+3) w' .u8 Et et):PState w w' b off c bs p row Mx mx Et et :=
 have A:∀ g,g<w.heap.size+3→some g≠r:=fun g hlt e=>by have:=hr g e.symm;omega
 ⟨h.ints,h.bytes,h.len,h.cap,h.hr.grown hg (A _ (by omega)),let ⟨o',hb,ho⟩:=h.hg; ⟨o',hb.grown hg (A _ (by omega)),ho⟩,h.hz.grown hg (A _ (by omega)),Below.grown h.hu hg h.hu.size (fun g e=>by have:=hr g e;omega),Nat.le_trans h.hs hg.size,hm,he⟩
theorem PState.later (h:PState w wx b off c bs p row Mx mx Et et) (hb:Below wx.heap.size wx w'):PState w w' b off c bs p row Mx mx Et et :=
 ⟨h.ints,h.bytes,h.len,h.cap,h.hr.later hb,let ⟨o',hg,ho⟩:=h.hg; ⟨o',hg.later hb,ho⟩,h.hz.later hb,h.hu.later hb,Nat.le_trans h.hs hb.size,h.hm.later hb,h.he.later hb⟩
theorem PState.push (h:PState w wx b off c bs p row Mx mx Et et) (o:Obj):PState w (wx.alloc o) b off c bs p row Mx mx Et et :=
 h.later ((Below.refl _ _).alloc (Nat.le_refl _) o)
theorem PState.drew (h:PState w wx b off c bs p row Mx mx Et et):PState w wx.drew b off c bs p row Mx mx Et et:=⟨h.ints,h.bytes,h.len,h.cap,h.hr,h.hg,h.hz,Bel.drew h.hu,h.hs,h.hm,h.he⟩
theorem PState.set (h:PState w wx b off c bs p row Mx mx Et et) (i:Nat) (v:Value):PState w (wx.setCell ⟨w.heap.size+2,i,none⟩ v) b off c bs p (row.set i v) Mx mx Et et :=
 ⟨h.ints,h.bytes,h.len,h.cap,by have:=h.hr.set_ i v;simpa using this,let ⟨o',hg,ho⟩:=h.hg; ⟨o',hg.far (by simp) v,ho⟩,h.hz.far (by simp) v,zah h.hu (by simp) v,by have:=h.hs;simpa [World.setCell] using this,h.hm.setCell (by simp) v,h.he.setCell (by simp) v⟩
theorem PState.setM (h:PState w wx b off c bs p row Mx mx Et et) (hm:IntsNew (w.heap.size+3) wx .u32 SD LV):PState w wx b off c bs p row SD LV Et et :=
 ⟨h.ints,h.bytes,h.len,h.cap,h.hr,h.hg,h.hz,h.hu,h.hs,hm,h.he⟩
def PNext (b off n:Nat) (bs:List Int) (p q:Nat) (S:World→Nat→Prop) (w wx:World) (e:Ending) (w':World):Prop :=
 ∃ A':Option Addr,e = .returned (.slice A' n n)∧(0<n→A'=some ⟨b,off+p,none⟩)∧Only (w.heap.size+1) wx w'∧Hid (IntsAt w' w.heap.size .u8 A' ((bs.drop p).take n))∧Hid (S w' q)
theorem PState.next (h:PState w wx b off c bs p row Mx mx Et et) (n q:Nat) (hq:p+n=q) (hl:q≤bs.length) :
 Calls Tryz.prog 55 #[.int .i64 n, .pointer (some ⟨w.heap.size+1,0,none⟩)] wx (PNext b off n bs p q (fun w' q=>PState w w' b off c bs q row Mx mx Et et) w wx):=by
 subst hq
 obtain ⟨o',hg,A⟩:=h.hg
 have F:=h.len
 have E:=h.cap
 refine (zse (w.heap.size+1) b o' (bs.length-p) (c-p) n wx hg (by omega) (by omega) (by omega)).mono ?_
 rintro e w1 ⟨rfl,ho,o2,D,C⟩
 have B:Bel w w1:=ho.below h.hu (by omega)
 refine ⟨_,rfl,fun h0=>by rw [A (by omega)],ho,Z9 ?_,Z9 ⟨h.ints,h.bytes,h.len,h.cap,ho.blk h.hr (by omega),⟨o2,?_,fun hlt => ?_⟩,ho.blk h.hz (by omega),B,by rw [ho.2];exact h.hs,h.hm.only ho (by omega),h.he.only ho (by omega)⟩⟩
 · by_cases h0:n=0
   · subst h0;exact IntsAt.nil
   · rw [A (by omega)]
     exact (h.ints.sub p n (by omega)).below B
 · rw [show bs.length-(p+n)=bs.length-p-n by omega,show c-(p+n)=c-p-n by omega]
   exact D
 · rw [C (by omega),A (by omega),Nat.add_assoc]
end
theorem PState.intsx {p:Nat} {row:List Value} (h:PState w wx b off c bs p row Mx mx Et et):IntsAt wx w.heap.size .u8 (some ⟨b,off,none⟩) bs:=h.ints.below h.hu
theorem PState.byte {p:Nat} {row:List Value} (h:PState w wx b off c bs p row Mx mx Et et) (i:Nat) (hi:i<bs.length):wx.cell? ⟨b,off+i,none⟩=some (.int .u8 (bs.getD i 0)):=by
 obtain ⟨A,B,e,_,hc⟩:=h.intsx (by omega)
 cases e
 exact hc i hi
theorem PState.start (A:IntsAt w w.heap.size .u8 (some ⟨b,off,none⟩) bs) (hz:Within 0 255 bs) (hm:bs.length≤100000) (hc:bs.length≤c):PState w (((w.alloc (.cells #[.bool false, .int .u8 0, .int .u16 0, .int .u32 0, .int .u32 0, .slice none 0 0, .bool false, .int .u16 0, .slice none 0 0, .slice none 0 0, .int .i64 0] 112)).alloc (.cells #[.slice (some ⟨b,off,none⟩) bs.length c] 69)).alloc (.cells #[.bool false, .int .u8 0, .int .u16 0, .int .u32 0, .int .u32 0, .slice none 0 0, .bool false, .int .u16 0, .slice none 0 0, .slice none 0 0, .int .i64 0] 112)) b off c bs 0 [.bool false, .int .u8 0, .int .u16 0, .int .u32 0, .int .u32 0, .slice none 0 0, .bool false, .int .u16 0, .slice none 0 0, .slice none 0 0, .int .i64 0] none [] none [] :=
 ⟨A,hz,hm,hc,Blk.new2 w _ _ _ _,⟨off,(Blk.new1 w _ _ _).push _,fun _=>rfl⟩,((Blk.new w _ _).push _).push _,(((Bel.refl w).push _).push _).push _,by simp,IntsNew.nil,IntsNew.nil⟩
theorem zxd (bs:List Int) (hz:Within 0 255 bs) (h:(Pk.chk bs).2=0):(Pk.chk bs).1=0∧12+4*Pk.many bs≤bs.length∧bs.getD 0 0 % 16=(Pk.many bs:Int)∧(Pk.ext bs=true→16+4*Pk.many bs+Pk.extN bs≤bs.length∧Pk.extN bs≤1020∧(Pk.extN bs:Int)=4*fld bs (14+4*Pk.many bs) 2):=by
 unfold Pk.chk at h ⊢
 by_cases h1:bs.length=0
 · rw [if_pos h1] at h;cases h
 rw [if_neg h1] at h ⊢
 obtain ⟨z0,z1⟩:=hz.at (i:=0) (by omega)
 by_cases h2:bs.getD 0 0 / 64≠2
 · rw [if_pos h2] at h;cases h
 rw [if_neg h2] at h ⊢
 by_cases h3:(bs.length:Int)<12+4*(bs.getD 0 0 % 16)
 · rw [if_pos h3] at h;cases h
 rw [if_neg h3] at h ⊢
 have A:bs.getD 0 0 % 16=(Pk.many bs:Int):=by unfold Pk.many;omega
 by_cases h4:bs.getD 0 0 / 16 % 2=0
 · rw [if_pos h4]
   refine ⟨rfl,by omega,A,fun he => ?_⟩
   have:=of_decide_eq_true he
   omega
 rw [if_neg h4] at h ⊢
 by_cases h5:(bs.length:Int)<12+4*(bs.getD 0 0 % 16)+4
 · rw [if_pos h5] at h;cases h
 rw [if_neg h5] at h ⊢
 have D:(bs.getD 0 0 % 16).toNat=Pk.many bs:=rfl
 rw [D,A] at h ⊢
 rw [A] at h3 h5
 obtain ⟨f0,f1⟩:=zdc bs (14+4*Pk.many bs) 2 hz (by omega)
 by_cases h6:1020<4*fld bs (14+4*Pk.many bs) 2
 · rw [if_pos h6] at h;cases h
 rw [if_neg h6] at h ⊢
 have C:(Pk.extN bs:Int)=4*fld bs (14+4*Pk.many bs) 2:=by unfold Pk.extN;omega
 by_cases B:(bs.length:Int)<12+4*(Pk.many bs:Int)+4+4*fld bs (14+4*Pk.many bs) 2
 · rw [if_pos B] at h;cases h
 rw [if_neg B] at h ⊢
 exact ⟨rfl,by omega,rfl,fun _=>⟨by omega,by omega,C⟩⟩
theorem zdp {B:Nat} (A:IntsAt W B .u8 (some ⟨b,off,none⟩) bs) (hz:Within 0 255 bs) (i m C:Nat) (hm:m≤4) (hl:i+m≤bs.length) :
 Calls Tryz.prog 56 #[.slice (some ⟨b,off+i,none⟩) m C] W fun e w'=>e = .returned (.int .u32 (fld bs i m))∧W=w' :=
 zcc _ _ C W B (A.sub i m hl) ((hz.drop i).take m) (by simp;omega) m (by simp;omega)
theorem zji {B:Nat} {p:Nat} (D:IntsAt W B .u8 A ((bs.drop p).take m)) (hz:Within 0 255 bs) (C:Nat) (hm:m≤4) (hl:p+m≤bs.length) :
 Calls Tryz.prog 56 #[.slice A m C] W fun e w'=>e = .returned (.int .u32 (fld bs p m))∧W=w' :=
 zcc _ _ C W B D ((hz.drop p).take m) (by simp;omega) m (by simp;omega)
theorem zmj {B:Nat} {l:List Int} (D:IntsAt W B .u8 A l) (hB:B≤W.heap.size) (n C:Nat) (hn:l.length=n) (hl:n≤100000):Calls Tryz.prog 57 #[.slice A n C] W (CloneRC l W):=by
 subst hn
 by_cases h0:l.length=0
 · obtain rfl:=List.eq_nil_of_length_eq_zero h0
   exact zpa A C W
 · exact zmi A l C W (D.more hB) hl (by omega)
theorem zbz (bs:List Int) (p:Nat) (hb:Within 0 255 bs) (hl:p+4≤bs.length):fld bs p 4 % 4294967296=fld bs p 4∧IntKind.u32.wrap (fld bs p 4)=fld bs p 4:=by
 obtain ⟨h1,h2⟩:=zdc bs p 4 hb hl
 have h:fld bs p 4 % 4294967296=fld bs p 4:=Int.emod_eq_of_lt h1 h2
 exact ⟨h,by rw [zcn,h]⟩
theorem zsf (bs:List Int) (p:Nat) (hb:Within 0 255 bs) (hl:p+2≤bs.length):fld bs p 2 % 65536=fld bs p 2∧IntKind.u16.wrap (fld bs p 2)=fld bs p 2∧0≤fld bs p 2∧fld bs p 2≤65535:=by
 obtain ⟨h1,h2⟩:=zdc bs p 2 hb hl
 have A:fld bs p 2<65536:=h2
 have h:fld bs p 2 % 65536=fld bs p 2:=Int.emod_eq_of_lt h1 h2
 exact ⟨h,by rw [zks,h],h1,by omega⟩
theorem zxe (x:Int) (x0:0≤x) (x1:x≤255):bits BinOp.and IntKind.u8 x 32=32*(x / 32 % 2):=by
 obtain ⟨n,rfl⟩:=Int.eq_ofNat_of_zero_le x0
 have h:∀ i:Fin 256,bits BinOp.and IntKind.u8 (i.val:Int) 32=32*((i.val:Int) / 32 % 2):=by decide +kernel
 exact h ⟨n,by omega⟩
theorem zvm (x:Int) (x0:0≤x) (x1:x≤255):bits BinOp.and IntKind.u8 x 127=x % 128:=by
 obtain ⟨n,rfl⟩:=Int.eq_ofNat_of_zero_le x0
 have h:∀ i:Fin 256,bits BinOp.and IntKind.u8 (i.val:Int) 127=(i.val:Int) % 128:=by decide +kernel
 exact h ⟨n,by omega⟩
theorem zvn (x:Int) (x0:0≤x) (x1:x≤255):(bits BinOp.and IntKind.u8 x 128 != 0)=decide (128≤x):=by
 obtain ⟨n,rfl⟩:=Int.eq_ofNat_of_zero_le x0
 have h:∀ i:Fin 256,(bits BinOp.and IntKind.u8 (i.val:Int) 128 != 0)=decide (128≤(i.val:Int)):=by decide +kernel
 exact h ⟨n,by omega⟩
theorem zsg:(Tryz.prog.info? 26).map (fun i=>(i.zero,i.size,i.bytes))=some (some (.int .u32 0),1,4):=by kernel_rfl
theorem PState.rest {p:Nat} {row:List Value} (h:PState w wx b off c bs p row Mx mx Et et):∃ o',Blk wx (w.heap.size+1) 69 #[.slice (some ⟨b,o',none⟩) (bs.length-p) (c-p)]∧IntsAt wx w.heap.size .u8 (some ⟨b,o',none⟩) (bs.drop p):=by
 obtain ⟨o',hg,ho⟩:=h.hg
 refine ⟨o',hg,?_⟩
 by_cases h0:p<bs.length
 · rw [ho (by have:=h.cap;omega)]
   have:=h.intsx.sub p (bs.length-p) (by omega)
   rwa [List.take_of_length_le (by simp)] at this
 · rw [List.drop_eq_nil_of_le (by omega)]
   exact IntsAt.nil
def u32s (l:List Int):List Value:=l.map (Value.int .u32)
open Go.RowKit
attribute [local go_sem] zaa zad
section
variable (A:Option Addr) (bs:List Int) (c:Nat) (w:World)
theorem zsh (U:IntsAt w w.heap.size .u8 A bs) (hz:Within 0 255 bs) (hm:bs.length≤100000) (hc:bs.length≤c) (h:(Pk.chk bs).2=0) (he:Pk.ext bs=false) (hp:bs.getD 0 0 / 32 % 2=0):Calls Tryz.prog 25 #[.slice A bs.length c] w (PDecRC (Pk.fin bs 0) w):=by
 obtain ⟨Cy,oL,j,hx⟩:=zxd bs hz h
 obtain ⟨b,off,rfl,Bb,qc⟩:=U (by omega)
 have k1:=zha (some ⟨b,off,none⟩) bs c (w.alloc (.cells #[.bool false, .int .u8 0, .int .u16 0, .int .u32 0, .int .u32 0, .slice none 0 0, .bool false, .int .u16 0, .slice none 0 0, .slice none 0 0, .int .i64 0] 112)) (U.push _) hz hm hc
 rw [Cy,h] at k1
 have D:=Z9 (PState.start U hz hm hc)
 have K:=Z9 k1
 have HX:=Z9 hx
 obtain ⟨N,n0⟩:=hz.at (i:=0) (by omega)
 obtain ⟨T,n1⟩:=hz.at (i:=1) (by omega)
 obtain ⟨mm,l⟩:=nm9 (Pk.many bs)
 rw [← l] at j oL
 have TU:=Z9 l
 have HE:=Z9 he
 obtain ⟨x0,X⟩:=nm9 (bs.getD 0 0)
 obtain ⟨x1,Zd⟩:=nm9 (bs.getD 1 0)
 rw [← X] at N n0 j hp
 rw [← Zd] at T n1
 have MH:=zfa x0 N n0
 have MG:=zfb x0 N n0
 have MF:=zxe x0 N n0
 have xA:=zvm x1 T n1
 have mP:=zvn x1 T n1
 obtain ⟨mk,Bm⟩:=nm9 (decide (128≤x1))
 rw [← Bm] at mP
 rw [j] at MH
 rw [hp] at MF
 have OD:x0 / 16 % 2=0:=by
  have h7:=HE.out
  unfold Pk.ext at h7
  rw [← X] at h7
  have:=of_decide_eq_false h7;omega
 rw [OD] at MG
 have Pu:=Z9 X
 have Oe:=Z9 Zd
 have U8:=Z9 Bm
 have yS:mm≤15:=by omega
 have Ai:=Z9 hm
 have Av:=Z9 hc
 have jW:b<w.heap.size+1:=by omega
 have fD:b<w.heap.size+1+1:=by omega
 have Ao:¬b=w.heap.size+2:=by omega
 clear U hz hm hc qc k1 hx Cy h l he X Zd Bm j hp OD
 go_enter Tryz.func25,Tryz.ntmps25
 go_wp2_with fail
 refine K.out.mono ?_
 rintro e w1 ⟨rfl,rfl⟩
 clear K
 go_wp2_with fail
 refine (D.out.next 12 12 rfl (by omega)).mono ?_
 rintro e v1 ⟨A',rfl,QR,ho,H,E⟩
 obtain rfl:A'=some ⟨b,off,none⟩:=QR (by omega)
 clear D QR ho H
 have D:=E
 clear E
 have q0:v1.cell? ⟨b,off,none⟩=some (.int .u8 x0):=by rw [Pu.out];exact D.out.byte 0 (by omega)
 have q1:v1.cell? ⟨b,off+1,none⟩=some (.int .u8 x1):=by rw [Oe.out];exact D.out.byte 1 (by omega)
 have z:=D.out.hr.frozen
 have W:=D.out.hr.at 0 _ rfl
 have x:=D.out.hr.at 1 _ rfl
 have J:=D.out.hr.at 6 _ rfl
 go_wp2_with fail
 clear z W x J
 have E:Hid (PState w _ b off c bs 12 [.bool mk, .int .u8 (x1 % 128), .int .u16 0, .int .u32 0, .int .u32 0, .slice none 0 0, .bool false, .int .u16 0, .slice none 0 0, .slice none 0 0, .int .i64 0] none [] none []):=Z9 (((D.out.set 6 (.bool false)).set 0 (.bool mk)).set 1 (.int .u8 (x1 % 128)))
 clear D
 have D:=E
 clear E
 obtain ⟨u1,u2,u3,u4⟩:=zsf bs 2 D.out.bytes (by omega)
 refine (zdp D.out.intsx D.out.bytes 2 2 _ (by omega) (by omega)).mono ?_
 rintro e w1 ⟨rfl,rfl⟩
 have z:=D.out.hr.frozen
 have u:=D.out.hr.at 2 _ rfl
 go_wp2_with fail
 clear z u u1 u2 u3 u4
 have E:Hid (PState w _ b off c bs 12 [.bool mk, .int .u8 (x1 % 128), .int .u16 (fld bs 2 2), .int .u32 0, .int .u32 0, .slice none 0 0, .bool false, .int .u16 0, .slice none 0 0, .slice none 0 0, .int .i64 0] none [] none []):=Z9 (D.out.set 2 (.int .u16 (fld bs 2 2)))
 clear D
 have D:=E
 clear E
 refine (zdp D.out.intsx D.out.bytes 4 4 _ (by omega) (by omega)).mono ?_
 rintro e w1 ⟨rfl,rfl⟩
 have z:=D.out.hr.frozen
 have t:=D.out.hr.at 3 _ rfl
 go_wp2_with fail
 clear z t
 have E:Hid (PState w _ b off c bs 12 [.bool mk, .int .u8 (x1 % 128), .int .u16 (fld bs 2 2), .int .u32 (fld bs 4 4), .int .u32 0, .slice none 0 0, .bool false, .int .u16 0, .slice none 0 0, .slice none 0 0, .int .i64 0] none [] none []):=Z9 (D.out.set 3 (.int .u32 (fld bs 4 4)))
 clear D
 have D:=E
 clear E
 refine (zdp D.out.intsx D.out.bytes 8 4 _ (by omega) (by omega)).mono ?_
 rintro e w1 ⟨rfl,rfl⟩
 have z:=D.out.hr.frozen
 have o:=D.out.hr.at 4 _ rfl
 go_wp2_with fail
 clear z o
 have E:Hid (PState w _ b off c bs 12 [.bool mk, .int .u8 (x1 % 128), .int .u16 (fld bs 2 2), .int .u32 (fld bs 4 4), .int .u32 (fld bs 8 4), .slice none 0 0, .bool false, .int .u16 0, .slice none 0 0, .slice none 0 0, .int .i64 0] none [] none []):=Z9 (D.out.set 4 (.int .u32 (fld bs 8 4)))
 clear D
 have D:=E
 clear E
 go_loopg [68] mm (fun gk Jn wr => ∃ (k:Nat) (A':Option Addr) (c':Nat),gk+k=mm∧Jn = .int .u8 k∧Hid (PState w wr b off c bs (12+4*k) [.bool mk, .int .u8 (x1 % 128), .int .u16 (fld bs 2 2), .int .u32 (fld bs 4 4), .int .u32 (fld bs 8 4), .slice A' k c', .bool false, .int .u16 0, .slice none 0 0, .slice none 0 0, .int .i64 0] none [] none [])∧Hid (Owns wr (w.heap.size+3) 26 1 A' k c' (u32s ((List.range k).map fun i=>fld bs (12+4*i) 4))))
 case atStart=>exact ⟨0,none,0,rfl,rfl,D,Z9 Owns.nil⟩
 case round =>
  clear D q0 q1
  obtain ⟨k,A',c',Xf,rfl,D,HO⟩:=hrel
  by_cases hlt:k<mm
  · obtain ⟨q,hq⟩:=nm9 (12+4*k)
    rw [← hq] at D
    have Ub:q+4≤bs.length:=by omega
    have HQ:=Z9 hq
    clear hq
    have Cn:(k:Int)<(mm:Int):=by omega
    have Xd:((k:Int)+1) % 256=(k:Int)+1:=by omega
    have NT:IntKind.u8.wrap ((k:Int)+1)=(k:Int)+1:=by rw [zgz];omega
    have r5:=D.out.hr.at 5 _ rfl
    have hs:=D.out.hs
    go_wp2_with fail
    go_region_law (first
     | (refine zer 76 (by rfl) (by rfl) _ _ 84 (by rfl) (w.heap.size+3) 26 1 4 _ Tryz.underlying84 zsg rfl (by decide) A' k c' _ (by rfl) (Owns.alloc Qq _) v1.heap.size [.int .u32 (fld bs q 4)] rfl (by simp [Value.oneCell']) (by rfl) (Blk.new v1 _ _) (by unfold maxLen;omega) (by omega) (by simp;omega) ?_;intro An cn wn qo Bh;have D3:=(f.push _).grown Bh (fun g e=>(Qq.block g e).1) IntsNew.nil IntsNew.nil;have r5':=D3.hr.at 5 _ rfl;have z':=D3.hr.frozen)
     | (go_simp;go_at_call 55;refine (D.out.drew.next 4 (q+4) rfl Ub).mono ?_;rintro e v1 ⟨A4,rfl,G9,ho,H,hD⟩;clear G9;have f:=hD.out;have Qq:=zbi HO.out.drew ho (by omega);have Bu:=f.hs;have WE:v1.cell? ⟨w.heap.size+1+1,5,none⟩=some (.slice A' k c'):=f.hr.at 5 _ rfl;have I6:w.heap.size+1+1<v1.heap.size:=by omega)
     | (go_simp;go_at_call 56;refine (zji H.out f.bytes _ (by omega) Ub).mono ?_;rintro e v2 ⟨rfl,rfl⟩))
    all_goals
     go_wp2_with fail
     go_roundg (gk-1)
     case measure=>omega
     case rel =>
      refine ⟨k+1,An,cn,by omega,by go_num,?_,?_⟩
      · have e:12+4*(k+1)=q+4:=by have:=HQ.out;omega
        rw [e]
        exact Z9 (D3.set 5 (.slice An (k+1) cn))
      · have e:u32s ((List.range (k+1)).map fun i=>fld bs (12+4*i) 4)=u32s ((List.range k).map fun i=>fld bs (12+4*i) 4) ++ [.int .u32 (fld bs q 4)]:=by
         rw [HQ.out]
         simp [u32s,List.range_succ]
        rw [e]
        exact Z9 (qo.setCell (p:=⟨w.heap.size+2,5,none⟩) (fun g e=>by have:=(qo.block g e).1;simp only;omega) _)
  · obtain rfl:k=mm:=by omega
    have Cn:(k:Int)≤(k:Int):=Int.le_refl _
    obtain ⟨mx,Y⟩:=nm9 ((List.range k).map fun i=>fld bs (12+4*i) 4)
    have U7:Hid (mx.length=k):=Z9 (by rw [Y];simp)
    have E:=Z9 (D.out.setM (IntsNew.of_own (B:=w.heap.size+3) HO.out (Nat.le_refl _)))
    rw [← Y] at E
    clear D HO
    have D:=E
    clear E
    have rF:=Z9 Y
    clear Y Xf MH MG MF xA mP N n0 T n1
    obtain ⟨q,hq⟩:=nm9 (12+4*k)
    rw [← hq] at D
    have eJ:q≤bs.length:=by omega
    have HQ:=Z9 hq
    clear oL hlt
    have J:=D.out.hr.at 6 _ rfl
    go_upto_region 22 with fail
    clear J
    obtain ⟨Q,hQ⟩:=nm9 q
    have TD:Hid (Q=Pk.bodyAt bs):=Z9 (by unfold Pk.bodyAt;rw [HE.out,if_neg (by decide),← TU.out,hQ,hq])
    rw [← hQ] at D
    have ZX:Q≤bs.length:=by omega
    clear hQ hq
    obtain ⟨L,a⟩:=nm9 (bs.length-Q)
    have PU:L+Q=bs.length:=by omega
    have hL5:L≤100000:=by have:=Ai.out;omega
    obtain ⟨o',Z,Cs⟩:=D.out.rest
    rw [← a] at Z
    obtain ⟨C,hC⟩:=nm9 (c-Q)
    rw [← hC] at Z
    have g0:=Z.at 0 _ rfl
    have HL:=Z9 a
    have I:=Z9 PU
    have HR:=Z9 Cs
    clear Z a hC Cs ZX PU
    obtain ⟨M,hM⟩:=nm9 L
    have HM:=Z9 hM
    have hML:M≤L:=by omega
    have F0:Q+M≤bs.length:=by have:=I.out;omega
    subst hM
    have z:=D.out.hr.frozen
    have V:=D.out.hr.at 10 _ rfl
    by_cases ZW:1500<M
    · have Az:(1500:Int)<(M:Int):=by omega
      go_wp2_with fail
      clear z V
      have Ab:(bs.length:Int)≤100000:=by have:=Ai.out;omega
      have Ad:(M:Int)≤(bs.length:Int):=by have:=I.out;omega
      have z:=D.out.hz.frozen
      have y0:=D.out.hz.at 0 _ rfl
      have y1:=D.out.hz.at 1 _ rfl
      have y2:=D.out.hz.at 2 _ rfl
      have y3:=D.out.hz.at 3 _ rfl
      have y4:=D.out.hz.at 4 _ rfl
      have y5:=D.out.hz.at 5 _ rfl
      have y6:=D.out.hz.at 6 _ rfl
      have y7:=D.out.hz.at 7 _ rfl
      have y8:=D.out.hz.at 8 _ rfl
      have y9:=D.out.hz.at 9 _ rfl
      have GZ:=D.out.hz.at 10 _ rfl
      go_region
      all_goals
       go_wp2_with fail
       have R:=(Blk.setRow D.out.hz [.bool false, .int .u8 0, .int .u16 0, .int .u32 0, .int .u32 0, .slice none 0 0, .bool false, .int .u16 0, .slice none 0 0, .slice none 0 0, .int .i64 0] rfl).drew
       have O:=Bel.drew (below_setRow (g:=w.heap.size) (Nat.le_refl _) [.bool false, .int .u8 0, .int .u16 0, .int .u32 0, .int .u32 0, .slice none 0 0, .bool false, .int .u16 0, .slice none 0 0, .slice none 0 0, .int .i64 0] _ 0 D.out.hu)
       simp only [setRow,Nat.zero_add,Nat.reduceAdd] at R O
       have Cp:Pk.fin bs 0=Pk.fin bs 0:=by
        rfl
       have Wi:Pk.fin bs 0=(Pk.Pkt.zero,(bs.length:Int)-M,4):=by
        unfold Pk.fin
        have h1:=I.out
        have h2:=HM.out
        rw [← TD.out,if_pos (by omega)]
        have e:(Q:Int)=(bs.length:Int)-M:=by omega
        rw [e]
       rw [Cp,Wi]
       exact bodyPost_ret (v := .tuple #[.agg #[.bool false, .int .u8 0, .int .u16 0, .int .u32 0, .int .u32 0, .slice none 0 0, .bool false, .int .u16 0, .slice none 0 0, .slice none 0 0, .int .i64 0], .int .i64 ((bs.length:Int)-M), .int .u8 4]) (zbe Tryz.results25 rfl (run_loadVar_row (P:=Tryz.prog) _ _ _ _ _ _ _ R Tryz.underlying112 rfl (by kernel_rfl)) rfl rfl) rfl ⟨none,0,none,0,none,0,rfl,Nat.le_refl _,IntsNew.nil,IntsNew.nil,IntsNew.nil,O⟩
    · have Az:(M:Int)≤1500:=by omega
      go_wp2_with fail
      clear g0
      clear z V
      refine (D.out.next M (Q+M) rfl F0).mono ?_
      rintro e v6 ⟨A6,rfl,G8,ho,H,E⟩
      clear D G8 ho
      have D:=E
      clear E
      go_wp2_with fail
      have d:((bs.drop Q).take M).length=M:=by have:=I.out;simp;omega
      refine (zmj H.out D.out.hu.size M _ d (by omega)).mono ?_
      obtain ⟨pl,dW⟩:=nm9 ((bs.drop Q).take M)
      have FP:=Z9 dW
      rw [← dW] at d ⊢
      have TG:=Z9 d
      clear d dW H
      rintro e v7 ⟨G,F,rfl,pI,H,hB⟩
      rw [TG.out]
      have Z7:=Z9 pI
      clear pI
      have E:=Z9 (D.out.later hB)
      have Y0:=Z9 (H.less D.out.hs)
      clear D H hB
      have D:=E
      clear E
      have z:=D.out.hr.frozen
      have W:=D.out.hr.at 0 _ rfl
      have x:=D.out.hr.at 1 _ rfl
      have u:=D.out.hr.at 2 _ rfl
      have t:=D.out.hr.at 3 _ rfl
      have o:=D.out.hr.at 4 _ rfl
      have r5:=D.out.hr.at 5 _ rfl
      have J:=D.out.hr.at 6 _ rfl
      have r7:=D.out.hr.at 7 _ rfl
      have r8:=D.out.hr.at 8 _ rfl
      have r9:=D.out.hr.at 9 _ rfl
      have V:=D.out.hr.at 10 _ rfl
      have y:=D.out.hz.frozen
      have y0:=D.out.hz.at 0 _ rfl
      have y1:=D.out.hz.at 1 _ rfl
      have y2:=D.out.hz.at 2 _ rfl
      have y3:=D.out.hz.at 3 _ rfl
      have y4:=D.out.hz.at 4 _ rfl
      have y5:=D.out.hz.at 5 _ rfl
      have y6:=D.out.hz.at 6 _ rfl
      have y7:=D.out.hz.at 7 _ rfl
      have y8:=D.out.hz.at 8 _ rfl
      have y9:=D.out.hz.at 9 _ rfl
      have GZ:=D.out.hz.at 10 _ rfl
      go_wp2_with fail
      clear z W x u t o r5 J r7 r8 r9 V y y0 y1 y2 y3 y4 y5 y6 y7 y8 y9 GZ
      have E:Hid (PState w _ b off c bs (Q+M) [.bool mk, .int .u8 (x1 % 128), .int .u16 (fld bs 2 2), .int .u32 (fld bs 4 4), .int .u32 (fld bs 8 4), .slice A' k c', .bool false, .int .u16 0, .slice none 0 0, .slice G M F, .int .i64 0] A' mx none []):=Z9 (D.out.set 9 (.slice G M F))
      have rL:=Y0.out.setCell (p:=⟨w.heap.size+2,9,none⟩) (by simp) (.slice G M F)
      have R:=Blk.setRow E.out.hz [.bool mk, .int .u8 (x1 % 128), .int .u16 (fld bs 2 2), .int .u32 (fld bs 4 4), .int .u32 (fld bs 8 4), .slice A' k c', .bool false, .int .u16 0, .slice none 0 0, .slice G M F, .int .i64 0] rfl
      have O:=below_setRow (g:=w.heap.size) (Nat.le_refl _) [.bool mk, .int .u8 (x1 % 128), .int .u16 (fld bs 2 2), .int .u32 (fld bs 4 4), .int .u32 (fld bs 8 4), .slice A' k c', .bool false, .int .u16 0, .slice none 0 0, .slice G M F, .int .i64 0] _ 0 E.out.hu
      have R1:=(IntsNew.setRow (g:=w.heap.size) (n:=w.heap.size+3) (by omega) [.bool mk, .int .u8 (x1 % 128), .int .u16 (fld bs 2 2), .int .u32 (fld bs 4 4), .int .u32 (fld bs 8 4), .slice A' k c', .bool false, .int .u16 0, .slice none 0 0, .slice G M F, .int .i64 0] _ 0 E.out.hm).less (m:=w.heap.size) (by omega)
      have R2:=(IntsNew.setRow (g:=w.heap.size) (n:=w.heap.size+3) (by omega) [.bool mk, .int .u8 (x1 % 128), .int .u16 (fld bs 2 2), .int .u32 (fld bs 4 4), .int .u32 (fld bs 8 4), .slice A' k c', .bool false, .int .u16 0, .slice none 0 0, .slice G M F, .int .i64 0] _ 0 E.out.he).less (m:=w.heap.size) (by omega)
      have R3:=(IntsNew.setRow (g:=w.heap.size) (n:=w.heap.size+3) (by omega) [.bool mk, .int .u8 (x1 % 128), .int .u16 (fld bs 2 2), .int .u32 (fld bs 4 4), .int .u32 (fld bs 8 4), .slice A' k c', .bool false, .int .u16 0, .slice none 0 0, .slice G M F, .int .i64 0] _ 0 rL).less (m:=w.heap.size) (by omega)
      simp only [setRow,Nat.zero_add,Nat.reduceAdd] at R O R1 R2 R3
      have Cp:Pk.fin bs 0=Pk.fin bs 0:=by
       rfl
      have Wi:Pk.fin bs 0=(⟨mk,x1 % 128,fld bs 2 2,fld bs 4 4,fld bs 8 4,mx,false,0,[],pl,0⟩,0,0):=by
       unfold Pk.fin Pk.pkt
       have h1:=I.out
       have h2:=HM.out
       have h3:=HL.out
       rw [← TD.out,if_neg (by omega),← TU.out,HE.out,← Oe.out,← U8.out,← rF.out,if_neg (by decide),if_neg (by decide)]
       have e:bs.length-Q-0=M:=by omega
       rw [e,← FP.out]
       all_goals rfl
      rw [Cp,Wi]
      exact bodyPost_ret (v := .tuple #[.agg #[.bool mk, .int .u8 (x1 % 128), .int .u16 (fld bs 2 2), .int .u32 (fld bs 4 4), .int .u32 (fld bs 8 4), .slice A' k c', .bool false, .int .u16 0, .slice none 0 0, .slice G M F, .int .i64 0], .int .i64 0, .int .u8 0]) (zbe Tryz.results25 rfl (run_loadVar_row (P:=Tryz.prog) _ _ _ _ _ _ _ R Tryz.underlying112 rfl (by kernel_rfl)) rfl rfl) rfl ⟨A',c',none,0,G,F,by simp only [Pk.Pkt.row,U7.out,TG.out,List.length_nil],Z7.out,R1,R2,R3,O⟩
end
end
section
open Go.RowKit
namespace Pk
structure Good (p:Pkt):Prop where
 ty0:0≤p.ty
 ty1:p.ty≤127
 sq:0≤p.sq∧p.sq≤65535
 ti:0≤p.ti∧p.ti≤4294967295
 so:0≤p.so∧p.so≤4294967295
 ek:0≤p.ek∧p.ek≤65535
 mx:Within 0 4294967295 p.mx
 et:Within 0 255 p.et
 pl:Within 0 255 p.pl
 pad0:0≤p.pad
 pad1:p.pad≤255
 noex:p.ex=false→p.ek=0∧p.et=[]
 et4:p.et.length % 4=0
 lmx:p.mx.length≤15
 let_:p.et.length≤1020
 lpl:p.pl.length≤1500
theorem Good.of {p:Pkt} (h:err p=0) (ty0:0≤p.ty) (sq:0≤p.sq∧p.sq≤65535) (ti:0≤p.ti∧p.ti≤4294967295) (so:0≤p.so∧p.so≤4294967295) (ek:0≤p.ek∧p.ek≤65535) (mx:Within 0 4294967295 p.mx) (et:Within 0 255 p.et) (pl:Within 0 255 p.pl):Good p:=by
 unfold err at h
 by_cases h1:127<p.ty∨p.pad<0∨255<p.pad
 · rw [if_pos h1] at h;cases h
 rw [if_neg h1] at h
 by_cases h2:p.ex=false∧(p.ek≠0∨0<p.et.length)∨p.et.length % 4≠0
 · rw [if_pos h2] at h;cases h
 rw [if_neg h2] at h
 by_cases h3:15<p.mx.length∨1020<p.et.length∨1500<p.pl.length
 · rw [if_pos h3] at h;cases h
 refine ⟨ty0,by omega,sq,ti,so,ek,mx,et,pl,by omega,by omega,fun he => ?_,by omega,by omega,by omega,by omega⟩
 have h4:¬(p.ek≠0∨0<p.et.length):=fun h5=>h2 (Or.inl ⟨he,h5⟩)
 exact ⟨by omega,List.eq_nil_of_length_eq_zero (by omega)⟩
def x0 (p:Pkt):Int:=128+(p.mx.length:Int)+(if p.pad=0 then 0 else 32)+(if p.ex then 16 else 0)
def x1 (p:Pkt):Int:=p.ty+if p.mark then 128 else 0
def p12 (p:Pkt):List Int:=[x0 p,x1 p]++be 2 p.sq++be 4 p.ti++be 4 p.so
def extB (p:Pkt):List Int:=if p.ex then be 2 p.ek++be 2 ((p.et.length:Int) / 4)++p.et else []
def trail (p:Pkt):List Int:=if p.pad=0 then [] else List.replicate (p.pad-1).toNat 0 ++ [p.pad]
theorem zbj (p:Pkt):bytes p=p12 p++(p.mx.flatMap (be 4)++(extB p++(p.pl++trail p))):=by
 simp only [bytes,lead,tail,p12,extB,trail,x0,x1,List.append_assoc]
theorem zdq (p:Pkt):(p12 p).length=12:=by simp [p12,zap]
theorem zbv:∀ l:List Int,(l.flatMap (be 4)).length=4*l.length
 | []=>rfl
 | a::l=>by simp [List.flatMap_cons,zap,zbv l];omega
theorem zpb (A C:List Int) (l:List Int) (i:Nat) (hi:i<l.length) (hl:Within 0 4294967295 l):fld (A++(l.flatMap (be 4)++C)) (A.length+4*i) 4=l.getD i 0:=by
 have hs:l=l.take i++(l.getD i 0::l.drop (i+1)):=by
  rw [List.getD_eq_getElem?_getD,List.getElem?_eq_getElem hi,Option.getD_some,← List.drop_eq_getElem_cons hi,List.take_append_drop]
 have he:A++(l.flatMap (be 4)++C)=(A++(l.take i).flatMap (be 4))++(be 4 (l.getD i 0)++((l.drop (i+1)).flatMap (be 4)++C)):=by
  have:l.flatMap (be 4)=(l.take i).flatMap (be 4)++(be 4 (l.getD i 0)++(l.drop (i+1)).flatMap (be 4)):=by
   conv=>lhs;rw [hs]
   rw [List.flatMap_append,List.flatMap_cons]
  rw [this]
  simp only [List.append_assoc]
 rw [he,zbm _ _ _ _ _ (by rw [List.length_append,zbv,List.length_take];omega)]
 obtain ⟨z0,z1⟩:=hl.at hi
 exact Int.emod_eq_of_lt z0 (by have:(256:Int) ^ 4=4294967296:=rfl;omega)
section
variable {p:Pkt} (g:Good p)
theorem b0 (p:Pkt):(bytes p).getD 0 0=x0 p:=by rw [zbj];rfl
theorem b1 (p:Pkt):(bytes p).getD 1 0=x1 p:=by rw [zbj];rfl
theorem f2 (g:Good p):fld (bytes p) 2 2=p.sq:=by
 have:bytes p=[x0 p,x1 p]++(be 2 p.sq++(be 4 p.ti++(be 4 p.so++(p.mx.flatMap (be 4)++(extB p++(p.pl++trail p)))))):=by
  rw [zbj];simp only [p12,List.append_assoc]
 rw [this,zbm _ _ 2 _ _ rfl]
 exact Int.emod_eq_of_lt g.sq.1 (by have:(256:Int) ^ 2=65536:=rfl;have:=g.sq.2;omega)
theorem f4 (g:Good p):fld (bytes p) 4 4=p.ti:=by
 have:bytes p=([x0 p,x1 p]++be 2 p.sq)++(be 4 p.ti++(be 4 p.so++(p.mx.flatMap (be 4)++(extB p++(p.pl++trail p))))):=by
  rw [zbj];simp only [p12,List.append_assoc]
 rw [this,zbm _ _ _ _ _ (by simp [zap])]
 exact Int.emod_eq_of_lt g.ti.1 (by have:(256:Int) ^ 4=4294967296:=rfl;have:=g.ti.2;omega)
theorem f8 (g:Good p):fld (bytes p) 8 4=p.so:=by
 have:bytes p=([x0 p,x1 p]++be 2 p.sq++be 4 p.ti)++(be 4 p.so++(p.mx.flatMap (be 4)++(extB p++(p.pl++trail p)))):=by
  rw [zbj];simp only [p12,List.append_assoc]
 rw [this,zbm _ _ _ _ _ (by simp [zap])]
 exact Int.emod_eq_of_lt g.so.1 (by have:(256:Int) ^ 4=4294967296:=rfl;have:=g.so.2;omega)
theorem fek (g:Good p) (he:p.ex=true):fld (bytes p) (12+4*p.mx.length) 2=p.ek:=by
 have:bytes p=(p12 p++p.mx.flatMap (be 4))++(be 2 p.ek++(be 2 ((p.et.length:Int) / 4)++p.et++(p.pl++trail p))):=by
  rw [zbj];simp only [extB,he,if_true,List.append_assoc]
 rw [this,zbm _ _ _ _ _ (by rw [List.length_append,zdq,zbv])]
 exact Int.emod_eq_of_lt g.ek.1 (by have:(256:Int) ^ 2=65536:=rfl;have:=g.ek.2;omega)
theorem fen (g:Good p) (he:p.ex=true):fld (bytes p) (14+4*p.mx.length) 2=(p.et.length:Int) / 4:=by
 have:bytes p=(p12 p++p.mx.flatMap (be 4)++be 2 p.ek)++(be 2 ((p.et.length:Int) / 4)++(p.et++(p.pl++trail p))):=by
  rw [zbj];simp only [extB,he,if_true,List.append_assoc]
 rw [this,zbm _ _ _ _ _ (by rw [List.length_append,List.length_append,zdq,zbv,zap];omega)]
 have:=g.let_
 exact Int.emod_eq_of_lt (by omega) (by have:(256:Int) ^ 2=65536:=rfl;omega)
theorem zhb (p:Pkt):(extB p).length=if p.ex then 4+p.et.length else 0:=by
 unfold extB
 split
 · simp [zap];omega
 · rfl
theorem zfc (g:Good p):((trail p).length:Int)=p.pad:=by
 unfold trail
 have:=g.pad0
 split
 · simp;omega
 · simp;omega
theorem bytes_len (p:Pkt):(bytes p).length=12+4*p.mx.length+(extB p).length+p.pl.length+(trail p).length:=by
 rw [zbj]
 simp only [List.length_append,zdq,zbv]
 omega
theorem x0_facts (g:Good p):x0 p / 64=2∧x0 p % 16=(p.mx.length:Int)∧x0 p / 16 % 2=(if p.ex then 1 else 0)∧x0 p / 32 % 2=(if p.pad=0 then 0 else 1):=by
 have:=g.lmx
 unfold x0
 cases p.ex<;>by_cases h:p.pad=0<;>simp [h]<;>omega
theorem zfd (g:Good p):many (bytes p)=p.mx.length:=by unfold many;rw [b0,(x0_facts g).2.1];omega
theorem ext_eq (g:Good p):ext (bytes p)=p.ex:=by
 unfold ext
 rw [b0,(x0_facts g).2.2.1]
 cases p.ex<;>simp
theorem chk_bytes (g:Good p):chk (bytes p)=(0,0):=by
 obtain ⟨h1,h2,h3,h4⟩:=x0_facts g
 have hl:=bytes_len p
 unfold chk
 rw [if_neg (show ¬(bytes p).length=0 by omega),b0,if_neg (show ¬x0 p / 64≠2 by omega),h2,if_neg (show ¬((bytes p).length:Int)<12+4*(p.mx.length:Int) by omega),h3]
 cases he:p.ex with
 | false=>simp
 | true =>
   have B:=g.et4
   have A:=g.let_
   have hx:=zhb p
   rw [he,if_pos rfl] at hx
   rw [if_pos rfl,if_neg (by decide),if_neg (show ¬((bytes p).length:Int)<12+4*(p.mx.length:Int)+4 by omega),Int.toNat_natCast,fen g he,if_neg (show ¬1020<4*((p.et.length:Int) / 4) by omega),if_neg (show ¬((bytes p).length:Int)<12+4*(p.mx.length:Int)+4+4*((p.et.length:Int) / 4) by omega)]
theorem zpc (g:Good p) (he:p.ex=true):extN (bytes p)=p.et.length:=by
 unfold extN
 rw [zfd g,fen g he]
 have:=g.et4
 omega
theorem zfe (g:Good p):bodyAt (bytes p)=12+4*p.mx.length+(extB p).length:=by
 unfold bodyAt
 rw [ext_eq g,zhb,zfd g]
 cases he:p.ex with
 | false=>simp
 | true=>rw [if_pos rfl,if_pos rfl,zpc g he];omega
theorem zid (g:Good p):(bytes p).drop (bodyAt (bytes p))=p.pl++trail p:=by
 rw [zfe g,zbj,show p12 p++(p.mx.flatMap (be 4)++(extB p++(p.pl++trail p)))=(p12 p++p.mx.flatMap (be 4)++extB p)++(p.pl++trail p) by simp only [List.append_assoc]]
 rw [List.drop_left' (by rw [List.length_append,List.length_append,zdq,zbv])]
theorem zxf (g:Good p) (n:Nat) (hn:(n:Int)=p.pad):pkt (bytes p) n=p:=by
 have hl:=bytes_len p
 have ht:=zfc g
 have hb:=zfe g
 have F:decide (128≤(bytes p).getD 1 0)=p.mark:=by
  rw [b1];unfold x1
  have:=g.ty0;have:=g.ty1
  cases p.mark<;>simp<;>omega
 have E:(bytes p).getD 1 0 % 128=p.ty:=by
  rw [b1];unfold x1
  have:=g.ty0;have:=g.ty1
  cases p.mark<;>simp<;>omega
 have D:(List.range (many (bytes p))).map (fun i=>fld (bytes p) (12+4*i) 4)=p.mx:=by
  rw [zfd g]
  apply List.ext_getElem
  · simp
  · intro i h1 h2
    simp only [List.getElem_map,List.getElem_range]
    rw [zbj,show 12+4*i=(p12 p).length+4*i by rw [zdq],zpb _ _ _ _ h2 g.mx]
    simp [List.getD_eq_getElem?_getD,h2]
 have C:(if ext (bytes p) then fld (bytes p) (12+4*many (bytes p)) 2 else 0)=p.ek:=by
  rw [ext_eq g,zfd g]
  cases he:p.ex with
  | false=>exact (g.noex he).1.symm
  | true=>rw [if_pos rfl];exact fek g he
 have B:(if ext (bytes p) then ((bytes p).drop (16+4*many (bytes p))).take (extN (bytes p)) else [])=p.et:=by
  rw [ext_eq g,zfd g]
  cases he:p.ex with
  | false=>exact (g.noex he).2.symm
  | true =>
    rw [if_pos rfl,zpc g he]
    have:bytes p=(p12 p++p.mx.flatMap (be 4)++be 2 p.ek++be 2 ((p.et.length:Int) / 4))++(p.et++(p.pl++trail p)):=by
     rw [zbj];simp only [extB,he,if_true,List.append_assoc]
    rw [this,List.drop_left' (by simp only [List.length_append,zdq,zbv,zap];omega),List.take_left]
 have A:((bytes p).drop (bodyAt (bytes p))).take ((bytes p).length-bodyAt (bytes p)-n)=p.pl:=by
  rw [zid g,List.take_left' (by omega)]
 unfold pkt
 rw [F,E,f2 g,f4 g,f8 g,D,C,B,A,ext_eq g,hn]
theorem zkv (l:List Int) (x:List Int):∀ (k i:Nat),i+k≤l.length+k→(∀ j,i≤j→j<i+k→x.getD j 0=0)→bad x i k=none
 | 0,i,_,_=>rfl
 | k + 1, i, h, hz => by
   unfold bad
   rw [if_pos (hz i (Nat.le_refl _) (by omega))]
   exact zkv (l ++ [0]) x k (i+1) (by simp;omega) (fun j h1 h2=>hz j (by omega) (by omega))
theorem zmk (g:Good p) (h:p.pad≠0):padR (p.pl++trail p)=(p.pad,0,0):=by
 have h0:=g.pad0
 obtain ⟨N,A⟩:∃ N:Nat,p.pad=(N:Int)+1:=⟨(p.pad-1).toNat,by omega⟩
 have ht:trail p=List.replicate N 0 ++ [(N:Int)+1]:=by
  unfold trail
  rw [if_neg h,A]
  rw [show ((N:Int)+1-1).toNat=N by omega]
 have B:(p.pl++trail p).length=p.pl.length+N+1:=by rw [ht];simp;omega
 have C:(p.pl++trail p).getD ((p.pl++trail p).length-1) 0=(N:Int)+1:=by
  rw [B,ht]
  simp only [List.getD_eq_getElem?_getD]
  rw [List.getElem?_append_right (by omega),List.getElem?_append_right (by simp)]
  simp
 unfold padR
 rw [if_neg (show ¬(p.pl++trail p).length=0 by omega),C,if_neg (show ¬((N:Int)+1=0∨((p.pl++trail p).length:Int)<(N:Int)+1) by omega)]
 have hb:bad (p.pl++trail p) ((p.pl++trail p).length-((N:Int)+1).toNat) (((N:Int)+1).toNat-1)=none:=by
  rw [B,show ((N:Int)+1).toNat=N+1 by omega,show p.pl.length+N+1-(N+1)=p.pl.length by omega,show N+1-1=N by omega]
  refine zkv p.pl _ N _ (by omega) (fun j h1 h2 => ?_)
  rw [ht]
  simp only [List.getD_eq_getElem?_getD]
  rw [List.getElem?_append_right h1,List.getElem?_append_left (by simp;omega)]
  simp [show j-p.pl.length<N by omega]
 rw [hb,A]
 rfl
theorem dec_enc (g:Good p):dec (bytes p)=(p,0,0):=by
 obtain ⟨h1,h2,h3,h4⟩:=x0_facts g
 have hl:=bytes_len p
 have ht:=zfc g
 have hb:=zfe g
 have hp:=g.lpl
 have hf:∀ n:Nat,(n:Int)=p.pad→fin (bytes p) n=(p,0,0):=fun n hn=>by
  unfold fin
  rw [if_neg (by omega),zxf g n hn]
 unfold dec
 rw [if_neg (by rw [chk_bytes g];simp),b0,h4]
 by_cases h:p.pad=0
 · rw [if_pos h,if_neg (by decide)]
   exact hf 0 (by omega)
 · rw [if_neg h,if_pos rfl]
   unfold decP
   rw [zid g,zmk g h,if_neg (by simp)]
   have:=g.pad0
   exact hf _ (by simp only;omega)
end
theorem zml (n:Nat):Within 0 255 (List.replicate n 0):=fun z hz=>by rw [List.eq_of_mem_replicate hz];omega
theorem bytes_facts {p:Pkt} (g:Good p):Within 0 255 (bytes p)∧12≤(bytes p).length∧(bytes p).length≤6000:=by
 have hl:=bytes_len p
 have ht:=zfc g
 have hx:=zhb p
 have h1:=g.lmx
 have h2:=g.let_
 have h3:=g.lpl
 have h4:=g.pad1
 have h5:(extB p).length≤1024:=by rw [hx];split<;>omega
 refine ⟨?_,by omega,by omega⟩
 have C:Within 0 255 (p12 p):=by
  unfold p12
  refine Within.append (Within.append (Within.append ?_ (zhq _ _)) (zhq _ _)) (zhq _ _)
  intro z hz
  have F:0≤x0 p∧x0 p≤255:=by
   unfold x0
   constructor<;>(split<;>split<;>omega)
  have E:0≤x1 p∧x1 p≤255:=by
   have:=g.ty0;have:=g.ty1
   unfold x1
   constructor<;>(split<;>omega)
  simp at hz
  rcases hz with rfl|rfl
  · exact F
  · exact E
 have wf:Within 0 255 (p.mx.flatMap (be 4)):=by
  intro z hz
  obtain ⟨a,_,D⟩:=List.mem_flatMap.1 hz
  exact zhq 4 a z D
 have B:Within 0 255 (extB p):=by
  unfold extB
  split
  · exact Within.append (Within.append (zhq _ _) (zhq _ _)) g.et
  · exact Within.nil _ _
 have A:Within 0 255 (trail p):=by
  unfold trail
  split
  · exact Within.nil _ _
  · refine Within.append (zml _) ?_
    intro z hz
    simp at hz
    subst hz
    exact ⟨g.pad0,g.pad1⟩
 rw [zbj]
 exact Within.append C (Within.append wf (Within.append B (Within.append g.pl A)))
end Pk
end
section
attribute [local go_sem ↓] zab zac
attribute [local go_sem] zaa zad
open Go.RowKit
theorem zpd:(Tryz.prog.info? 112).map (fun i=>(i.zero,i.size,i.bytes))=some (some (.agg #[.bool false, .int .u8 0, .int .u16 0, .int .u32 0, .int .u32 0, .slice none 0 0, .bool false, .int .u16 0, .slice none 0 0, .slice none 0 0, .int .i64 0]),11,104):=by kernel_rfl
theorem zxg (n:Int):IntKind.u16.wrap n=n % 65536:=by simp [IntKind.wrap,IntKind.bits,IntKind.signed]
theorem zxh (n:Int):IntKind.u32.wrap n=n % 4294967296:=by simp [IntKind.wrap,IntKind.bits,IntKind.signed]
theorem OnlyB.owns_lt {size:Nat} (h:OnlyB g w w') (ho:Owns w base e size A n c xs) (hg:g<base):Owns w' base e size A n c xs:=h.owns ho hg
def pktRow (k:Sb.Pkt) (B:Option Addr) (c:Nat):List Value:=[.bool k.mrk, .int .u8 k.ty, .int .u16 k.sq, .int .u32 k.ti, .int .u32 k.src, .slice none 0 0, .bool false, .int .u16 0, .slice none 0 0, .slice B k.pl.length c, .int .i64 0]
def EmitR (S:List Nat) (g gl:Nat) (p:Sb.Pt) (A:Option Addr) (n c:Nat) (l:List TW) (Rg ti:Int) (mrk:Bool) (bV:Option Addr) (pl:List Int) (mH:Nat) (w:World) (e:Ending) (w':World):Prop :=
 e = .returned (.tuple #[])∧∃ (A':Option Addr) (c':Nat),PM w' S g (Sb.emit p Rg ti mrk pl).1 A n c l∧Blk w' gl 105 #[.slice A' 1 c']∧Owns w' w.heap.size 112 11 A' 1 c' (pktRow (Sb.emit p Rg ti mrk pl).2 bV mH)∧Chg [g,gl] w w'
theorem zkw (S:List Nat) (g gl:Nat) (p:Sb.Pt) (hw:p.wf) (A:Option Addr) (n c:Nat) (l:List TW) (K ti:Int) (mrk:Bool) (R:Option Addr) (pl:List Int) (P:Nat) (w:World) (h:PM w S g p A n c l) (hg:g∈S) (f:gl∈S) (N:g≠gl) (F:Blk w gl 105 #[.slice none 0 0]) (o:pl.length≤100000):Calls Tryz.prog 45 #[.int .u8 K, .int .u32 ti, .bool mrk, .slice R pl.length P, .pointer (some ⟨gl,0,none⟩), .pointer (some ⟨g,0,none⟩)] w (EmitR S g gl p A n c l K ti mrk R pl P w):=by
 have H:=Z9 h
 have F:=Z9 F
 have s0:=hw.seq
 have s1:=hw.pk
 have j:=hw.oc
 clear h
 go_enter Tryz.func45,Tryz.ntmps45
 have x1:=H.out.box.cell 1 _ rfl
 have b:=H.out.box.cell 2 _ rfl
 have l0:=F.out.at 0 _ rfl
 have d:=F.out.frozen 0
 have hlt:=F.out.lt
 have O:=Blk.lt H.out.box
 go_upto_region 1 with (at_builtin;go_loud (refine zan (w0:=w) rfl _ _ 105 rfl w.heap.size 112 11 104 _ Tryz.underlying105 zpd rfl (by decide) none 0 0 [] rfl Owns.nil [.bool mrk, .int .u8 K, .int .u16 p.seq, .int .u32 ti, .int .u32 p.src, .slice none 0 0, .bool false, .int .u16 0, .slice none 0 0, .slice R pl.length P, .int .i64 0] rfl (by simp [Value.oneCell']) rfl (by unfold maxLen;omega) (by omega) (Nat.le_refl _) ?_);intro V c9 v1 X U i;have M:=F.out.grown U (by simp [ownB]);have Z:=M.at 0 _ rfl;have Y:=M.frozen 0)
 obtain ⟨V1,L⟩:=nm9 (v1.setCell ⟨gl,0,none⟩ (.slice V 1 c9))
 rw [← L]
 have B:OnlyB gl v1 V1:=by rw [L];exact OnlyB.setCell _ _ _ _
 have G:=Z9 (show Blk V1 gl 105 #[.slice V 1 c9] by rw [L];exact M.set_ 0 _)
 have D:Chg [gl] w V1:=(Chg.of_grown U (by simp [ownB])).trans (Chg.of_only B (by simp))
 have E:=Z9 (B.owns (by simpa using X) hlt)
 replace H:=Z9 (H.out.chg D (by simpa using f) (by simpa using N))
 replace D:=Z9 (D.more (T:=[g,gl]) (by simp))
 clear L B M Z Y X U i l0 d x1 b F
 have m:IntKind.u32.wrap (pl.length:Int)=(pl.length:Int):=by rw [zxh];omega
 have J:=H.out.box.cell 2 _ rfl
 have I:=Blk.frozen H.out.box 2
 go_upto_region 2 with fail
 obtain ⟨V2,C⟩:=nm9 (V1.setCell ⟨g,2,none⟩ (.int .u16 (IntKind.u16.wrap (p.seq+1))))
 rw [← C]
 rw [zxg] at C
 replace H:=Z9 (show PM V2 S g { p with seq:=(p.seq+1) % 65536 } A n c l by rw [C];exact H.out.set hg 2 _ _ rfl rfl)
 have B:OnlyB g V1 V2:=by rw [C];exact OnlyB.setCell _ _ _ _
 replace G:=Z9 (B.blk G.out (fun e=>N e.symm))
 replace E:=Z9 (B.owns_lt E.out O)
 replace D:=Z9 (D.out.trans (Chg.of_only B (by simp)))
 clear C B J I
 have J:=H.out.box.cell 46 _ rfl
 have I:=Blk.frozen H.out.box 46
 go_upto_region 3 with fail
 obtain ⟨V3,C⟩:=nm9 (V2.setCell ⟨g,46,none⟩ (.int .u32 ((p.pk+1) % 4294967296)))
 rw [← C]
 replace H:=Z9 (show PM V3 S g { p with seq:=(p.seq+1) % 65536,pk:=(p.pk+1) % 4294967296 } A n c l by rw [C];exact H.out.set hg 46 _ _ rfl rfl)
 have B:OnlyB g V2 V3:=by rw [C];exact OnlyB.setCell _ _ _ _
 replace G:=Z9 (B.blk G.out (fun e=>N e.symm))
 replace E:=Z9 (B.owns_lt E.out O)
 replace D:=Z9 (D.out.trans (Chg.of_only B (by simp)))
 clear C B J I
 have J:=H.out.box.cell 47 _ rfl
 have I:=Blk.frozen H.out.box 47
 go_wp2_with fail
 obtain ⟨V4,C⟩:=nm9 (V3.setCell ⟨g,47,none⟩ (.int .u32 ((p.oc+(pl.length:Int)) % 4294967296)))
 rw [← C]
 replace H:=Z9 (show PM V4 S g (Sb.emit p K ti mrk pl).1 A n c l by rw [C];exact H.out.set hg 47 _ _ rfl rfl)
 have B:OnlyB g V3 V4:=by rw [C];exact OnlyB.setCell _ _ _ _
 replace G:=Z9 (B.blk G.out (fun e=>N e.symm))
 replace E:=Z9 (B.owns_lt E.out O)
 replace D:=Z9 (D.out.trans (Chg.of_only B (by simp)))
 clear C B J I
 go_end0
 exact ⟨rfl,V,c9,H.out,G.out,E.out,D.out⟩
end
section
open Go.RowKit
def Sb.Pkt.pk (k:Sb.Pkt):Pk.Pkt:=⟨k.mrk,k.ty,k.sq,k.ti,k.src,[],false,0,[],k.pl,0⟩
structure Sb.Pkt.ok (k:Sb.Pkt):Prop where
 ty0:0≤k.ty
 ty1:k.ty≤127
 sq0:0≤k.sq
 sq1:k.sq≤65535
 ti0:0≤k.ti
 ti1:k.ti≤4294967295
 so0:0≤k.src
 so1:k.src≤4294967295
 pl:Within 0 255 k.pl
 len:k.pl.length≤1500
theorem Sb.Pkt.ok.good {k:Sb.Pkt} (h:k.ok):Pk.Good k.pk :=
 ⟨h.ty0,h.ty1,⟨h.sq0,h.sq1⟩,⟨h.ti0,h.ti1⟩,⟨h.so0,h.so1⟩,⟨Int.le_refl 0,(by decide:(0:Int)≤65535)⟩,Within.nil _ _,Within.nil _ _,h.pl,Int.le_refl _,(by decide:(0:Int)≤255),fun _=>⟨rfl,rfl⟩,rfl,by show 0≤15;omega,by show 0≤1020;omega,h.len⟩
theorem Sb.Pkt.ok.bytes {k:Sb.Pkt} (h:k.ok):Within 0 255 (Pk.bytes k.pk)∧(Pk.bytes k.pk).length≤6000∧Pk.fin (Pk.bytes k.pk) 0=(k.pk,0,0)∧(Pk.chk (Pk.bytes k.pk)).2=0∧Pk.ext (Pk.bytes k.pk)=false∧(Pk.bytes k.pk).getD 0 0 / 32 % 2=0:=by
 have g:=h.good
 have h1:=Pk.bytes_facts g
 have h2:=Pk.chk_bytes g
 have h3:=Pk.ext_eq g
 have h4:=(Pk.x0_facts g).2.2.2
 rw [← Pk.b0] at h4
 have h5:(Pk.bytes k.pk).getD 0 0 / 32 % 2=0:=h4
 have h6:=Pk.dec_enc g
 unfold Pk.dec at h6
 rw [if_neg (by rw [h2];exact fun h=>h rfl),if_neg (by omega)] at h6
 exact ⟨h1.1,h1.2.2,h6,by rw [h2],h3,h5⟩
theorem zvo (k:Sb.Pkt) (h:k.ok) (A1 A2 B:Option Addr) (c1 c2 c:Nat) (w:World) (hB:IntsAt w w.heap.size .u8 B k.pl):Calls Tryz.prog 24 #[.agg #[.bool k.mrk, .int .u8 k.ty, .int .u16 k.sq, .int .u32 k.ti, .int .u32 k.src, .slice A1 0 c1, .bool false, .int .u16 0, .slice A2 0 c2, .slice B k.pl.length c, .int .i64 0]] w (PEncRC (Pk.bytes k.pk,0) w):=by
 obtain ⟨mk,ty,sq,ti,so,pl⟩:=k
 obtain ⟨h1,h2,h3,h4,h5,h6,C,A,E,D⟩:=h
 cases mk
 · exact zvi ty sq ti so A1 [] c1 0 A2 [] c2 B pl c 0 w h1 h2 h3 h4 h5 h6 C A (by decide) (by decide) rfl (by decide) (by decide) rfl D (Within.nil _ _) (by decide) ⟨rfl,rfl⟩ IntsAt.nil IntsAt.nil hB
 · exact zvj ty sq ti so A1 [] c1 0 A2 [] c2 B pl c 0 w h1 h2 h3 h4 h5 h6 C A (by decide) (by decide) rfl (by decide) (by decide) rfl D (Within.nil _ _) (by decide) ⟨rfl,rfl⟩ IntsAt.nil IntsAt.nil hB
def PktR (k:Sb.Pkt) (w:World) (e:Ending) (w':World):Prop :=
 ∃ (Mx:Option Addr) (cm:Nat) (Et:Option Addr) (ce:Nat) (Pl:Option Addr) (cp:Nat),e = .returned (.tuple #[.agg #[.bool k.mrk, .int .u8 k.ty, .int .u16 k.sq, .int .u32 k.ti, .int .u32 k.src, .slice Mx 0 cm, .bool false, .int .u16 0, .slice Et 0 ce, .slice Pl k.pl.length cp, .int .i64 0], .int .i64 0, .int .u8 0])∧k.pl.length≤cp∧IntsNew w.heap.size w' .u8 Pl k.pl∧Below w.heap.size w w'
theorem zvp (k:Sb.Pkt) (h:k.ok) (A:Option Addr) (n c:Nat) (hn:(Pk.bytes k.pk).length=n) (hc:n≤c) (w:World) (D:IntsAt w w.heap.size .u8 A (Pk.bytes k.pk)):Calls Tryz.prog 25 #[.slice A n c] w (PktR k w):=by
 subst hn
 obtain ⟨h1,h2,h3,h4,h5,h6⟩:=h.bytes
 have B:=zsh A (Pk.bytes k.pk) c w D h1 (by omega) hc h4 h5 h6
 rw [h3] at B
 refine B.mono ?_
 rintro e w' ⟨Mx,cm,Et,F,G,E,rfl,H,_,_,C,hb⟩
 exact ⟨Mx,cm,Et,F,G,E,rfl,H,C,hb⟩
end
section
attribute [local go_sem ↓] zab zac
attribute [local go_sem] zaa zad
open Go.RowKit
theorem zsi:(Tryz.prog.info? 220).map (fun i=>(i.zero,i.size,i.bytes))=some (some (.agg #[.int .i64 0, .int .i64 0, .int .i64 0, .bool false, .int .u8 0, .slice none 0 0]),6,56):=by kernel_rfl
theorem zsj:(Tryz.prog.info? 5).map (fun i=>(i.zero,i.size,i.bytes))=some (some (.int .u8 0),1,1):=by kernel_rfl
theorem QOwn.only (h:QOwn w base A n c l) (ho:OnlyB g w w') (hg:g<base):QOwn w' base A n c l :=
 ⟨h.len,ho.owns h.own hg,fun a B h0=>by
  obtain ⟨b,off,e,hlt,hc⟩:=h.pay a B h0
  have:=h.new a B h0 b off e
  exact ⟨b,off,e,by rw [ho.2];exact hlt,fun i hi=>(ho.cell (show b≠g by omega)).trans (hc i hi)⟩,h.far,h.new,h.cap⟩
def CopyR (s:Jb.Jt) (l:List TW) (w:World) (e:Ending) (w':World):Prop :=
 ∃ (A':Option Addr) (c':Nat) (l':List TW),e = .returned (.agg (JW s A' l.length c').toArray)∧l'.map TW.w=l.map TW.w∧QOwn w' (w.heap.size+2) A' l.length c' l'∧Below w.heap.size w w'
theorem zcs (s:Jb.Jt) (A:Option Addr) (l:List TW) (n c:Nat) (w:World) (hn:l.length=n) (hl:n≤100000) (o:Wts w w.heap.size A l) (hp:∀ a∈l,a.w.m.pl.length≤1000000):Calls Tryz.prog 39 #[.agg #[.int .i64 s.least, .int .i64 s.most, .int .i64 s.now, .bool s.on, .int .i64 s.zero, .int .i64 s.first, .int .i64 s.high, .int .i64 s.done, .int .i64 s.spread, .int .i64 s.trans, .slice A n c, .int .i64 s.late, .int .i64 s.twice, .int .i64 s.played]] w (CopyR s l w):=by
 subst hn
 have HA:=Z9 o
 have HP:=Z9 hp
 clear o hp
 have E:=Z9 ((Blk.new w 37 (JW s A l.length c).toArray).push (.cells (JW Jb.Jt.none none 0 0).toArray 37))
 have H:=Z9 (Blk.new1 w (.cells (JW s A l.length c).toArray 37) 37 (JW Jb.Jt.none none 0 0).toArray)
 have Z:=Z9 (((Bel.refl w).push (.cells (JW s A l.length c).toArray 37)).push (.cells (JW Jb.Jt.none none 0 0).toArray 37))
 go_enter Tryz.func39,Tryz.ntmps39
 go_upto_region 1 with fail
 obtain ⟨W0,f⟩:=nm9 ((w.alloc (Obj.cells #[.int .i64 s.least, .int .i64 s.most, .int .i64 s.now, .bool s.on, .int .i64 s.zero, .int .i64 s.first, .int .i64 s.high, .int .i64 s.done, .int .i64 s.spread, .int .i64 s.trans, .slice A l.length c, .int .i64 s.late, .int .i64 s.twice, .int .i64 s.played] 37)).alloc (Obj.cells (JW Jb.Jt.none none 0 0).toArray 37))
 change Code.wp _ _ _ _ ((w.alloc (Obj.cells #[.int .i64 s.least, .int .i64 s.most, .int .i64 s.now, .bool s.on, .int .i64 s.zero, .int .i64 s.first, .int .i64 s.high, .int .i64 s.done, .int .i64 s.spread, .int .i64 s.trans, .slice A l.length c, .int .i64 s.late, .int .i64 s.twice, .int .i64 s.played] 37)).alloc (Obj.cells (JW Jb.Jt.none none 0 0).toArray 37))
 rw [← f]
 change Hid (Blk ((w.alloc (Obj.cells #[.int .i64 s.least, .int .i64 s.most, .int .i64 s.now, .bool s.on, .int .i64 s.zero, .int .i64 s.first, .int .i64 s.high, .int .i64 s.done, .int .i64 s.spread, .int .i64 s.trans, .slice A l.length c, .int .i64 s.late, .int .i64 s.twice, .int .i64 s.played] 37)).alloc (Obj.cells (JW Jb.Jt.none none 0 0).toArray 37)) _ _ _) at E H
 change Hid (Bel w ((w.alloc (Obj.cells #[.int .i64 s.least, .int .i64 s.most, .int .i64 s.now, .bool s.on, .int .i64 s.zero, .int .i64 s.first, .int .i64 s.high, .int .i64 s.done, .int .i64 s.spread, .int .i64 s.trans, .slice A l.length c, .int .i64 s.late, .int .i64 s.twice, .int .i64 s.played] 37)).alloc (Obj.cells (JW Jb.Jt.none none 0 0).toArray 37))) at Z
 rw [← f] at E H Z
 clear f
 have Uy:=E.out.at 10 (.slice A l.length c) rfl
 go_wp2_with fail
 go_loopg [3,9] l.length (fun gk s3 i wr => ∃ (k:Nat) (A':Option Addr) (c':Nat) (l':List TW),gk+k=l.length∧s3 = .slice A' k c'∧i = .int .i64 k∧Hid (l'.map TW.w=(l.map TW.w).take k)∧Hid (QOwn wr (w.heap.size+2) A' k c' l')∧Hid (Blk wr w.heap.size 37 (JW s A l.length c).toArray)∧Hid (Blk wr (w.heap.size+1) 37 (JW Jb.Jt.none none 0 0).toArray)∧Hid (Bel w wr))
 case atStart=>exact ⟨0,none,0,[],rfl,rfl,rfl,Z9 rfl,Z9 QOwn.nil,E,H,Z⟩
 case round =>
  obtain ⟨k,A',c',l',Xf,rfl,rfl,HL,L,E,H,U⟩:=hrel
  have Ct:(0:Int)≤(k:Int):=by omega
  have Dd:=H.out.lt
  by_cases hk:k<l.length
  rotate_left
  · obtain rfl:k=l.length:=by omega
    have Cn:(l.length:Int)≤(l.length:Int):=Int.le_refl _
    have Uy:=E.out.at 10 (.slice A l.length c) rfl
    have fz:=E.out.frozen 10
    go_upto_region 9 with fail
    obtain ⟨V,N⟩:=nm9 (wr.setCell ⟨w.heap.size,10,none⟩ (.slice A' l.length c'))
    rw [← N]
    have F:OnlyB w.heap.size wr V:=by rw [N];exact OnlyB.setCell _ _ _ _
    have D:Blk V w.heap.size 37 (JW s A' l.length c').toArray:=by rw [N];exact E.out.set_ 10 _
    have d:=F.blk H.out (by omega)
    have Y:=F.bel U.out (Nat.le_refl _)
    have Qq:Owns V _ _ _ _ _ _ _:=F.owns L.out.own (by omega)
    clear Uy fz N
    go_wp2_with (first|(refine zaf rfl 37 (.tmp 1) rfl w.heap.size 0 rfl 37 (JW s A' l.length c') D 14 _ Tryz.underlying37 zbg (Nat.le_refl 14) _ rfl rfl ?_)|(refine zag rfl 37 (.tmp 2) (.tmp 26) rfl (w.heap.size+1) 0 rfl 37 _ d (JW s A' l.length c') rfl zbg (Nat.le_refl 14) rfl (JW s A' l.length c') rfl ?_;intro WF BF OF))
    refine bodyPost_ret (v := .agg (JW s A' l.length c').toArray) (results_cell_row (p:=2) (ty:=37) rfl _ _ (w.heap.size+1) 37 _ (0,0) _ rfl BF Tryz.underlying37 rfl zbg) rfl ⟨A',c',l',rfl,by rw [HL.out,List.take_of_length_le (by simp)],?_,OF.bel Y (by omega)⟩
    exact ((L.out.only F (by omega)).only OF (by omega))
  have Cn:(k:Int)<(l.length:Int):=by omega
  obtain ⟨a,J⟩:∃ a,l[k]? = some a:=⟨_,List.getElem?_eq_getElem hk⟩
  obtain ⟨b,off,rfl,Bb,W,Q,z,y,x,u⟩:=zes (HA.out.1.keep (fun p hp=>U.out.cell hp)) J
  have Zk:=HP.out a (List.mem_of_getElem? J)
  have T:=(HA.out.2 a (List.mem_of_getElem? J)).keep (w':=wr) (fun p hp=>U.out.cell hp)
  have hm:(l.map TW.w)[k]? = some a.w:=by rw [List.getElem?_map,J];rfl
  have HM:=Z9 hm
  obtain ⟨⟨at0,⟨sq0,ti0,I,ty0,pl0⟩⟩,h,c0⟩:=a
  simp only at W Q z y x u Zk T HM
  have IA:=Z9 T
  have BX:=Z9 (Blk.new wr 220 #[.int .i64 at0, .int .i64 sq0, .int .i64 ti0, .bool I, .int .u8 ty0, .slice h pl0.length c0])
  clear J hm T
  have Df:=U.out.size
  go_upto_region 5 with fail
  have NE:0+pl0.length≤maxLen:=by unfold maxLen;omega
  have ND:(0+pl0.length)*1≤140737488355328:=by omega
  go_upto_region 6 with (at_builtin;go_loud (refine zbl rfl (.const (.slice none 0 0)) _ 69 rfl (wr.heap.size+1) 5 1 (.int .u8 0) Tryz.underlying69 zsj rfl none 0 0 [] rfl Owns.nil w.heap.size .u8 h c0 pl0 rfl (IA.out.alloc Df _) NE ND (by rw [zaq];exact Nat.le_refl _) pl0.length (by omega) ?_);intro G c9 v1 K R AZ;have C:=BX.out.grown R (by simp [ownB]);have y0:=C.at 0 _ rfl;have y1:=C.at 1 _ rfl;have y2:=C.at 2 _ rfl;have y3:=C.at 3 _ rfl;have y4:=C.at 4 _ rfl;have y5:=C.at 5 _ rfl;have yz:=C.frozen 5)
  have X:Below wr.heap.size wr (wr.alloc (.cells #[.int .i64 at0, .int .i64 sq0, .int .i64 ti0, .bool I, .int .u8 ty0, .slice h pl0.length c0] 220)):=(Below.refl _ _).alloc (Nat.le_refl _) _
  have Oa:IntsNew wr.heap.size v1 .u8 G pl0:=IntsNew.of_own K (by omega)
  have B:Below wr.heap.size wr v1:=X.grown R X.size (fun g e=>by simp [ownB] at e)
  have Kg:∀ g,ownB G=some g→g≠wr.heap.size:=fun g e=>by have:=(K.block g e).1;omega
  obtain ⟨V1,P⟩:=nm9 (v1.setCell ⟨wr.heap.size,5,none⟩ (.slice G pl0.length c9))
  rw [← P]
  have F:OnlyB wr.heap.size v1 V1:=by rw [P];exact OnlyB.setCell _ _ _ _
  have D:Blk V1 wr.heap.size 220 #[.int .i64 at0, .int .i64 sq0, .int .i64 ti0, .bool I, .int .u8 ty0, .slice G pl0.length c9]:=by rw [P];exact C.set_ 5 _
  have Uv:Hid (IntsNew wr.heap.size V1 .u8 G pl0):=Z9 (IntsNew.of_own (base:=wr.heap.size+1) (F.owns K (by omega)) (by omega))
  have GJ:=Z9 (show pl0.length≤c9 from Owns.cap K)
  replace B:=Z9 (F.below B B.size (Nat.le_refl _))
  have cB:=Z9 (L.out.below B.out)
  clear P F C y0 y1 y2 y3 y4 y5 yz R K AZ Oa Kg X BX IA NE ND
  have z0:=D.at 0 _ rfl
  have z1:=D.at 1 _ rfl
  have z2:=D.at 2 _ rfl
  have z3:=D.at 3 _ rfl
  have z4:=D.at 4 _ rfl
  have z5:=D.at 5 _ rfl
  clear D W Q z y x u
  have h5:(k+1)*56≤140737488355328:=by omega
  have h6:k+1≤maxLen:=by unfold maxLen;omega
  have t:w.heap.size+2≤V1.heap.size:=by have:=B.out.size;omega
  have HX:=Z9 cB.out.own
  go_wp2_with (at_builtin;go_loud (refine zan (w0:=V1) rfl _ _ 35 rfl (w.heap.size+2) 220 6 56 _ Tryz.underlying35 zsi rfl (by decide) A' k c' _ rfl HX.out [.int .i64 at0, .int .i64 sq0, .int .i64 ti0, .bool I, .int .u8 ty0, .slice G pl0.length c9] rfl (by simp [Value.oneCell']) rfl h6 h5 t ?_);intro An cn wn j M Ar)
  have O:∀ g,ownB A'=some g→w.heap.size+2≤g:=fun g e=>(L.out.own.block g e).1
  have Dc:=Z9 ((E.out.below B.out (by omega)).grown M (fun e=>by have:=O _ e.symm;omega))
  have d:=Z9 ((H.out.below B.out (by omega)).grown M (fun e=>by have:=O _ e.symm;omega))
  have Y:Hid (Bel w wn):=Z9 ((U.out.later B.out).grown M (by have:=B.out.size;omega) (fun g e=>by have:=O g e;omega))
  have Qq:=Z9 (L.out.step (a:=⟨⟨at0,⟨sq0,ti0,I,ty0,pl0⟩⟩,G,c9⟩) (by omega) B.out (Below.refl _ _) M (by simpa [TW.row] using j) Ar Uv.out GJ.out)
  clear j M Ar O z0 z1 z2 z3 z4 z5 h5 h6 t
  go_wp2_with fail
  go_roundg (gk-1)
  case measure=>omega
  case rel=>exact ⟨k+1,An,cn,l' ++ [⟨⟨at0,⟨sq0,ti0,I,ty0,pl0⟩⟩,G,c9⟩],by omega,rfl,by go_num,Z9 (by rw [List.map_append,HL.out,List.take_add_one,HM.out];rfl),Qq,Dc,d,Y⟩
def EncR (bs:List Int) (s:Int×Int) (w:World) (e:Ending) (w':World):Prop:=∃ (A':Option Addr) (c':Nat),e = .returned (.tuple #[.slice A' bs.length c', .agg #[.int .i64 s.1, .int .i64 s.2], .int .u8 0])∧IntsNew w.heap.size w' .u8 A' bs∧Below w.heap.size w w'
theorem zuc (v i:Int) (A:Option Addr) (zs:List Int) (c b:Nat) (w:World) (E:IntsAt w w.heap.size .i16 A zs) (hz:Within (-32768) 32767 zs) (I:zs.length≤8000) (hb:Blk w b 5 #[.int .u8 1]):Calls Tryz.prog 121 #[.agg #[.int .i64 v, .int .i64 i], .slice A zs.length c, .pointer (some ⟨b,0,none⟩)] w (EncR (zs.map Cmp.muZ) (v,i) w):=by
 have k1:=Z9 fun (W:World) H=>zlh A zs c W H hz I
 have M:=Z9 (((Bel.refl w).push (.cells #[.int .i64 v, .int .i64 i] 30)).push (.cells #[.int .i64 0, .int .i64 0] 30))
 have U:=Z9 ((Blk.new w 30 #[.int .i64 v, .int .i64 i]).push (.cells #[.int .i64 0, .int .i64 0] 30))
 have V:=Z9 (Blk.new1 w (.cells #[.int .i64 v, .int .i64 i] 30) 30 #[.int .i64 0, .int .i64 0])
 have R:=Z9 ((E.push (.cells #[.int .i64 v, .int .i64 i] 30)).push (.cells #[.int .i64 0, .int .i64 0] 30))
 have X:=Z9 ((hb.push (.cells #[.int .i64 v, .int .i64 i] 30)).push (.cells #[.int .i64 0, .int .i64 0] 30))
 have hlt:=hb.lt
 clear E hb hz
 go_enter Tryz.func121,Tryz.ntmps121
 have J:=X.out.at 0 _ rfl
 go_wp2_with fail
 refine (k1.out _ R.out).mono ?_
 rintro e w1 ⟨A1,rfl,D,C⟩
 have L:=Z9 (M.out.later C)
 have G:=Z9 (U.out.later C)
 have B:=Z9 (V.out.later C)
 have T:=Z9 D
 clear C D J
 have c0:=G.out.at 0 _ rfl
 have c1:=G.out.at 1 _ rfl
 have d:=B.out.at 0 _ rfl
 have Z:=B.out.at 1 _ rfl
 have Y:=B.out.frozen
 go_upto_region 2 with fail
 go_region
 have F:=B.out.set_ 0 (.int .i64 v)
 have O:=F.set_ 1 (.int .i64 i)
 have q1:=F.at 1 _ rfl
 have N:IntsNew w.heap.size ((w1.setCell ⟨w.heap.size+1,0,none⟩ (.int .i64 v)).setCell ⟨w.heap.size+1,1,none⟩ (.int .i64 i)) .u8 A1 _:=((T.out.setCell (p:=⟨w.heap.size+1,0,none⟩) (by simp) (.int .i64 v)).setCell (p:=⟨w.heap.size+1,1,none⟩) (by simp) (.int .i64 i)).less (by simp;omega)
 have K:Bel w ((w1.setCell ⟨w.heap.size+1,0,none⟩ (.int .i64 v)).setCell ⟨w.heap.size+1,1,none⟩ (.int .i64 i)):=zah (zah L.out (by simp) _) (by simp) _
 go_wp2_with fail
 refine bodyPost_ret (v := .tuple #[.slice A1 zs.length zs.length, .agg #[.int .i64 v, .int .i64 i], .int .u8 0]) (ziw Tryz.results121 rfl rfl (run_loadVar_row (P:=Tryz.prog) _ _ _ _ _ _ _ O.drew Tryz.underlying30 rfl (by kernel_rfl)) rfl) rfl ⟨A1,zs.length,by rw [List.length_map],?_,K.drew⟩
 exact N
theorem zxi (v i:Int) (A:Option Addr) (zs:List Int) (c b:Nat) (w:World) (E:IntsAt w w.heap.size .i16 A zs) (hz:Within (-32768) 32767 zs) (I:zs.length≤8000) (hb:Blk w b 5 #[.int .u8 2]):Calls Tryz.prog 121 #[.agg #[.int .i64 v, .int .i64 i], .slice A zs.length c, .pointer (some ⟨b,0,none⟩)] w (EncR (zs.map Cmp.aZ) (v,i) w):=by
 have k1:=Z9 fun (W:World) H=>zqj A zs c W H hz I
 have M:=Z9 (((Bel.refl w).push (.cells #[.int .i64 v, .int .i64 i] 30)).push (.cells #[.int .i64 0, .int .i64 0] 30))
 have U:=Z9 ((Blk.new w 30 #[.int .i64 v, .int .i64 i]).push (.cells #[.int .i64 0, .int .i64 0] 30))
 have V:=Z9 (Blk.new1 w (.cells #[.int .i64 v, .int .i64 i] 30) 30 #[.int .i64 0, .int .i64 0])
 have R:=Z9 ((E.push (.cells #[.int .i64 v, .int .i64 i] 30)).push (.cells #[.int .i64 0, .int .i64 0] 30))
 have X:=Z9 ((hb.push (.cells #[.int .i64 v, .int .i64 i] 30)).push (.cells #[.int .i64 0, .int .i64 0] 30))
 have hlt:=hb.lt
 clear E hb hz
 go_enter Tryz.func121,Tryz.ntmps121
 have J:=X.out.at 0 _ rfl
 go_wp2_with fail
 refine (k1.out _ R.out).mono ?_
 rintro e w1 ⟨A1,rfl,D,C⟩
 have L:=Z9 (M.out.later C)
 have G:=Z9 (U.out.later C)
 have B:=Z9 (V.out.later C)
 have T:=Z9 D
 clear C D J
 have c0:=G.out.at 0 _ rfl
 have c1:=G.out.at 1 _ rfl
 have d:=B.out.at 0 _ rfl
 have Z:=B.out.at 1 _ rfl
 have Y:=B.out.frozen
 go_upto_region 2 with fail
 go_region
 have F:=B.out.set_ 0 (.int .i64 v)
 have O:=F.set_ 1 (.int .i64 i)
 have q1:=F.at 1 _ rfl
 have N:IntsNew w.heap.size ((w1.setCell ⟨w.heap.size+1,0,none⟩ (.int .i64 v)).setCell ⟨w.heap.size+1,1,none⟩ (.int .i64 i)) .u8 A1 _:=((T.out.setCell (p:=⟨w.heap.size+1,0,none⟩) (by simp) (.int .i64 v)).setCell (p:=⟨w.heap.size+1,1,none⟩) (by simp) (.int .i64 i)).less (by simp;omega)
 have K:Bel w ((w1.setCell ⟨w.heap.size+1,0,none⟩ (.int .i64 v)).setCell ⟨w.heap.size+1,1,none⟩ (.int .i64 i)):=zah (zah L.out (by simp) _) (by simp) _
 go_wp2_with fail
 refine bodyPost_ret (v := .tuple #[.slice A1 zs.length zs.length, .agg #[.int .i64 v, .int .i64 i], .int .u8 0]) (ziw Tryz.results121 rfl rfl (run_loadVar_row (P:=Tryz.prog) _ _ _ _ _ _ _ O.drew Tryz.underlying30 rfl (by kernel_rfl)) rfl) rfl ⟨A1,zs.length,by rw [List.length_map],?_,K.drew⟩
 exact N
section
variable (q:Int) (A:Option Addr) (zs:List Int) (cap:Nat) (w:World)
theorem zjj (q0 : -9223372036854775808≤q) (q1:q≤9223372036854775807) (D:IntsAt w w.heap.size .i16 A zs) (hz:Within (-32768) 32767 zs) (hl:zs.length≤8000) :
 Calls Tryz.prog 46 #[.agg #[.int .i64 q], .slice A zs.length cap] w fun e w'=>e = .returned (.tuple #[.agg #[.int .i64 (Ev.quiet q zs)], .bool (Ev.quiet q zs==10)])∧Below w.heap.size w w':=by
 have k1:=Z9 fun W h=>zhy A zs cap W h hz hl
 obtain ⟨R,B⟩:=nm9 (Ev.quiet q zs)
 rw [← B]
 unfold Ev.quiet at B
 have hb:=Ev.lev_bd zs hz
 have E:=Z9 ((D.push (.cells #[.int .i64 q] 28)).push (.cells #[.int .i64 0] 28))
 generalize Ev.lev zs=L at *
 clear hz D
 by_cases C:L<60
 · rw [if_pos C] at B
   subst B
   go_enter Tryz.func46,Tryz.ntmps46
   go_wp2_with (go_at_call 49;refine (k1.out _ E.out).mono ?_;rintro e w1 ⟨rfl,rfl⟩)
   refine bodyPost_ret (v := .tuple #[.agg #[.int .i64 0], .bool ((0:Int)==10)]) (by simp [results,Tryz.results46,go_sem]) rfl ⟨rfl,?_⟩
   repeat (first|exact Below.refl _ _|refine Below.drew ?_|refine Below.setCell ?_ (by simp) _|refine Below.alloc ?_ (by simp;try omega) _)
 · rw [if_neg C] at B
   have F:decide (L<60)=false:=by simpa using C
   have HR:=Z9 B
   clear B C
   go_enter Tryz.func46,Tryz.ntmps46
   go_wp2_with (go_at_call 49;refine (k1.out _ E.out).mono ?_;rintro e w1 ⟨rfl,rfl⟩)
   refine bodyPost_ret (v := .tuple #[.agg #[.int .i64 R], .bool (R==10)]) (by rw [HR.out];simp [results,Tryz.results46,go_sem]) rfl ⟨rfl,?_⟩
   repeat (first|exact Below.refl _ _|refine Below.drew ?_|refine Below.setCell ?_ (by simp) _|refine Below.alloc ?_ (by simp;try omega) _)
end
structure TK where
 k:Sb.Pkt
 B:Option Addr
 c:Nat
def TK.row (a:TK):List Value:=pktRow a.k a.B a.c
def Pks (w:World) (n:Nat) (A:Option Addr) (l:List TK):Prop:=RowsAt w n 11 TK.row A l∧∀ a∈l,IntsAt w n .u8 a.B a.k.pl
theorem Pks.nil: Pks w n A []:=⟨fun h=>absurd h (by simp),fun _ h=>by cases h⟩
theorem Pks.keep {l:List TK} (h:Pks w n A l) (hk:∀ p:Addr,p.block<n→w'.cell? p=w.cell? p):Pks w' n A l:=⟨h.1.keep hk,fun a B=>(h.2 a B).keep hk⟩
theorem Pks.more {l:List TK} (h:Pks w n A l) (hm:n≤m):Pks w m A l:=⟨h.1.more hm,fun a B=>(h.2 a B).more hm⟩
theorem Pks.later {l:List TK} (h:Pks w w.heap.size A l) (hb:Below w.heap.size w w'):Pks w' w'.heap.size A l:=(h.keep fun _ hp=>hb.cell hp).more hb.size
theorem Pks.one {k:Sb.Pkt} (ho:Owns w base 112 11 A 1 c (pktRow k B bc)) (hp:IntsAt w w.heap.size .u8 B pl) (hk:k.pl=pl):Pks w w.heap.size A [⟨k,B,bc⟩]:=by
 refine ⟨Owns.rows (l:=[(⟨k,B,bc⟩:TK)]) (row:=TK.row) (by simpa [TK.row] using ho) rfl (fun a=>rfl),fun a C => ?_⟩
 obtain rfl:=List.mem_singleton.1 C
 show IntsAt w w.heap.size .u8 B k.pl
 rw [hk];exact hp
def findRegS (i:Nat):Code→Option Code
 | .region j ops d=>if i=j then some (.region j ops d) else none
 | .seq a b => match findRegS i a with
   | some c=>some c
   | none=>findRegS i b
 | .cond _ a b => match findRegS i a with
   | some c=>some c
   | none=>findRegS i b
 | .block _ c=>findRegS i c
 | .loop c=>findRegS i c
 | .scope c=>findRegS i c
 | _=>none
def PksN (n:Nat) (A:Option Addr) (l:List TK):Prop:=(0<l.length→∀ b off,A=some ⟨b,off,none⟩→n≤b)∧∀ a∈l,0<a.k.pl.length→∀ b off,a.B=some ⟨b,off,none⟩→n≤b
theorem PksN.nil: PksN n A []:=⟨fun h=>absurd h (by simp),fun _ h=>by cases h⟩
theorem PksN.one {k:Sb.Pkt} (ho:Owns w base 112 11 A 1 c xs) (hb:n≤base) (hp:∀ b off,B=some ⟨b,off,none⟩→n≤b):PksN n A [⟨k,B,bc⟩]:=by
 refine ⟨fun _ b off e => ?_,fun a C _ b off e => ?_⟩
 · have:=(ho.block b (by rw [e];rfl)).1
   omega
 · obtain rfl:=List.mem_singleton.1 C
   exact hp b off e
def SendR (R:Sb.Pt×List Sb.Pkt) (w:World) (e:Ending) (w':World):Prop :=
 ∃ (A':Option Addr) (n' c':Nat) (l':List TW) (KA:Option Addr) (kc:Nat) (ks:List TK),e = .returned (.tuple #[.agg (PA R.1 A' n' c'), .slice KA ks.length kc, .int .u8 0])∧ks.map TK.k=R.2∧l'.map TW.w=R.1.jt.q∧l'.length=n'∧n'≤c'∧c'≤maxLen∧Wts w' w'.heap.size A' l'∧Pks w' w'.heap.size KA ks∧Below w.heap.size w w'∧PksN w.heap.size KA ks∧∀ a∈ks,a.k.ty=96→a.k.pl.length≤a.c
theorem PM.drew {S:List Nat} (h:PM W S g p A n c l):PM W.drew S g p A n c l:=⟨h.box,h.q,h.len,h.cap,h.cm,⟨h.qa.wts,h.qa.row,h.qa.pay⟩⟩
theorem QOwn.capm (h:QOwn w base A n c l):n≤c∧c≤maxLen:=⟨h.own.cap,Owns.capm h.own⟩
def EncRk (k:Int) (bs:List Int) (s:Int×Int) (w:World) (e:Ending) (w':World):Prop:=∃ (A':Option Addr) (c':Nat),Hid (k=96→bs.length≤c')∧e = .returned (.tuple #[.slice A' bs.length c', .agg #[.int .i64 s.1, .int .i64 s.2], .int .u8 0])∧IntsNew w.heap.size w' .u8 A' bs∧Below w.heap.size w w'
theorem EncR.k {k:Int} {s:Int×Int} {e:Ending} (h:EncR bs s w e w') (hk:k≠96):EncRk k bs s w e w':=by
 obtain ⟨A',c',h1,h2,h3⟩:=h
 exact ⟨A',c',Z9 (fun e=>absurd e hk),h1,h2,h3⟩
structure EncK (k v i:Int) (ZA:Option Addr) (zc:Nat) (zs bs:List Int) (s:Int×Int) (K:Nat) (C:Nat→Nat→Array Value) (D:Nat→Nat→Value):Prop where
 at_:∀ b1 b2,cAt b1 b2 k = .agg #[.func (.func K) #[] (C b1 b2),D b1 b2]
 en:∀ (args:Array Value) (w:World),(callFunc K args).run Tryz.prog w = .ok (.enter K args) w
 run:∀ (V:World) (b1 b2:Nat),IntsAt V V.heap.size .i16 ZA zs→Blk V b1 5 #[.int .u8 1]→Blk V b2 5 #[.int .u8 2]→Calls Tryz.prog K (#[.agg #[.int .i64 v, .int .i64 i], .slice ZA 160 zc]++C b1 b2) V (EncRk k bs s V)
theorem zff (K:Nat) (C:Array Value) (D:Value) (w:World):(Instr.field 148 (.agg #[.func (.func K) #[] C,D]) 0).run Tryz.prog w = .ok (.func (.func K) #[] C) w:=by kernel_rfl
theorem zvq (v i:Int) (A:Option Addr) (zs:List Int) (c:Nat) (w:World) (hv:Dlt.valid v i=true) (B:IntsAt w w.heap.size .i16 A zs) (hz:Within (-32768) 32767 zs) (C:zs.length≤8000) (h0:0<zs.length):Calls Tryz.prog 30 #[.agg #[.int .i64 v, .int .i64 i], .slice A zs.length c] w (EncRk 96 (Dlt.packB (v,i) zs) (Dlt.stAt (v,i) zs zs.length) w):=by
 refine (zhi v i A zs c w hv B hz C h0).mono ?_
 rintro e w' ⟨A',c',rfl,h1,h2,h3⟩
 exact ⟨A',c',Z9 (fun _=>by rw [Dlt.packB_len];exact h1),by rw [Dlt.packB_len],h2,h3⟩
theorem encK (k v i:Int) (hk:speechB k=true) (hv:Dlt.valid v i=true) (ZA:Option Addr) (zc:Nat) (zs:List Int) (hz:Within (-32768) 32767 zs) (hl:zs.length=160):∃ K C D,EncK k v i ZA zc zs (Sb.enc k (v,i) zs).1 (Sb.enc k (v,i) zs).2 K C D:=by
 unfold Sb.enc
 rcases zal.1 hk with rfl|rfl|rfl
 · refine ⟨_,fun b1 _ => #[.pointer (some ⟨b1,0,none⟩)],fun b1 _=>_,⟨fun b1 b2=>rfl,fun _ _=>by kernel_rfl,fun V b1 b2 A h1 h2 => ?_⟩⟩
   have:=zuc v i ZA zs zc b1 V A hz (by omega) h1
   rw [hl] at this
   exact this.mono fun e w' h=>EncR.k h (by decide)
 · refine ⟨_,fun _ b2 => #[.pointer (some ⟨b2,0,none⟩)],fun _ b2=>_,⟨fun b1 b2=>rfl,fun _ _=>by kernel_rfl,fun V b1 b2 A h1 h2 => ?_⟩⟩
   have:=zxi v i ZA zs zc b2 V A hz (by omega) h2
   rw [hl] at this
   exact this.mono fun e w' h=>EncR.k h (by decide)
 · refine ⟨_,fun _ _ => #[],fun _ _=>_,⟨fun b1 b2=>rfl,fun _ _=>by kernel_rfl,fun V b1 b2 A h1 h2 => ?_⟩⟩
   have:=zvq v i ZA zs zc V hv A hz (by omega) (by omega)
   rw [hl] at this
   rw [show zs.length=160 from hl]
   exact this
noncomputable def sr8_code:Code:=((Tryz.f22.body.bind (findRegS 8)).getD .skip)
theorem zxj {Q:Exit→Act→World→Prop} (N:Nat) (kc v i:Int) (g:0≤kc) (k1:kc≤255) (ZA:Option Addr) (zs:List Int) (zc:Nat) (bs:List Int) (s:Int×Int) (FK:Nat) (FC:Nat→Nat→Array Value) (FD:Nat→Nat→Value) (l:EncK kc v i ZA zc zs bs s FK FC FD) (W:World) (x0:W.cell? ⟨N,0,none⟩=some (.int .u8 kc)) (n:W.cell? ⟨N,6,none⟩=some (.int .i64 v)) (m:W.cell? ⟨N,7,none⟩=some (.int .i64 i)) (j:IntsAt W W.heap.size .i16 ZA zs) (E:∀ (ch:_) (a:Act) (d:Tmp) (u:Value) (w:World),Q (.panic ch) (a.put (some d) u) w→Q (.panic ch) a w)
 (h:∀ (wx:World) (P:Option Addr) (M g8:Nat) (x y KT KO KN KM KL KK KJ KH KF o p:Value),Hid (IntsNew W.heap.size wx .u8 P bs)→Hid (Blk wx g8 30 #[.int .i64 s.1, .int .i64 s.2])→Hid (W.heap.size≤g8)→Hid (Below W.heap.size W wx)→Hid (kc=96→bs.length≤M)→Q .normal ⟨#[s0, .slice ZA 160 zc, .pointer (some ⟨N,0,none⟩),s3,s4,s5,s6,s7,s8,s9,Jh,Nv,Hz,Iq,Ox,Kc,Kb, .slice P bs.length M, .pointer (some ⟨g8,0,none⟩), .int .u8 0,Mz,My,Mw,Mu,Mt,Ms,Mr,Mq,Mp,Mo,Ns,Nr,Nq,Np,Mn,Mm,Ml,Mk,Mj,Mi,Ka,Jz,Jy,x,y,KT,KO,KN,KM,KL,KK,KJ,KH,KF,o,p,Lv,Lu,Nm,Nl,Nk,Nj,Ni,Lt,Ls,Lr,Lq,Lp,Jn,Lo,Ln,Lm,Ll,Lk,Lj,Li,Lh,Lg,Lf,Le,Ld,Lc,Lb,La,Kz,Ky,Kx,Kw,Kv,Ku,Kt,Ks,Kr,Kq,Jf,Jx,Jw,Je,Jv,Ju,Ci,Ch,Cg,Cf,Ce,Cq,Dm,Dl,Dk,Dj,Di,Dh,Er,Eq,Ep,Eo,En,Em,El,Ek,Ej,Ei,Eh,Eg,Ef,Ee,Ed,Ec,Eb,Ea,Dz,Dy,Dx,Dw,Dv,Du,Dt,Ds,Dr],[]⟩ wx):sr8_code.wp Tryz.prog Q ⟨#[s0, .slice ZA 160 zc, .pointer (some ⟨N,0,none⟩),s3,s4,s5,s6,s7,s8,s9,Jh,Nv,Hz,Iq,Ox,Kc,Kb,Na,Jo,Nu,Mz,My,Mw,Mu,Mt,Ms,Mr,Mq,Mp,Mo,Ns,Nr,Nq,Np,Mn,Mm,Ml,Mk,Mj,Mi,Ka,Jz,Jy,Mh,Mg,Mf,Me,Mc,Mb,Ma,Lz,Ly,Lx,Lw,Jg,Nn,Lv,Lu,Nm,Nl,Nk,Nj,Ni,Lt,Ls,Lr,Lq,Lp,Jn,Lo,Ln,Lm,Ll,Lk,Lj,Li,Lh,Lg,Lf,Le,Ld,Lc,Lb,La,Kz,Ky,Kx,Kw,Kv,Ku,Kt,Ks,Kr,Kq,Jf,Jx,Jw,Je,Jv,Ju,Ci,Ch,Cg,Cf,Ce,Cq,Dm,Dl,Dk,Dj,Di,Dh,Er,Eq,Ep,Eo,En,Em,El,Ek,Ej,Ei,Eh,Eg,Ef,Ee,Ed,Ec,Eb,Ea,Dz,Dy,Dx,Dw,Dv,Du,Dt,Ds,Dr],[]⟩ W:=by
 have L:=Z9 l
 have Z:=Z9 j
 have hq:=Z9 h
 clear j h l
 obtain ⟨s1,s2⟩:=s
 conv=>arg 2;whnf
 refine wp_region_held_drew (S:=fun w'=>Below W.heap.size W w') (by kernel_rfl) (Below.drew (Below.refl _ _)) (fun A => ?_)
 refine tkB 1 rfl A ?_ (q9 E)
 try simp only [ss9]
 refine tkA 2 (v:=?_) rfl ?_ A ?_ (q9 E)
 rotate_left
 · (intro w V;have c0:=zae V x0;clear V;go_simp;try with_reducible rfl)
 try simp only [ss9]
 refine tkB 5 rfl A ?_ (q9 E)
 try simp only [ss9]
 refine tkA 6 (v:=?_) rfl ?_ A ?_ (q9 E)
 rotate_left
 · (intro w V;have c6:=zae V n;have c7:=zae V m;clear V;go_simp;try with_reducible rfl)
 try simp only [ss9]
 refine tkB 7 rfl A ?_ (q9 E)
 try simp only [ss9]
 refine rd2 0 13 (by kernel_rfl) rfl rfl (fun K B=>?_) fun K B=>?_
 · go_simp
   refine (zbh _).mono ?_
   rintro e w7 ⟨b,b1,b2,rfl,C,X⟩
   have HC:=Z9 C
   refine B.out _ _ ?_ (fun A => ?_)
   · exact zak X A
   clear B K C X
   try simp only [ss9]
   refine rd2 3 13 (by kernel_rfl) rfl rfl (fun K B=>?_) fun K B=>?_
   · have R:=(zbb HC.out kc g k1).1
     rw [L.out.at_] at R
     go_simp
     refine B.out _ _ ?_ (fun A => ?_)
     · exact A
     clear B K R
     try simp only [ss9]
     have Y:=zff
     refine tkB 4 rfl A ?_ (q9 E)
     try simp only [ss9]
     clear Y
     refine rd2 8 13 (by kernel_rfl) rfl rfl (fun K B=>?_) fun K B=>?_
     · go_simp
       rw [L.out.en]
       refine (L.out.run _ b1 b2 (Z.out.later A) HC.out.l1 HC.out.l2).mono ?_
       rintro e w9 ⟨P,M,U,rfl,J,H⟩
       have G:=Z9 (J.less A.size)
       refine B.out _ _ ?_ (fun A => ?_)
       · exact zak H A
       clear B K HC J H
       try simp only [ss9]
       refine tkB 9 rfl A ?_ (q9 E)
       try simp only [ss9]
       refine tkB 10 rfl A ?_ (q9 E)
       try simp only [ss9]
       refine tkB 11 rfl A ?_ (q9 E)
       try simp only [ss9]
       refine tkB 12 rfl A ?_ (q9 E)
       try simp only [ss9]
       refine rd1 13 (by kernel_rfl) rfl fun K B=>?_
       · go_simp
         have D:=Z9 (Blk.new (w9) 30 #[.int .i64 0, .int .i64 0])
         have F:W.heap.size≤(w9).heap.size:=A.size
         obtain ⟨g8,O⟩:=nm9 ((w9).heap.size)
         replace G:=Z9 (G.out.push (Obj.cells #[.int .i64 0, .int .i64 0] 30))
         refine B.out _ _ ?_ (fun A => ?_)
         · exact zaj A _
         clear B K
         try simp only [ss9]
         obtain ⟨V4,I⟩:=nm9 ((w9).alloc (Obj.cells #[.int .i64 0, .int .i64 0] 30))
         rw [← I] at D A G ⊢
         rw [← O] at D F ⊢
         clear O
         clear I
         refine tkB 14 rfl A ?_ (q9 E)
         try simp only [ss9]
         have T:=D.out.at 0 _ rfl
         have f:=D.out.at 1 _ rfl
         have c:=D.out.frozen
         refine rd1 15 (by kernel_rfl) rfl fun K B=>?_
         go_simp
         refine B.out _ _ ?_ (fun A => ?_)
         · exact zah (zah A F _) F _
         clear B K
         try simp only [ss9]
         refine tkB 16 rfl A ?_ (q9 E)
         try simp only [ss9]
         refine wpAnyH_done (by kernel_rfl) ?_ _
         have z1:=(D.out.set_ 0 (.int .i64 s1)).at 1 _ rfl
         exact hq.out _ P M _ _ _ _ _ _ _ _ _ _ _ _ _ _ (Z9 ⟨((G.out.1.set_ne T (by intro z e;cases e) _).set_ne z1 (by intro z e;cases e) _).more (by simp [World.setCell]),G.out.2⟩) (Z9 ((D.out.set_ 0 _).set_ 1 _)) (Z9 F) (Z9 A) U
     · go_simp
       have D:=Z9 (Blk.new (w7) 30 #[.int .i64 0, .int .i64 0])
       have F:W.heap.size≤(w7).heap.size:=A.size
       obtain ⟨g8,O⟩:=nm9 ((w7).heap.size)
       replace HC:=Z9 (HC.out.later ((Below.refl _ _).alloc (Nat.le_refl _) (Obj.cells #[.int .i64 0, .int .i64 0] 30)))
       refine B.out _ _ ?_ (fun A => ?_)
       · exact zaj A _
       clear B K
       try simp only [ss9]
       obtain ⟨V5,I⟩:=nm9 ((w7).alloc (Obj.cells #[.int .i64 0, .int .i64 0] 30))
       rw [← I] at D A HC ⊢
       rw [← O] at D F ⊢
       clear O
       clear I
       refine rd1 8 (by kernel_rfl) rfl fun K B=>?_
       · go_simp
         rw [L.out.en]
         refine (L.out.run _ b1 b2 (Z.out.later A) HC.out.l1 HC.out.l2).mono ?_
         rintro e w9 ⟨P,M,U,rfl,J,H⟩
         have G:=Z9 (J.less A.size)
         replace D:=Z9 (D.out.later H)
         refine B.out _ _ ?_ (fun A => ?_)
         · exact zak H A
         clear B K HC J H
         try simp only [ss9]
         refine tkB 9 rfl A ?_ (q9 E)
         try simp only [ss9]
         refine tkB 10 rfl A ?_ (q9 E)
         try simp only [ss9]
         refine tkB 11 rfl A ?_ (q9 E)
         try simp only [ss9]
         refine tkB 12 rfl A ?_ (q9 E)
         try simp only [ss9]
         refine tkB 14 rfl A ?_ (q9 E)
         try simp only [ss9]
         have T:=D.out.at 0 _ rfl
         have f:=D.out.at 1 _ rfl
         have c:=D.out.frozen
         refine rd1 15 (by kernel_rfl) rfl fun K B=>?_
         go_simp
         refine B.out _ _ ?_ (fun A => ?_)
         · exact zah (zah A F _) F _
         clear B K
         try simp only [ss9]
         refine tkB 16 rfl A ?_ (q9 E)
         try simp only [ss9]
         refine wpAnyH_done (by kernel_rfl) ?_ _
         have z1:=(D.out.set_ 0 (.int .i64 s1)).at 1 _ rfl
         exact hq.out _ P M _ _ _ _ _ _ _ _ _ _ _ _ _ _ (Z9 ⟨((G.out.1.set_ne T (by intro z e;cases e) _).set_ne z1 (by intro z e;cases e) _).more (by simp [World.setCell]),G.out.2⟩) (Z9 ((D.out.set_ 0 _).set_ 1 _)) (Z9 F) (Z9 A) U
   · go_simp
     have D:=Z9 (Blk.new (w7) 30 #[.int .i64 0, .int .i64 0])
     have F:W.heap.size≤(w7).heap.size:=A.size
     obtain ⟨g8,O⟩:=nm9 ((w7).heap.size)
     replace HC:=Z9 (HC.out.later ((Below.refl _ _).alloc (Nat.le_refl _) (Obj.cells #[.int .i64 0, .int .i64 0] 30)))
     refine B.out _ _ ?_ (fun A => ?_)
     · exact zaj A _
     clear B K
     try simp only [ss9]
     obtain ⟨V7,I⟩:=nm9 ((w7).alloc (Obj.cells #[.int .i64 0, .int .i64 0] 30))
     rw [← I] at D A HC ⊢
     rw [← O] at D F ⊢
     clear O
     clear I
     refine rd1 3 (by kernel_rfl) rfl fun K B=>?_
     · have R:=(zbb HC.out kc g k1).1
       rw [L.out.at_] at R
       go_simp
       refine B.out _ _ ?_ (fun A => ?_)
       · exact A
       clear B K R
       try simp only [ss9]
       have Y:=zff
       refine tkB 4 rfl A ?_ (q9 E)
       try simp only [ss9]
       clear Y
       refine rd1 8 (by kernel_rfl) rfl fun K B=>?_
       · go_simp
         rw [L.out.en]
         refine (L.out.run _ b1 b2 (Z.out.later A) HC.out.l1 HC.out.l2).mono ?_
         rintro e w9 ⟨P,M,U,rfl,J,H⟩
         have G:=Z9 (J.less A.size)
         replace D:=Z9 (D.out.later H)
         refine B.out _ _ ?_ (fun A => ?_)
         · exact zak H A
         clear B K HC J H
         try simp only [ss9]
         refine tkB 9 rfl A ?_ (q9 E)
         try simp only [ss9]
         refine tkB 10 rfl A ?_ (q9 E)
         try simp only [ss9]
         refine tkB 11 rfl A ?_ (q9 E)
         try simp only [ss9]
         refine tkB 12 rfl A ?_ (q9 E)
         try simp only [ss9]
         refine tkB 14 rfl A ?_ (q9 E)
         try simp only [ss9]
         have T:=D.out.at 0 _ rfl
         have f:=D.out.at 1 _ rfl
         have c:=D.out.frozen
         refine rd1 15 (by kernel_rfl) rfl fun K B=>?_
         go_simp
         refine B.out _ _ ?_ (fun A => ?_)
         · exact zah (zah A F _) F _
         clear B K
         try simp only [ss9]
         refine tkB 16 rfl A ?_ (q9 E)
         try simp only [ss9]
         refine wpAnyH_done (by kernel_rfl) ?_ _
         have z1:=(D.out.set_ 0 (.int .i64 s1)).at 1 _ rfl
         exact hq.out _ P M _ _ _ _ _ _ _ _ _ _ _ _ _ _ (Z9 ⟨((G.out.1.set_ne T (by intro z e;cases e) _).set_ne z1 (by intro z e;cases e) _).more (by simp [World.setCell]),G.out.2⟩) (Z9 ((D.out.set_ 0 _).set_ 1 _)) (Z9 F) (Z9 A) U
 · go_simp
   have D:=Z9 (Blk.new (W) 30 #[.int .i64 0, .int .i64 0])
   have F:W.heap.size≤(W).heap.size:=A.size
   obtain ⟨g8,O⟩:=nm9 ((W).heap.size)
   replace D:=Z9 (Blk.dr D.out)
   refine B.out _ _ ?_ (fun A => ?_)
   · exact Below.drew (zaj (Below.refl _ _) _)
   clear B K
   try simp only [ss9]
   obtain ⟨t,I⟩:=nm9 ((W.alloc (Obj.cells #[.int .i64 0, .int .i64 0] 30)).drew)
   rw [← I] at D A ⊢
   subst O
   clear I
   refine rd1 0 (by kernel_rfl) rfl fun K B=>?_
   · go_simp
     refine (zbh _).mono ?_
     rintro e w7 ⟨b,b1,b2,rfl,C,X⟩
     have HC:=Z9 C
     replace D:=Z9 (D.out.later X)
     refine B.out _ _ ?_ (fun A => ?_)
     · exact zak X A
     clear B K C X
     try simp only [ss9]
     refine rd1 3 (by kernel_rfl) rfl fun K B=>?_
     · have R:=(zbb HC.out kc g k1).1
       rw [L.out.at_] at R
       go_simp
       refine B.out _ _ ?_ (fun A => ?_)
       · exact A
       clear B K R
       try simp only [ss9]
       have Y:=zff
       refine tkB 4 rfl A ?_ (q9 E)
       try simp only [ss9]
       clear Y
       refine rd1 8 (by kernel_rfl) rfl fun K B=>?_
       · go_simp
         rw [L.out.en]
         refine (L.out.run _ b1 b2 (Z.out.later A) HC.out.l1 HC.out.l2).mono ?_
         rintro e w9 ⟨P,M,U,rfl,J,H⟩
         have G:=Z9 (J.less A.size)
         replace D:=Z9 (D.out.later H)
         refine B.out _ _ ?_ (fun A => ?_)
         · exact zak H A
         clear B K HC J H
         try simp only [ss9]
         refine tkB 9 rfl A ?_ (q9 E)
         try simp only [ss9]
         refine tkB 10 rfl A ?_ (q9 E)
         try simp only [ss9]
         refine tkB 11 rfl A ?_ (q9 E)
         try simp only [ss9]
         refine tkB 12 rfl A ?_ (q9 E)
         try simp only [ss9]
         refine tkB 14 rfl A ?_ (q9 E)
         try simp only [ss9]
         have T:=D.out.at 0 _ rfl
         have f:=D.out.at 1 _ rfl
         have c:=D.out.frozen
         refine rd1 15 (by kernel_rfl) rfl fun K B=>?_
         go_simp
         refine B.out _ _ ?_ (fun A => ?_)
         · exact zah (zah A F _) F _
         clear B K
         try simp only [ss9]
         refine tkB 16 rfl A ?_ (q9 E)
         try simp only [ss9]
         refine wpAnyH_done (by kernel_rfl) ?_ _
         have z1:=(D.out.set_ 0 (.int .i64 s1)).at 1 _ rfl
         exact hq.out _ P M _ _ _ _ _ _ _ _ _ _ _ _ _ _ (Z9 ⟨((G.out.1.set_ne T (by intro z e;cases e) _).set_ne z1 (by intro z e;cases e) _).more (by simp [World.setCell]),G.out.2⟩) (Z9 ((D.out.set_ 0 _).set_ 1 _)) (Z9 F) (Z9 A) U
theorem zie (h:Sb.chkT p now=0):p.valid=true∧now≤281474976710656∧p.jt.now≤now:=by
 unfold Sb.chkT at h
 split at h
 · cases h
 · rename_i h1
   split at h
   · cases h
   · rename_i h2
     refine ⟨?_,by omega,by omega⟩
     cases hv:p.valid
     · exact absurd (Or.inl hv) h1
     · rfl
theorem zsk (h:p.valid=true):p.jt.ok:=by
 unfold Sb.Pt.valid at h
 simp only [Bool.and_eq_true] at h
 have h3:Jb.valid p.jt=true:=h.1.1.2
 unfold Jb.valid at h3
 exact of_decide_eq_true h3
theorem zsl (h:Sb.chkT p now=0):(Jb.run p.jt now).2.2=0∧(Jb.run p.jt now).2.1=Jb.due now p.jt.q:=by
 obtain ⟨h1,h2,h3⟩:=zie h
 have h4:=zsk h1
 have h5:Jb.chk p.jt now true=0:=by
  unfold Jb.chk
  rw [if_neg (fun A=>by rcases A with A|A|A;exact A h4;omega;cases A),if_neg (by omega)]
 unfold Jb.run
 rw [if_pos h5]
 exact ⟨rfl,rfl⟩
theorem zpe {q:List Jb.Wt} (h:∀ a∈q,OkW a):∀ a∈Jb.due now q,OkW a:=fun a A=>h a ((List.takeWhile_sublist _).subset A)
theorem zgg (now:Int) (q:List Jb.Wt):(Jb.due now q).length≤q.length:=(List.takeWhile_sublist _).length_le
def PlayV (p:Sb.Pt) (now:Int) (w:World) (e:Ending) (w':World):Prop :=
 ∃ (A':Option Addr) (n' c':Nat) (l':List TW) (SA:Option Addr) (sc m:Nat) (ls:List TS) (base:Nat),e = .returned (.tuple #[.agg (PA (Sb.run p now).1 A' n' c'), .slice SA m sc, .int .u8 0])∧l'.map TW.w=(Sb.run p now).1.jt.q∧l'.length=n'∧n'≤c'∧c'≤maxLen∧WtsIn w' w.heap.size w'.heap.size A' l'∧ls.map TS.s=(Sb.run p now).2∧w.heap.size≤base∧SOwn w' base SA m sc ls∧Below w.heap.size w w'
theorem zvr (p:Sb.Pt) (hw:p.wf) (A:Option Addr) (l:List TW) (n c:Nat) (X:Array Value) (U:X=PA p A n c) (w:World) (hq:l.map TW.w=p.jt.q) (hn:l.length=n) (hl:n≤100000) (Av:n≤c) (Q:c≤maxLen) (Y:Wts w w.heap.size A l) (M:∀ a∈l,I64 a.w.m.sq) (now:Int) (hc:Sb.chkT p now=0) (V:∀ a∈p.jt.q,OkW a):Calls Tryz.prog 23 #[.agg X, .int .i64 now] w (PlayV p now w):=by
 have D:=Z9 ((PB.new w X U).push (.cells (PA Sb.Pt.zero none 0 0) 45))
 have B:=Z9 (Blk.new1 w (.cells X 45) 45 (PA Sb.Pt.zero none 0 0))
 have C:=Z9 (((Bel.refl w).push (.cells X 45)).push (.cells (PA Sb.Pt.zero none 0 0) 45))
 have F:=Z9 ((Y.push (.cells X 45)).push (.cells (PA Sb.Pt.zero none 0 0) 45))
 obtain ⟨P,K⟩:=zsl hc
 have hm:(Jb.run p.jt now).2.1.length≤100000:=by
  rw [K]
  have h1:=zgg now p.jt.q
  have h2:=congrArg List.length hq
  simp at h2
  omega
 have k1:=Z9 fun (W:World) E=>zda p hw A l n c (PA p A n c) rfl W hq hn hl E M now
 rw [hc] at k1
 have T:=Z9 fun (W:World) E=>zja p hw A l n c (PA p A n c) rfl W hq hn hl Av Q E M now 0 P (by rw [K];exact zpe V) hm
 unfold PlayR at T
 unfold PlayV
 generalize Sb.run p now=R at *
 obtain ⟨q,R2⟩:=R
 clear U Y M hq hc V P K hm hw
 go_enter Tryz.func23,Tryz.ntmps23
 go_upto_region 1 with fail
 change Code.wp _ _ _ _ ((w.alloc (Obj.cells X 45)).alloc (Obj.cells (PA Sb.Pt.zero none 0 0) 45))
 obtain ⟨W,E⟩:=nm9 ((w.alloc (Obj.cells X 45)).alloc (Obj.cells (PA Sb.Pt.zero none 0 0) 45))
 rw [← E] at D B C F ⊢
 clear E
 have hL:=B.out.lt
 go_wp2_with (first|(refine zaf rfl 45 (.tmp 2) rfl (w.heap.size) 0 rfl 45 (PL p A n c) D.out 48 _ Tryz.underlying45 zai (show 0+48≤48 by decide) (PA p A n c) (by rfl) rfl ?_)|fail)
 refine (k1.out _ F.out).mono ?_
 rintro e w1 ⟨rfl,I⟩
 replace C:=Z9 (C.out.later I)
 replace D:=Z9 (D.out.later I)
 replace B:=Z9 (B.out.later I)
 replace F:=Z9 (F.out.later I)
 have x:=B.out.lt
 clear I
 go_wp2_with (first|(refine zaf rfl 45 (.tmp 2) rfl (w.heap.size) 0 rfl 45 (PL p A n c) D.out 48 _ Tryz.underlying45 zai (show 0+48≤48 by decide) (PA p A n c) (by rfl) rfl ?_)|fail)
 refine (T.out _ F.out).mono ?_
 rintro e w2 ⟨A2,n2,c2,l2,f,sc,m,ls,base,aQ,rfl,d,o,j,i,J,y,g,b,e7,Z,H⟩
 replace J:=J.more g
 clear y g
 replace C:=Z9 (C.out.later H)
 replace D:=Z9 (D.out.later H)
 replace B:=Z9 (B.out.later H)
 have tH:=C.out.size
 have Ib:=H.size
 have u:=Z9 d
 have L:=Z9 J
 have t:=Z9 b
 have O:=Z9 Z
 clear H F d J b Z
 subst o
 go_upto_region 5 with (first|(refine zag rfl 45 (.tmp 2) (.tmp 22) rfl (w.heap.size) 0 rfl 45 (PL p A n c) D.out (PL q A2 l2.length c2) rfl zai (show 0+48≤48 by decide) rfl (PL q A2 l2.length c2) rfl ?_;intro WG h G)|fail)
 replace C:=Z9 (G.bel C.out (Nat.le_refl _))
 replace B:=Z9 (G.blk B.out (by omega))
 replace L:=Z9 (L.out.step G (by omega))
 replace O:=Z9 (O.out.only G (by omega))
 have z:=Z9 h
 clear h G D
 go_wp2_with (first|(refine zaf rfl 45 (.tmp 2) rfl (w.heap.size) 0 rfl 45 (PL q A2 l2.length c2) z.out 48 _ Tryz.underlying45 zai (show 0+48≤48 by decide) (PA q A2 l2.length c2) (by rfl) rfl ?_)|(refine zag rfl 45 (.tmp 4) (.tmp 26) rfl (w.heap.size+1) 0 rfl 45 (PL Sb.Pt.zero none 0 0) B.out (PL q A2 l2.length c2) rfl zai (show 0+48≤48 by decide) rfl (PL q A2 l2.length c2) rfl ?_;intro WH BH N)|fail)
 refine bodyPost_ret (v := .tuple #[.agg (PA q A2 l2.length c2), .slice f m sc, .int .u8 0]) (zbe Tryz.results23 rfl (PB.load BH) rfl rfl) rfl ⟨A2,l2.length,c2,l2,f,sc,m,ls,base,rfl,u.out,rfl,j,i,(L.out.step N x).less (by omega),t.out,by omega,O.out.only N (by omega),N.bel C.out (by omega)⟩
structure Rx where
 mrk:Bool
 ty:Int
 sq:Int
 ti:Int
 src:Int
 CA:Option Addr
 cn:Nat
 cc:Nat
 ex:Bool
 pr:Int
 EA:Option Addr
 en:Nat
 ec:Nat
 B:Option Addr
 pl:List Int
 pc:Nat
 pad:Int
def Rx.row (x:Rx):Array Value := #[.bool x.mrk, .int .u8 x.ty, .int .u16 x.sq, .int .u32 x.ti, .int .u32 x.src, .slice x.CA x.cn x.cc, .bool x.ex, .int .u16 x.pr, .slice x.EA x.en x.ec, .slice x.B x.pl.length x.pc, .int .i64 x.pad]
def Rx.arr (x:Rx):Sb.Arr:=⟨x.mrk,x.ty,x.sq,x.ti,x.pl⟩
structure RC (w:World) (p:Sb.Pt) (A:Option Addr) (l:List TW) (n c:Nat) (x:Rx) (now:Int):Prop where
 q:l.map TW.w=p.jt.q
 len:l.length=n
 n5:n≤100000
 cap:n≤c
 cm:c≤maxLen
 av:Wts w w.heap.size A l
 sq:∀ a∈l,I64 a.w.m.sq
 ok:∀ a∈p.jt.q,OkW a
 s0:0≤p.seed
 s1:p.seed≤4294967295
 ty0:0≤x.ty
 ty1:x.ty≤255
 q0:0≤x.sq
 q1:x.sq≤65535
 t0:0≤x.ti
 t1:x.ti≤4294967295
 h15:x.pl.length≤1500
 pl:IntsAt w w.heap.size .u8 x.B x.pl
 n0 : -281474976710656≤now
 n1:now≤281474976710656
theorem RC.with {x:Rx} (h:RC w p A l n c x now) (B:p'.jt=p.jt) (hs:p'.seed=p.seed):RC w p' A l n c x now :=
 ⟨by rw [B];exact h.q,h.len,h.n5,h.cap,h.cm,h.av,h.sq,by rw [B];exact h.ok,by rw [hs];exact h.s0,by rw [hs];exact h.s1,h.ty0,h.ty1,h.q0,h.q1,h.t0,h.t1,h.h15,h.pl,h.n0,h.n1⟩
structure RS (w W:World) (p:Sb.Pt) (A:Option Addr) (n c:Nat) (x:Rx):Prop where
 b0:PB W w.heap.size p A n c
 b1:Blk W (w.heap.size+1) 112 x.row
 b2:Blk W (w.heap.size+1+1) 45 (PA Sb.Pt.zero none 0 0)
 u:Bel w W
section
variable {w W W':World} {p p':Sb.Pt} {A A':Option Addr} {n n' c c':Nat} {x:Rx}
theorem RS.later (h:RS w W p A n c x) (hb:Below W.heap.size W W'):RS w W' p A n c x:=⟨h.b0.later hb,h.b1.later hb,h.b2.later hb,h.u.later hb⟩
theorem RS.push (h:RS w W p A n c x) (o:Obj):RS w (W.alloc o) p A n c x:=h.later ((Below.refl _ _).alloc (Nat.le_refl _) _)
theorem RS.over (h:RS w W p A n c x) (ho:OnlyB w.heap.size W W') (hb:PB W' w.heap.size p' A' n' c'):RS w W' p' A' n' c' x:=⟨hb,ho.blk h.b1 (by omega),ho.blk h.b2 (by omega),ho.bel h.u (Nat.le_refl _)⟩
theorem RS.c0 (h:RS w W p A n c x):W.cell? ⟨w.heap.size+1,0,none⟩=some (.bool x.mrk):=h.b1.at 0 _ rfl
theorem RS.c1 (h:RS w W p A n c x):W.cell? ⟨w.heap.size+1,1,none⟩=some (.int .u8 x.ty):=h.b1.at 1 _ rfl
theorem RS.c2 (h:RS w W p A n c x):W.cell? ⟨w.heap.size+1,2,none⟩=some (.int .u16 x.sq):=h.b1.at 2 _ rfl
theorem RS.c3 (h:RS w W p A n c x):W.cell? ⟨w.heap.size+1,3,none⟩=some (.int .u32 x.ti):=h.b1.at 3 _ rfl
theorem RS.c9 (h:RS w W p A n c x):W.cell? ⟨w.heap.size+1,9,none⟩=some (.slice x.B x.pl.length x.pc):=h.b1.at 9 _ rfl
theorem RS.far (h:RS w W p A n c x) (ho:OnlyB g W W') (h0:w.heap.size≠g) (h1:g≠w.heap.size+1) (h2:g≠w.heap.size+1+1) (hg:w.heap.size≤g):RS w W' p A n c x:=⟨ho.blk h.b0 h0,ho.blk h.b1 (Ne.symm h1),ho.blk h.b2 (Ne.symm h2),ho.bel h.u hg⟩
theorem RS.set (h:RS w W p A n c x) (i:Nat) (v:Value) (hp:(PL p A n c).set i v=PL p' A n c):RS w (W.setCell ⟨w.heap.size,i,none⟩ v) p' A n c x:=h.over (OnlyB.setCell _ _ _ _) (h.b0.set i v p' hp)
end
def RecvR (R:Sb.Pt×Int×List Sb.Sd) (w:World) (e:Ending) (w':World):Prop :=
 ∃ (A':Option Addr) (n' c':Nat) (l':List TW) (SA:Option Addr) (sc m:Nat) (ls:List TS) (base:Nat),e = .returned (.tuple #[.agg (PA R.1 A' n' c'), .int .u8 R.2.1, .slice SA m sc, .int .u8 0])∧l'.map TW.w=R.1.jt.q∧l'.length=n'∧n'≤c'∧c'≤maxLen∧WtsIn w' w.heap.size w'.heap.size A' l'∧ls.map TS.s=R.2.2∧w.heap.size≤base∧SOwn w' base SA m sc ls∧Below w.heap.size w w'
def FrA (g:Nat) (now:Int) (a:Act):Prop:=Fr 164 [(1, .int .i64 now),(3, .pointer (some ⟨g,0,none⟩)),(5, .pointer (some ⟨g+1,0,none⟩)),(6, .pointer (some ⟨g+1+1,0,none⟩))] a
theorem FrA.mk (h:xs.length=164:=by rfl) (A:AllL [(1, .int .i64 now),(3, .pointer (some ⟨g,0,none⟩)),(5, .pointer (some ⟨g+1,0,none⟩)),(6, .pointer (some ⟨g+1+1,0,none⟩))] xs:=by exact ⟨rfl,rfl,rfl,rfl,trivial⟩):FrA g now ⟨xs.toArray,[]⟩:=Fr.mk h A
def FrB (g:Nat) (now:Int) (gt:Nat) (kn:Bool) (a:Act):Prop:=Fr 164 [(1, .int .i64 now),(3, .pointer (some ⟨g,0,none⟩)),(5, .pointer (some ⟨g+1,0,none⟩)),(6, .pointer (some ⟨g+1+1,0,none⟩)),(11, .pointer (some ⟨gt,0,none⟩)),(12, .bool kn)] a
theorem FrB.mk {kn:Bool} (h:xs.length=164:=by rfl) (A:AllL [(1, .int .i64 now),(3, .pointer (some ⟨g,0,none⟩)),(5, .pointer (some ⟨g+1,0,none⟩)),(6, .pointer (some ⟨g+1+1,0,none⟩)),(11, .pointer (some ⟨gt,0,none⟩)),(12, .bool kn)] xs:=by exact ⟨rfl,rfl,rfl,rfl,rfl,rfl,trivial⟩):FrB g now gt kn ⟨xs.toArray,[]⟩:=Fr.mk h A
def FrU (g:Nat) (now:Int) (gt:Nat) (on:Bool) (fn:Int) (ok:Bool) (a:Act):Prop:=Fr 164 [(1, .int .i64 now),(3, .pointer (some ⟨g,0,none⟩)),(5, .pointer (some ⟨g+1,0,none⟩)),(6, .pointer (some ⟨g+1+1,0,none⟩)),(11, .pointer (some ⟨gt,0,none⟩)),(13, .bool on),(15, .int .i64 fn),(16, .bool ok)] a
theorem FrU.mk {on:Bool} {ok:Bool} (h:xs.length=164:=by rfl) (A:AllL [(1, .int .i64 now),(3, .pointer (some ⟨g,0,none⟩)),(5, .pointer (some ⟨g+1,0,none⟩)),(6, .pointer (some ⟨g+1+1,0,none⟩)),(11, .pointer (some ⟨gt,0,none⟩)),(13, .bool on),(15, .int .i64 fn),(16, .bool ok)] xs:=by exact ⟨rfl,rfl,rfl,rfl,rfl,rfl,rfl,rfl,trivial⟩):FrU g now gt on fn ok ⟨xs.toArray,[]⟩:=Fr.mk h A
def FrC (g:Nat) (now:Int) (gt:Nat) (on:Bool) (fn:Int) (a:Act):Prop:=Fr 164 [(1, .int .i64 now),(3, .pointer (some ⟨g,0,none⟩)),(5, .pointer (some ⟨g+1,0,none⟩)),(6, .pointer (some ⟨g+1+1,0,none⟩)),(11, .pointer (some ⟨gt,0,none⟩)),(13, .bool on),(15, .int .i64 fn)] a
theorem FrC.mk {on:Bool} (h:xs.length=164:=by rfl) (A:AllL [(1, .int .i64 now),(3, .pointer (some ⟨g,0,none⟩)),(5, .pointer (some ⟨g+1,0,none⟩)),(6, .pointer (some ⟨g+1+1,0,none⟩)),(11, .pointer (some ⟨gt,0,none⟩)),(13, .bool on),(15, .int .i64 fn)] xs:=by exact ⟨rfl,rfl,rfl,rfl,rfl,rfl,rfl,trivial⟩):FrC g now gt on fn ⟨xs.toArray,[]⟩:=Fr.mk h A
def FrE (g:Nat) (now:Int) (on:Bool) (fn t:Int) (a:Act):Prop:=Fr 164 [(1, .int .i64 now),(3, .pointer (some ⟨g,0,none⟩)),(5, .pointer (some ⟨g+1,0,none⟩)),(6, .pointer (some ⟨g+1+1,0,none⟩)),(13, .bool on),(15, .int .i64 fn),(17, .int .i64 t)] a
theorem FrE.mk {on:Bool} {t:Int} (h:xs.length=164:=by rfl) (A:AllL [(1, .int .i64 now),(3, .pointer (some ⟨g,0,none⟩)),(5, .pointer (some ⟨g+1,0,none⟩)),(6, .pointer (some ⟨g+1+1,0,none⟩)),(13, .bool on),(15, .int .i64 fn),(17, .int .i64 t)] xs:=by exact ⟨rfl,rfl,rfl,rfl,rfl,rfl,rfl,trivial⟩):FrE g now on fn t ⟨xs.toArray,[]⟩:=Fr.mk h A
def FrD (g:Nat) (now fn t:Int) (a:Act):Prop:=Fr 164 [(1, .int .i64 now),(3, .pointer (some ⟨g,0,none⟩)),(5, .pointer (some ⟨g+1,0,none⟩)),(6, .pointer (some ⟨g+1+1,0,none⟩)),(15, .int .i64 fn),(17, .int .i64 t)] a
theorem FrD.mk {t:Int} (h:xs.length=164:=by rfl) (A:AllL [(1, .int .i64 now),(3, .pointer (some ⟨g,0,none⟩)),(5, .pointer (some ⟨g+1,0,none⟩)),(6, .pointer (some ⟨g+1+1,0,none⟩)),(15, .int .i64 fn),(17, .int .i64 t)] xs:=by exact ⟨rfl,rfl,rfl,rfl,rfl,rfl,trivial⟩):FrD g now fn t ⟨xs.toArray,[]⟩:=Fr.mk h A
noncomputable def rcA_code:Code:=((Tryz.f26.body.bind (fromReg 6)).getD .skip)
noncomputable def rcB_code:Code:=((Tryz.f26.body.bind (fromReg 11)).getD .skip)
noncomputable def rcS_code:Code:=((Tryz.f26.body.bind (fromReg 16)).getD .skip)
noncomputable def rcC_code:Code:=((Tryz.f26.body.bind (fromReg 18)).getD .skip)
noncomputable def rcE_code:Code:=((Tryz.f26.body.bind (fromReg 23)).getD .skip)
noncomputable def rcD_code:Code:=((Tryz.f26.body.bind (fromReg 25)).getD .skip)
def fromBlk (i:Nat):Code→Option Code
 | .seq (.block j x) b=>if i=j then some (.seq (.block j x) b) else fromBlk i b
 | .seq a b=>fromBlk i b
 | _=>none
theorem zjk {P:Program} {x y:Code} {Q:Exit→Act→World→Prop} {a:Act} (h:∀ K:Act→World→Prop,(∀ a w,y.wp P Q a w→K a w)→(Code.block i x).wp P (Exit.then K Q) a w):firstWp P (.seq (.block i x) y) Q a w:=h _ fun _ _ h=>h
structure SC (w:World) (p:Sb.Pt) (A:Option Addr) (l:List TW) (n c:Nat) (ZA:Option Addr) (zs:List Int) (zc:Nat):Prop where
 wf:p.wf
 q:l.map TW.w=p.jt.q
 len:l.length=n
 n5:n≤100000
 cap:n≤c
 cm:c≤maxLen
 av:Wts w w.heap.size A l
 sq:∀ a∈l,I64 a.w.m.sq
 pay:∀ a∈l,a.w.m.pl.length≤1000000
 z:IntsAt w w.heap.size .i16 ZA zs
 zb:Within (-32768) 32767 zs
 zl:zs.length=160
 v:p.valid=true
structure PkS (W:World) (n:Nat) (S:List Nat) (KA:Option Addr) (ks:List TK):Prop where
 rows:Pks W W.heap.size KA ks
 av:0<ks.length→∀ b off,KA=some ⟨b,off,none⟩→b∉S
 pay:∀ a∈ks,0<a.k.pl.length→∀ b off,a.B=some ⟨b,off,none⟩→b∉S
 new:PksN n KA ks
 cap:∀ a∈ks,a.k.ty=96→a.k.pl.length≤a.c
theorem PkS.nil {S:List Nat} : PkS W n S KA []:=⟨Pks.nil,fun h=>absurd h (by simp),(fun _ h=>by cases h),PksN.nil,fun _ h=>by cases h⟩
theorem PkS.chg {S T:List Nat} {ks:List TK} (h:PkS W n S KA ks) (hc:Chg T W W') (B:∀ x∈T,x∈S):PkS W' n S KA ks:=by
 refine ⟨⟨fun h0 => ?_,fun a A => ?_⟩,h.av,h.pay,h.new,h.cap⟩
 · obtain ⟨b,off,e,hlt,qc⟩:=h.rows.1 h0
   exact ⟨b,off,e,Nat.lt_of_lt_of_le hlt hc.size,fun i a A j v hv=>(hc.cell (p:=⟨b,off+i*11+j,none⟩) hlt (fun hb=>h.av h0 b off e (B b hb))).trans (qc i a A j v hv)⟩
 · exact hc.ints (h.rows.2 a A) (fun h0 b off e hb=>h.pay a A h0 b off e (B b hb))
theorem PkS.one {S:List Nat} {k:Sb.Pkt} (ho:Owns W base 112 11 A 1 c (pktRow k B bc)) (hp:IntsAv W S .u8 B pl) (hk:k.pl=pl) (hb:∀ x∈S,x<base) (hn:n≤base) (G:0<pl.length→∀ b off,B=some ⟨b,off,none⟩→n≤b) (H:k.ty=96→pl.length≤bc):PkS W n S A [⟨k,B,bc⟩]:=by
 have D:∀ b off,A=some ⟨b,off,none⟩→base≤b:=fun b off e=>(ho.block b (by rw [e];rfl)).1
 refine ⟨Pks.one ho hp.1 hk,fun _ b off e E => ?_,fun a C h0 b off e => ?_,⟨fun _ b off e => ?_,fun a C h0 b off e => ?_⟩,fun a C=>by
  obtain rfl:=List.mem_singleton.1 C
  intro F
  show k.pl.length≤bc
  rw [hk];exact H F⟩
 · have h1:=D b off e
   have h2:=hb b E
   omega
 · obtain rfl:=List.mem_singleton.1 C
   exact hp.2 (by rw [← hk];exact h0) b off e
 · have h1:=D b off e
   omega
 · obtain rfl:=List.mem_singleton.1 C
   exact G (by rw [← hk];exact h0) b off e
structure SS (w W:World) (gl:Nat) (p:Sb.Pt) (A:Option Addr) (n c:Nat) (l:List TW) (KA:Option Addr) (kn kc:Nat):Prop where
 m:PM W [gl,w.heap.size+1,w.heap.size] w.heap.size p A n c l
 b1:Blk W (w.heap.size+1) 45 (PA Sb.Pt.zero none 0 0)
 bl:Blk W gl 105 #[.slice KA kn kc]
 u:Bel w W
 lt:w.heap.size+1<gl
section
variable {w W W':World} {gl:Nat} {p p':Sb.Pt} {A:Option Addr} {n c:Nat} {l:List TW} {KA O3:Option Addr} {kn kc XM kc':Nat}
theorem SS.later (h:SS w W gl p A n c l KA kn kc) (hb:Below W.heap.size W W'):SS w W' gl p A n c l KA kn kc:=⟨h.m.later hb,h.b1.later hb,h.bl.later hb,h.u.later hb,h.lt⟩
theorem SS.push (h:SS w W gl p A n c l KA kn kc) (o:Obj):SS w (W.alloc o) gl p A n c l KA kn kc:=h.later ((Below.refl _ _).alloc (Nat.le_refl _) _)
theorem SS.drew (h:SS w W gl p A n c l KA kn kc):SS w W.drew gl p A n c l KA kn kc:=⟨h.m.drew,Blk.dr h.b1,Blk.dr h.bl,Bel.drew h.u,h.lt⟩
theorem SS.over (h:SS w W gl p A n c l KA kn kc) (ho:OnlyB w.heap.size W W') (hb:PB W' w.heap.size p' A n c) (B:p'.jt.q=p.jt.q):SS w W' gl p' A n c l KA kn kc:=by
 have:=h.lt
 exact ⟨h.m.over (by simp) ho p' hb B,ho.blk h.b1 (by omega),ho.blk h.bl (by omega),ho.bel h.u (Nat.le_refl _),h.lt⟩
theorem SS.set (h:SS w W gl p A n c l KA kn kc) (i:Nat) (v:Value) (hp:(PL p A n c).set i v=PL p' A n c) (B:p'.jt.q=p.jt.q):SS w (W.setCell ⟨w.heap.size,i,none⟩ v) gl p' A n c l KA kn kc:=h.over (OnlyB.setCell _ _ _ _) (h.m.box.set i v p' hp) B
theorem SS.emit (h:SS w W gl p A n c l KA kn kc) (hm:PM W' [gl,w.heap.size+1,w.heap.size] w.heap.size p' A n c l) (hl:Blk W' gl 105 #[.slice O3 XM kc']) (hc:Chg [w.heap.size,gl] W W'):SS w W' gl p' A n c l O3 XM kc':=by
 have:=h.lt
 have:=h.m.box.lt
 have:=h.u.size
 have:=h.bl.lt
 exact ⟨hm,hc.blk h.b1 (by simp;omega),hl,hc.bel h.u (by simp;omega),h.lt⟩
theorem SS.cell (h:SS w W gl p A n c l KA kn kc) (i:Nat) (v:Value) (hv:(PL p A n c)[i]? = some v):W.cell? ⟨w.heap.size,i,none⟩=some v:=h.m.box.cell i v hv
end
def FrS (g gl gq:Nat) (ZA:Option Addr) (zc:Nat) (qb:Bool) (a:Act):Prop:=Fr 139 [(1, .slice ZA 160 zc),(2, .pointer (some ⟨g,0,none⟩)),(4, .pointer (some ⟨g+1,0,none⟩)),(7, .pointer (some ⟨gl,0,none⟩)),(8, .func (.func 45) #[] #[.pointer (some ⟨gl,0,none⟩), .pointer (some ⟨g,0,none⟩)]),(9, .pointer (some ⟨gq,0,none⟩)),(10, .bool qb)] a
theorem FrS.mk {A:Bool} (h:xs.length=139:=by rfl) (B:AllL [(1, .slice ZA 160 zc),(2, .pointer (some ⟨g,0,none⟩)),(4, .pointer (some ⟨g+1,0,none⟩)),(7, .pointer (some ⟨gl,0,none⟩)),(8, .func (.func 45) #[] #[.pointer (some ⟨gl,0,none⟩), .pointer (some ⟨g,0,none⟩)]),(9, .pointer (some ⟨gq,0,none⟩)),(10, .bool A)] xs:=by exact ⟨rfl,rfl,rfl,rfl,rfl,rfl,rfl,trivial⟩):FrS g gl gq ZA zc A ⟨xs.toArray,[]⟩:=Fr.mk h B
def FrT (g gl:Nat) (a:Act):Prop:=Fr 139 [(2, .pointer (some ⟨g,0,none⟩)),(4, .pointer (some ⟨g+1,0,none⟩)),(7, .pointer (some ⟨gl,0,none⟩))] a
theorem FrT.mk (h:xs.length=139:=by rfl) (A:AllL [(2, .pointer (some ⟨g,0,none⟩)),(4, .pointer (some ⟨g+1,0,none⟩)),(7, .pointer (some ⟨gl,0,none⟩))] xs:=by exact ⟨rfl,rfl,rfl,trivial⟩):FrT g gl ⟨xs.toArray,[]⟩:=Fr.mk h A
noncomputable def sdB_code:Code:=((Tryz.f22.body.bind (fromBlk 0)).getD .skip)
noncomputable def sdT_code:Code:=((Tryz.f22.body.bind (fromReg 31)).getD .skip)
theorem zsm {zs:List Int} {R:Ending→World→Prop} (C:SC w p A l n c ZA zs zc) (V:X=PA p A n c)
 (h:∀ (W:World) (a:Act) (gl gq:Nat) (A2:Option Addr) (c2:Nat) (l2:List TW),SS w W gl p A2 n c2 l2 none 0 0→Blk W gq 28 #[.int .i64 (Ev.quiet p.below zs)]→gl<gq→FrS w.heap.size gl gq ZA zc (Ev.quiet p.below zs==10) a→firstWp Tryz.prog sdB_code (bodyPost Tryz.prog Tryz.f22 R) a W):Calls Tryz.prog 22 #[.agg X, .slice ZA 160 zc] w R:=by
 have F:=Z9 ((PB.new w X V).push (.cells (PA Sb.Pt.zero none 0 0) 45))
 have E:=Z9 (Blk.new1 w (.cells X 45) 45 (PA Sb.Pt.zero none 0 0))
 have B:=Z9 (((Bel.refl w).push (.cells X 45)).push (.cells (PA Sb.Pt.zero none 0 0) 45))
 have k1:=Z9 fun (W:World) G=>zdi p C.wf A l n c (PA p A n c) rfl W C.q C.len C.n5 G C.sq true C.v.symm
 have J:=Z9 fun (W:World) G=>zcs p.jt A l n c W C.len C.n5 G C.pay
 unfold CopyR at J
 rw [C.len] at J
 have H:∀ W:World,IntsAt W W.heap.size .i16 ZA zs→Calls Tryz.prog 46 #[.agg #[.int .i64 p.below], .slice ZA 160 zc] W fun e w'=>e = .returned (.tuple #[.agg #[.int .i64 (Ev.quiet p.below zs)], .bool (Ev.quiet p.below zs==10)])∧Below W.heap.size W w':=fun W G=>by
  have h:=zjj p.below ZA zs zc W C.wf.below.1 C.wf.below.2 G C.zb (by have:=C.zl;omega)
  rwa [C.zl] at h
 obtain ⟨L,U⟩:=nm9 (Ev.quiet p.below zs)
 rw [← U] at h H
 generalize (L==10)=Q at h H
 replace H:=Z9 H
 clear V U
 go_enter Tryz.func22,Tryz.ntmps22
 go_upto_region 1 with fail
 change Code.wp _ _ _ _ ((w.alloc (Obj.cells X 45)).alloc (Obj.cells (PA Sb.Pt.zero none 0 0) 45))
 obtain ⟨W,G⟩:=nm9 ((w.alloc (Obj.cells X 45)).alloc (Obj.cells (PA Sb.Pt.zero none 0 0) 45))
 rw [← G] at F E B ⊢
 clear G
 go_wp2_with (first|(refine zaf rfl 45 (.tmp 2) rfl (w.heap.size) 0 rfl 45 (PL p A n c) F.out 48 _ Tryz.underlying45 zai (show 0+48≤48 by decide) (PA p A n c) (by rfl) rfl ?_)|fail)
 refine (k1.out _ (C.av.later B.out)).mono ?_
 rintro e w1 ⟨rfl,D⟩
 replace B:=Z9 (B.out.later D)
 replace F:=Z9 (F.out.later D)
 replace E:=Z9 (E.out.later D)
 clear D k1
 go_upto_region 3 with fail
 go_wp2_with (first|(refine zaf rfl 37 (.tmp 29) rfl (w.heap.size) 14 rfl 45 (PL p A n c) F.out 14 _ Tryz.underlying37 zbg (show 14+14≤48 by decide) (#[.int .i64 p.jt.least, .int .i64 p.jt.most, .int .i64 p.jt.now, .bool p.jt.on, .int .i64 p.jt.zero, .int .i64 p.jt.first, .int .i64 p.jt.high, .int .i64 p.jt.done, .int .i64 p.jt.spread, .int .i64 p.jt.trans, .slice A n c, .int .i64 p.jt.late, .int .i64 p.jt.twice, .int .i64 p.jt.played]) (by rfl) rfl ?_)|fail)
 have PX:=E.out.lt
 refine (J.out _ (C.av.later B.out)).mono ?_
 rintro e w2 ⟨A2,c2,l2,rfl,g,N,D⟩
 replace B:=Z9 (B.out.later D)
 replace F:=Z9 (F.out.later D)
 replace E:=Z9 (E.out.later D)
 clear D J
 go_upto_region 4 with (first|(refine zag rfl 37 (.tmp 32) (.tmp 31) rfl (w.heap.size) 14 rfl 45 (PL p A n c) F.out (JW p.jt A2 n c2) rfl zbg (show 14+14≤48 by decide) rfl (PL p A2 n c2) rfl ?_;intro WF f M)|fail)
 have I:=Z9 (N.only M (by omega))
 have T:=Z9 (show l2.map TW.w=p.jt.q from g.trans C.q)
 replace E:=Z9 (M.blk E.out (by omega))
 replace B:=Z9 (M.bel B.out (Nat.le_refl _))
 have b:Hid (PM WF [w.heap.size+1,w.heap.size] w.heap.size p A2 n c2 l2):=Z9 ⟨f,T.out,N.len,I.out.capm.1,I.out.capm.2,QAv.of_own I.out (by intro x hx;simp at hx;omega)⟩
 clear N g f M F I T
 have t:=B.out.size
 have j:=E.out.lt
 obtain ⟨gl,P⟩:=nm9 WF.heap.size
 have o:w.heap.size+1<gl:=by omega
 have S:SS w (WF.alloc (Obj.cells #[.slice none 0 0] 105)) gl p A2 n c2 l2 none 0 0:=⟨(b.out.add (x:=gl) (by omega)).push _,E.out.push _,by rw [P];exact Blk.new WF _ _,B.out.push _,o⟩
 have y:∀ (fn:Fn) (first cap:Array Value) (w:World),(Instr.makeFunc fn first cap).run Tryz.prog w = .ok (.func fn first cap) w:=fun _ _ _ _=>rfl
 obtain ⟨W3,Z⟩:=nm9 (WF.alloc (Obj.cells #[.slice none 0 0] 105))
 go_upto_region 6 with fail
 rw [← P]
 rw [← Z] at S ⊢
 clear Z P t j b E B
 have i:=S.cell 5 _ rfl
 go_wp2_with (first|(refine zaf rfl 28 (.tmp 35) rfl (w.heap.size) 5 rfl 45 (PL p A2 n c2) S.m.box 1 _ Tryz.underlying28 zcd (show 5+1≤48 by decide) (#[.int .i64 p.below]) (by rfl) rfl ?_)|fail)
 refine (H.out _ (C.z.later S.u)).mono ?_
 rintro e w4 ⟨rfl,D⟩
 replace S:=S.later D
 clear D H i
 have d:=Z9 (Blk.new w4 28 #[.int .i64 L])
 have Y:=S.bl.lt
 replace S:=S.push (.cells #[.int .i64 L] 28)
 obtain ⟨gq,K⟩:=nm9 w4.heap.size
 obtain ⟨W5,O⟩:=nm9 (w4.alloc (Obj.cells #[.int .i64 L] 28))
 rw [← K,← O] at d
 rw [← K] at Y
 go_upto_block 0 with fail
 rw [← K]
 rw [← O] at S ⊢
 clear O K
 refine zao (by assumption) ?_
 exact h _ _ gl gq A2 c2 l2 S d.out Y FrS.mk
end
end Go.Proofs.YtbcgnddpkiemoaaGreat
