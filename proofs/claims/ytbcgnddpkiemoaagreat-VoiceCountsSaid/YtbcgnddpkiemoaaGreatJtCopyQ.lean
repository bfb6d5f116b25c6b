/- Layer 30: copyMedia. -/
import Derived.Test.YtbcgnddpkiemoaaGreatSs9Q
import Derived.Laws.CopyOwn
import Derived.Laws.Rows
import Derived.Deep.LoopGhost
import Derived.Deep.CutRange
import Derived.Deep.DeepCutAuto
import Derived.RegionCalls
import Derived.Deep.RegionWith
import Derived.Deep.RegionHeld3
import Derived.Lib.SliceRun
import Derived.Maps.OwnOps
import Derived.Maps.Views
import Derived.Laws.EntriesVeiled
import Derived.Test.YtbcgnddpkiemoaaGreatShelf
import Derived.Deep.QuietTactic
import Derived.BigQuiet
import Derived.StillTailTactics
import Derived.Laws.BitsAllLaws
set_option linter.unusedVariables false
set_option linter.unusedSimpArgs false
set_option maxRecDepth 100000
set_option maxHeartbeats 12800000
namespace Go.Proofs.YtbcgnddpkiemoaaGreat
variable {w w' wr wn W wo:World} {g base n c cn B x b off bU i Bz c' b2 gt N:Nat} {t e t5:TypeId} {bs:List Int} {A An A':Option Addr} {l:List TW} {v1 v2 v0 v v3 v4 v5 v6 v7 v8 v9 IR IQ IL v13:Value} {P:Program} {ops:Array Oper} {p ad:Addr} {xs:List Value} {src V I:Int}
section
attribute [local go_sem ↓] zab zac
attribute [local go_sem] zaa zad
open Go.RowKit
theorem zog:(Tryz.prog.info? 5).map (fun i=>(i.zero,i.size,i.bytes))=some (some (.int .u8 0),1,1):=by kernel_rfl
def u8s (l:List Int):List Value:=l.map (Value.int .u8)
theorem zrj (h:Blk w g t (u8s bs).toArray):IntsAt w w.heap.size .u8 (some ⟨g,0,none⟩) bs:=fun h0=>by
 refine ⟨g,0,rfl,h.lt,fun i hi => ?_⟩
 rw [Nat.zero_add,h.cell i]
 simp [u8s,List.getElem?_eq_getElem hi,List.getD_eq_getElem?_getD]
def MediaR (sq ti:Int) (mk:Bool) (ty:Int) (pl:List Int) (w:World) (e:Ending) (w':World):Prop :=
 ∃ (A':Option Addr) (c':Nat),e = .returned (.agg #[.int .i64 sq, .int .i64 ti, .bool mk, .int .u8 ty, .slice A' pl.length c'])∧IntsNew w.heap.size w' .u8 A' pl∧Below w.heap.size w w'∧pl.length≤c'
theorem zgt (sq ti:Int) (mk:Bool) (ty:Int) (A:Option Addr) (c:Nat) (w:World):Calls Tryz.prog 98 #[.agg #[.int .i64 sq, .int .i64 ti, .bool mk, .int .u8 ty, .slice A 0 c]] w (MediaR sq ti mk ty [] w):=by
 go_enter Tryz.func98,Tryz.ntmps98
 go_wp2_with fail
 have U:=Z9 (((Bel.refl w).push (.cells #[.int .i64 sq, .int .i64 ti, .bool mk, .int .u8 ty, .slice none 0 0] 183)).push (.cells #[.int .i64 sq, .int .i64 ti, .bool mk, .int .u8 ty, .slice none 0 0] 183))
 have B:=Z9 (Blk.new1 w (.cells #[.int .i64 sq, .int .i64 ti, .bool mk, .int .u8 ty, .slice none 0 0] 183) 183 #[.int .i64 sq, .int .i64 ti, .bool mk, .int .u8 ty, .slice none 0 0])
 exact bodyPost_ret (v := .agg #[.int .i64 sq, .int .i64 ti, .bool mk, .int .u8 ty, .slice none 0 0]) (zel Tryz.results98 rfl (run_loadVar_row (P:=Tryz.prog) _ _ _ _ _ _ _ B.out Tryz.underlying183 rfl (by kernel_rfl))) rfl ⟨none,0,rfl,IntsNew.nil,U.out,Nat.le_refl _⟩
theorem zft (sq ti:Int) (mk:Bool) (ty:Int) (A:Option Addr) (pl:List Int) (c:Nat) (w:World) (O:IntsAt w w.heap.size .u8 A pl) (hl:pl.length≤1000000) (h0:0<pl.length):Calls Tryz.prog 98 #[.agg #[.int .i64 sq, .int .i64 ti, .bool mk, .int .u8 ty, .slice A pl.length c]] w (MediaR sq ti mk ty pl w):=by
 obtain ⟨b,off,rfl,a,qc⟩:=O h0
 obtain ⟨W0,E⟩:=nm9 ((w.alloc (.cells #[.int .i64 sq, .int .i64 ti, .bool mk, .int .u8 ty, .slice (some ⟨b,off,none⟩) pl.length c] 183)).alloc (.cells #[.int .i64 0, .int .i64 0, .bool false, .int .u8 0, .slice none 0 0] 183))
 have M:=run_make_row' (P:=Tryz.prog) 69 5 (.int .u8 0) 1 Tryz.underlying69 zog rfl .i64 .i64 pl.length (by omega) (by omega) W0
 obtain ⟨cur,L⟩:∃ cur:List Value,cur=(madeCells #[.int .u8 0] pl.length).toList:=⟨_,rfl⟩
 have K:cur.length=pl.length:=by rw [L];simp [madeCells]
 have G:W0.heap.size=w.heap.size+1+1:=by rw [E];simp
 obtain ⟨W1,H⟩:=nm9 (W0.alloc (.cells (madeCells #[.int .u8 0] pl.length) 5))
 have hB:Blk W1 (w.heap.size+1+1) 5 cur.toArray:=by rw [H,L,Array.toArray_toList,← G];exact Blk.new _ _ _
 have F:Below W0.heap.size W0 W1:=by rw [H];exact (Below.refl _ _).alloc (Nat.le_refl _) _
 have N:Blk W0 w.heap.size 183 #[.int .i64 sq, .int .i64 ti, .bool mk, .int .u8 ty, .slice (some ⟨b,off,none⟩) pl.length c]:=by rw [E];exact (Blk.new w _ _).push _
 have Y:Blk W0 (w.heap.size+1) 183 #[.int .i64 0, .int .i64 0, .bool false, .int .u8 0, .slice none 0 0]:=by rw [E];exact Blk.new1 w _ _ _
 have J:Bel w W0:=by rw [E];exact ((Bel.refl w).push _).push _
 rw [← H,G] at M
 have d:¬pl.length=0:=by omega
 have Dd:¬pl=[]:=by intro h5;rw [h5] at d;exact d rfl
 have It:(0:Int)<(pl.length:Int):=by omega
 have X:splice cur 0 (u8s pl)=u8s pl:=by simp [splice,u8s,K]
 have T:Bel w W1:=J.later F
 have HC:∀ j v,(u8s pl)[j]? = some v→W1.cell? ((⟨b,off,none⟩:Addr).add j)=some v:=by
  intro j v hv
  have I:j<pl.length:=by
   have:=(List.getElem?_eq_some_iff.1 hv).1
   simpa [u8s] using this
  have:=(T.cell (p:=⟨b,off+j,none⟩) a).trans (qc j I)
  rw [show ((⟨b,off,none⟩:Addr).add j)=⟨b,off+j,none⟩ by simp [Addr.add],this]
  simp [u8s,List.getElem?_eq_getElem I] at hv
  rw [← hv];simp [List.getD_eq_getElem?_getD,List.getElem?_eq_getElem I]
 have x4:=(N.later F).at 4 _ rfl
 have l:=Z9 HC
 have y:=Z9 hB
 have x:=Z9 F
 have Q:=Z9 X
 have t:=Z9 K
 have D:=Z9 N
 have C:=Z9 Y
 have W:=Z9 J
 have i:=Z9 G
 have f:=M
 rw [E] at f
 clear HC hB F X qc O K N Y J T G H L M
 go_enter Tryz.func98,Tryz.ntmps98
 go_wp2_with (refine wpList_copy_splice (o := ⟨some 15, _, _, _, _, _⟩) rfl (.tmp 12) (.tmp 14) 69 69 rfl 5 Tryz.underlying69 (by kernel_rfl) _ _ _ _ _ _ rfl rfl (w.heap.size + 1 + 1) 0 cur 5 y.out (u8s pl) (by simp [u8s]) (fun _ => ⟨rfl, _, rfl, l.out⟩) (by rw [t.out]; simp [u8s]) (by intro v hv; simp [u8s] at hv; obtain ⟨z, _, rfl⟩ := hv; rfl) W0.heap.size W0 x.out (by rw [i.out]; exact Nat.le_refl _) ?_
              intro w2 V B
              have Cl:=(D.out.later B).frozen
              have x0:=(D.out.later B).at 0 _ rfl
              have x1:=(D.out.later B).at 1 _ rfl
              have x2:=(D.out.later B).at 2 _ rfl
              have x3:=(D.out.later B).at 3 _ rfl
              have h:=(D.out.later B).at 4 _ rfl
              have zz:=(C.out.later B).frozen
              have y0:=(C.out.later B).at 0 _ rfl
              have y1:=(C.out.later B).at 1 _ rfl
              have y2:=(C.out.later B).at 2 _ rfl
              have y3:=(C.out.later B).at 3 _ rfl
              have y4:=(C.out.later B).at 4 _ rfl)
 rw [Q.out] at V
 have Z:=Blk.setRow ((C.out.later B).far (p:=⟨w.heap.size,4,none⟩) (by simp) (.slice (some ⟨w.heap.size+1+1,0,none⟩) pl.length pl.length)) [.int .i64 sq, .int .i64 ti, .bool mk, .int .u8 ty, .slice (some ⟨w.heap.size+1+1,0,none⟩) pl.length pl.length] rfl
 have u:IntsNew (w.heap.size+1+1) w2 .u8 (some ⟨w.heap.size+1+1,0,none⟩) pl:=⟨zrj V.out,fun _ b' Bx e=>by cases e;exact Nat.le_refl _⟩
 have U:=(IntsNew.setRow (g:=w.heap.size+1) (n:=w.heap.size+1+1) (by omega) [.int .i64 sq, .int .i64 ti, .bool mk, .int .u8 ty, .slice (some ⟨w.heap.size+1+1,0,none⟩) pl.length pl.length] _ 0 (u.setCell (p:=⟨w.heap.size,4,none⟩) (by simp;omega) (.slice (some ⟨w.heap.size+1+1,0,none⟩) pl.length pl.length))).less (m:=w.heap.size) (by omega)
 have R:=below_setRow (g:=w.heap.size+1) (by omega) [.int .i64 sq, .int .i64 ti, .bool mk, .int .u8 ty, .slice (some ⟨w.heap.size+1+1,0,none⟩) pl.length pl.length] _ 0 (zah (p:=⟨w.heap.size,4,none⟩) (W.out.later B) (Nat.le_refl _) (.slice (some ⟨w.heap.size+1+1,0,none⟩) pl.length pl.length))
 simp only [setRow,Nat.zero_add,Nat.reduceAdd] at Z U R
 exact bodyPost_ret (v := .agg #[.int .i64 sq, .int .i64 ti, .bool mk, .int .u8 ty, .slice (some ⟨w.heap.size+1+1,0,none⟩) pl.length pl.length]) (zel Tryz.results98 rfl (run_loadVar_row (P:=Tryz.prog) _ _ _ _ _ _ _ Z Tryz.underlying183 rfl (by kernel_rfl))) rfl ⟨_,_,rfl,U,R,Nat.le_refl _⟩
theorem zdd (sq ti:Int) (mk:Bool) (ty:Int) (A:Option Addr) (pl:List Int) (n c:Nat) (w:World) (B:Nat) (hB:B≤w.heap.size) (C:IntsAt w B .u8 A pl) (hl:n≤1000000) (hn:pl.length=n):Calls Tryz.prog 98 #[.agg #[.int .i64 sq, .int .i64 ti, .bool mk, .int .u8 ty, .slice A n c]] w (MediaR sq ti mk ty pl w):=by
 subst hn
 by_cases h0:pl.length=0
 · obtain rfl:=List.eq_nil_of_length_eq_zero h0
   exact zgt sq ti mk ty A c w
 · exact zft sq ti mk ty A pl c w (C.more hB) hl (by omega)
theorem zrk (a0 s0 t0 A:Int) (B:Bool) (C:Option Addr) (n0 c0:Nat) (g:Nat) (now:Int) (w:World) (hg:w.cell? ⟨g,0,none⟩=some (.int .i64 now)) (hlt:g<w.heap.size):Calls Tryz.prog 126 #[.agg #[.int .i64 a0, .int .i64 s0, .int .i64 t0, .bool B, .int .u8 A, .slice C n0 c0], .pointer (some ⟨g,0,none⟩)] w fun e w'=>e = .returned (.bool (decide (now<a0)))∧Below w.heap.size w w':=by
 have D:¬g=w.heap.size:=by omega
 go_enter Tryz.func126,Tryz.ntmps126
 go_wp2_with fail
 go_ret
 exact ⟨by first|rfl|simp,(Below.refl _ _).alloc (Nat.le_refl _) _⟩
def firstLate (now:Int) (q:List Jb.Wt):Int:=if (Jb.due now q).length=q.length then -1 else ((Jb.due now q).length:Int)
theorem zkt (now:Int):∀ q:List Jb.Wt,(∀ x∈q,x.at_≤now)→Jb.due now q=q
 | [],_=>rfl
 | a :: q, h => by
   unfold Jb.due
   rw [List.takeWhile_cons,if_pos (by simpa using h a List.mem_cons_self)]
   have:=zkt now q (fun x hx=>h x (List.mem_cons_of_mem _ hx))
   unfold Jb.due at this
   rw [this]
theorem ztz (now:Int):∀ (q:List Jb.Wt) (k:Nat) (a:Jb.Wt),q[k]? = some a→(∀ x∈q.take k,x.at_≤now)→now<a.at_→(Jb.due now q).length=k∧k<q.length
 | [],k,a,h,_,_=>by simp at h
 | b :: q, 0, a, h, _, h2 => by
   simp at h
   subst h
   unfold Jb.due
   rw [List.takeWhile_cons,if_neg (by simpa using h2)]
   simp
 | b :: q, k + 1, a, h, h1, h2 => by
   have hb:=h1 b (by simp)
   obtain ⟨A,B⟩:=ztz now q k a (by simpa using h) (fun x hx=>h1 x (by simp;exact Or.inr hx)) h2
   unfold Jb.due at A ⊢
   rw [List.takeWhile_cons,if_pos (by simpa using hb)]
   simp [A]
   omega
theorem zoh (A:Option Addr) (l:List TW) (n c:Nat) (g:Nat) (now:Int) (w:World) (hn:l.length=n) (hl:n≤1000000) (H:Wts w w.heap.size A l) (hg:w.cell? ⟨g,0,none⟩=some (.int .i64 now)) (hlt:g<w.heap.size):Calls Tryz.prog 125 #[.slice A n c, .func (Fn.func 126) #[] #[.pointer (some ⟨g,0,none⟩)]] w fun e w'=>e = .returned (.int .i64 (firstLate now (l.map TW.w)))∧Below w.heap.size w w':=by
 subst hn
 have O:=Z9 H
 have M:=Z9 hg
 obtain ⟨R,F⟩:=nm9 (firstLate now (l.map TW.w))
 rw [← F]
 have HR:=Z9 F
 clear H hg F
 go_enter Tryz.func125,Tryz.ntmps125
 go_wp2_with fail
 go_loopg [8] l.length (fun gk i wr => ∃ k:Nat,gk+k=l.length∧i = .int .i64 k∧Hid (∀ x∈(l.map TW.w).take k,x.at_≤now)∧Hid (Bel w wr))
 case atStart=>exact ⟨0,rfl,rfl,Z9 (fun x hx=>by simp at hx),Z9 (Bel.refl w)⟩
 case round =>
  obtain ⟨k,j,rfl,G,U⟩:=hrel
  have o:(0:Int)≤(k:Int):=by omega
  by_cases hk:k<l.length
  rotate_left
  · obtain rfl:k=l.length:=by omega
    have P:(l.length:Int)≤(l.length:Int):=Int.le_refl _
    have J:=G.out
    rw [List.take_of_length_le (by simp)] at J
    have hv:R = -1:=by rw [HR.out];unfold firstLate;rw [zkt now _ J,if_pos rfl]
    subst hv
    go_wp2_with fail
    go_ret
    exact ⟨rfl,U.out⟩
  have P:(k:Int)<(l.length:Int):=by omega
  obtain ⟨a,E⟩:∃ a,l[k]? = some a:=⟨_,List.getElem?_eq_getElem hk⟩
  obtain ⟨b,off,rfl,t,h,f,d,Z,Y,X⟩:=zes (O.out.1.keep (fun p hp=>U.out.cell hp)) E
  have V:=(U.out.cell (p:=⟨g,0,none⟩) hlt).trans M.out
  have T:g<wr.heap.size:=Nat.lt_of_lt_of_le hlt U.out.size
  have k1:=zrk a.w.at_ a.w.m.sq a.w.m.ti a.w.m.ty a.w.m.mrk a.B a.w.m.pl.length a.c g now wr V T
  have hm:(l.map TW.w)[k]? = some a.w:=by rw [List.getElem?_map,E];rfl
  have I:=Z9 hm
  have C:=Z9 k1
  clear E hm k1
  by_cases hd:now<a.w.at_
  · have hb:decide (now<a.w.at_)=true:=by simpa using hd
    obtain ⟨d1,K⟩:=ztz now _ k a.w I.out G.out hd
    have hv:R=(k:Int):=by rw [HR.out];unfold firstLate;rw [d1,if_neg (by omega)]
    subst hv
    rw [hb] at C
    clear hd hb d1 K
    go_wp2_with fail
    refine (C.out).mono ?_
    rintro e w1 ⟨rfl,D⟩
    go_wp2_with fail
    go_ret
    exact ⟨rfl,U.out.later D⟩
  · have hb:decide (now<a.w.at_)=false:=by simpa using hd
    rw [hb] at C
    have N:=Z9 hd
    clear hd hb
    go_wp2_with fail
    refine (C.out).mono ?_
    rintro e w1 ⟨rfl,D⟩
    have L:=Z9 (U.out.later D)
    clear D
    go_wp2_with fail
    go_roundg (gk-1)
    case measure=>omega
    case rel =>
     refine ⟨k+1,by omega,by go_num,Z9 (fun x hx => ?_),L⟩
     rw [List.take_add_one,I.out] at hx
     rcases List.mem_append.1 hx with hx|hx
     · exact G.out x hx
     · simp at hx
       subst hx
       have:=N.out
       omega
theorem zrl (a0 s0 t0 A:Int) (B:Bool) (C:Option Addr) (n0 c0:Nat) (g:Nat) (sq:Int) (w:World) (hg:w.cell? ⟨g,0,none⟩=some (.int .i64 sq)) (hlt:g<w.heap.size):Calls Tryz.prog 94 #[.agg #[.int .i64 a0, .int .i64 s0, .int .i64 t0, .bool B, .int .u8 A, .slice C n0 c0], .pointer (some ⟨g,0,none⟩)] w fun e w'=>e = .returned (.bool (s0==sq))∧Below w.heap.size w w':=by
 have D:¬g=w.heap.size:=by omega
 go_enter Tryz.func94,Tryz.ntmps94
 go_wp2_with fail
 go_ret
 exact ⟨by first|rfl|simp,(Below.refl _ _).alloc (Nat.le_refl _) _⟩
def AtLeast (b:Bool) (w:World) (e:Ending) (w':World):Prop:=∃ r:Int,e = .returned (.int .i64 r)∧decide (0≤r)=b∧Below w.heap.size w w'
theorem zlv (A:Option Addr) (l:List TW) (n c:Nat) (g:Nat) (sq:Int) (w:World) (hn:l.length=n) (hl:n≤1000000) (I:Wts w w.heap.size A l) (hg:w.cell? ⟨g,0,none⟩=some (.int .i64 sq)) (hlt:g<w.heap.size):Calls Tryz.prog 125 #[.slice A n c, .func (Fn.func 94) #[] #[.pointer (some ⟨g,0,none⟩)]] w (AtLeast ((l.map TW.w).any fun x=>x.m.sq==sq) w):=by
 subst hn
 have M:=Z9 I
 have L:=Z9 hg
 obtain ⟨R,H⟩:=nm9 ((l.map TW.w).any fun x=>x.m.sq==sq)
 rw [← H]
 have HR:=Z9 H
 clear I hg H
 go_enter Tryz.func125,Tryz.ntmps125
 go_wp2_with fail
 go_loopg [8] l.length (fun gk i wr => ∃ k:Nat,gk+k=l.length∧i = .int .i64 k∧Hid (R=((l.map TW.w).drop k).any fun x=>x.m.sq==sq)∧Hid (Bel w wr))
 case atStart=>exact ⟨0,rfl,rfl,Z9 (by rw [List.drop_zero];exact HR.out),Z9 (Bel.refl w)⟩
 case round =>
  clear HR
  obtain ⟨k,f,rfl,C,U⟩:=hrel
  have h:(0:Int)≤(k:Int):=by omega
  by_cases hk:k<l.length
  rotate_left
  · obtain rfl:k=l.length:=by omega
    have N:(l.length:Int)≤(l.length:Int):=Int.le_refl _
    have hv:R=false:=by rw [C.out,List.drop_eq_nil_of_le (by simp)];rfl
    subst hv
    go_wp2_with fail
    go_ret
    exact ⟨-1,rfl,rfl,U.out⟩
  have N:(k:Int)<(l.length:Int):=by omega
  obtain ⟨a,G⟩:∃ a,l[k]? = some a:=⟨_,List.getElem?_eq_getElem hk⟩
  obtain ⟨b,off,rfl,j,d,Z,Y,X,V,T⟩:=zes (M.out.1.keep (fun p hp=>U.out.cell hp)) G
  have P:=(U.out.cell (p:=⟨g,0,none⟩) hlt).trans L.out
  have O:g<wr.heap.size:=Nat.lt_of_lt_of_le hlt U.out.size
  have k1:=zrl a.w.at_ a.w.m.sq a.w.m.ti a.w.m.ty a.w.m.mrk a.B a.w.m.pl.length a.c g sq wr P O
  have hd:(l.map TW.w).drop k=a.w::(l.map TW.w).drop (k+1):=by
   have hm:(l.map TW.w)[k]? = some a.w:=by rw [List.getElem?_map,G];rfl
   obtain ⟨h1,h2⟩:=List.getElem?_eq_some_iff.1 hm
   rw [List.drop_eq_getElem_cons h1,h2]
  have E:=Z9 hd
  have D:=Z9 k1
  clear G hd k1
  cases hb:(a.w.m.sq==sq)
  · rw [hb] at D
    have K:Hid (R=((l.map TW.w).drop (k+1)).any fun x=>x.m.sq==sq):=Z9 (by rw [C.out,E.out,List.any_cons,hb,Bool.false_or])
    clear hb C E
    go_wp2_with fail
    refine (D.out).mono ?_
    rintro e w1 ⟨rfl,F⟩
    have J:=Z9 (U.out.later F)
    clear F
    go_wp2_with fail
    go_roundg (gk-1)
    case measure=>omega
    case rel=>exact ⟨k+1,by omega,by go_num,K,J⟩
  · rw [hb] at D
    have hv:R=true:=by rw [C.out,E.out,List.any_cons,hb,Bool.true_or]
    subst hv
    clear hb C E
    go_wp2_with fail
    refine (D.out).mono ?_
    rintro e w1 ⟨rfl,F⟩
    go_wp2_with fail
    go_ret
    exact ⟨(k:Int),rfl,by simp,U.out.later F⟩
theorem zhs (A:Option Addr) (l:List TW) (n c:Nat) (g:Nat) (sq:Int) (w:World) (hn:l.length=n) (hl:n≤1000000) (B:Wts w w.heap.size A l) (hg:w.cell? ⟨g,0,none⟩=some (.int .i64 sq)) (hlt:g<w.heap.size):Calls Tryz.prog 95 #[.slice A n c, .func (Fn.func 94) #[] #[.pointer (some ⟨g,0,none⟩)]] w fun e w'=>e = .returned (.bool ((l.map TW.w).any fun x=>x.m.sq==sq))∧Below w.heap.size w w':=by
 have k1:=Z9 (zlv A l n c g sq w hn hl B hg hlt)
 generalize ((l.map TW.w).any fun x=>x.m.sq==sq)=R at *
 clear B hg
 go_enter Tryz.func95,Tryz.ntmps95
 go_wp2_with fail
 refine k1.out.mono ?_
 rintro e w1 ⟨r,rfl,hr,hb⟩
 go_wp2_with fail
 go_ret
 first|exact ⟨rfl,hb⟩|exact ⟨zup hr,hb⟩
theorem zoi:(Tryz.prog.info? 220).map (fun i=>(i.zero,i.size,i.bytes))=some (some (.agg #[.int .i64 0, .int .i64 0, .int .i64 0, .bool false, .int .u8 0, .slice none 0 0]),6,56):=by kernel_rfl
structure QOwn (w:World) (base:Nat) (A:Option Addr) (n c:Nat) (l:List TW):Prop where
 len:l.length=n
 own:Owns w base 220 6 A n c (l.flatMap TW.row)
 pay:∀ a∈l,IntsAt w w.heap.size .u8 a.B a.w.m.pl
 far:∀ a∈l,0<a.w.m.pl.length→∀ b off,a.B=some ⟨b,off,none⟩→some b≠ownB A
 new:∀ a∈l,0<a.w.m.pl.length→∀ b off,a.B=some ⟨b,off,none⟩→base≤b
 cap:∀ a∈l,a.w.m.pl.length≤a.c
theorem QOwn.nil: QOwn w base none 0 0 []:=⟨rfl,Owns.nil,(fun _ h=>by cases h),(fun _ h=>by cases h),(fun _ h=>by cases h),(fun _ h=>by cases h)⟩
theorem QOwn.below (h:QOwn w base A n c l) (hb:Below w.heap.size w w'):QOwn w' base A n c l :=
 ⟨h.len,h.own.below hb,fun a B=>(h.pay a B).later hb,h.far,h.new,h.cap⟩
theorem QOwn.step {v1 v2:World} {k:Nat} {a:TW} (h:QOwn wr base A k c l) (V:base≤wr.heap.size) (hb:Below wr.heap.size wr v1) (G:Below v1.heap.size v1 v2) (hg:v2.grownBy wn (ownB A))
 (K:Owns wn base 220 6 An (k+1) cn (l.flatMap TW.row++a.row)) (J:ownB An=ownB A∨∀ g,ownB An=some g→v2.heap.size≤g) (E:IntsNew wr.heap.size v1 .u8 a.B a.w.m.pl) (P:a.w.m.pl.length≤a.c):QOwn wn base An (k+1) cn (l ++ [a]):=by
 have s1:=hb.size
 have U:=G.size
 have T:=hg.size
 have H:∀ g,ownB A=some g→g<wr.heap.size:=fun g O=>(h.own.block g O).2
 have I:∀ (x:TW),IntsAt v2 v2.heap.size .u8 x.B x.w.m.pl→(0<x.w.m.pl.length→∀ b off,x.B=some ⟨b,off,none⟩→some b≠ownB A)→IntsAt wn wn.heap.size .u8 x.B x.w.m.pl:=by
  intro x hx hf h0
  obtain ⟨b,off,e,hlt,hc⟩:=hx h0
  exact ⟨b,off,e,by omega,fun i hi=>hg.cell (hc i hi) (hf h0 b off e)⟩
 have F:∀ b off,0<a.w.m.pl.length→a.B=some ⟨b,off,none⟩→wr.heap.size≤b∧b<v1.heap.size:=by
  intro b off h0 e
  refine ⟨E.2 h0 b off e,?_⟩
  obtain ⟨N,R,C,hlt,_⟩:=E.1 h0
  rw [e] at C
  injection C with C
  injection C with M _
  omega
 have L:∀ x∈l,∀ b off,0<x.w.m.pl.length→x.B=some ⟨b,off,none⟩→b<wr.heap.size:=by
  intro x hx b off h0 e
  obtain ⟨N,R,C,hlt,_⟩:=h.pay x hx h0
  rw [e] at C
  injection C with C
  injection C with M _
  omega
 refine ⟨by simp [h.len],by rw [List.flatMap_append];simpa using K,fun x hx => ?_,fun x hx h0 b off e => ?_,fun x hx h0 b off e => ?_,fun x hx => ?_⟩
 · rcases List.mem_append.1 hx with hx|hx
   · exact I x (((h.pay x hx).later hb).later G) (h.far x hx)
   · obtain rfl:=List.mem_singleton.1 hx
     refine I x (E.1.later G) (fun h0 b off e he => ?_)
     have:=F b off h0 e
     have:=H b he.symm
     omega
 · rcases List.mem_append.1 hx with hx|hx
   · rcases J with D|D
     · rw [D];exact h.far x hx h0 b off e
     · intro he
       have:=L x hx b off h0 e
       have:=D b he.symm
       omega
   · obtain rfl:=List.mem_singleton.1 hx
     have:=F b off h0 e
     rcases J with D|D
     · rw [D]
       intro he
       have:=H b he.symm
       omega
     · intro he
       have:=D b he.symm
       omega
 · rcases List.mem_append.1 hx with hx|hx
   · exact h.new x hx h0 b off e
   · obtain rfl:=List.mem_singleton.1 hx
     have:=F b off h0 e
     omega
 · rcases List.mem_append.1 hx with hx|hx
   · exact h.cap x hx
   · obtain rfl:=List.mem_singleton.1 hx
     exact P
theorem QOwn.wts (h:QOwn w base A n c l):Wts w w.heap.size A l:=by
 refine ⟨?_,h.pay⟩
 exact Owns.rows h.own h.len (fun a=>rfl)
theorem zew {o:Oper} {a:Act} {K:Act→World→Prop} {Q:Exit→Act→World→Prop} {E:Prop} (d:Tmp) (I:o.guard=none) (hd:o.dst=some d) (s x:Operand) (t:TypeId)
 (ho:o.op = .call { callee := .builtin .append,args := #[s,x],argTypes := #[t,t] })
 (base:Nat) (e:TypeId) (size bytes:Nat) (z:Value) (ht:P.underlying t=some (.slice e)) (O:(P.info? e).map (fun i=>(i.zero,i.size,i.bytes))=some (some z,size,bytes))
 (J:z.cells.size=size) (R:0<size) (A:Option Addr) (n c:Nat) (xs:List Value) (hs:a.eval s = .slice A n c) (F:Owns w base e size A n c xs)
 (B:Nat) (cs:List Value) (hl:cs.length=size) (h1:∀ u∈cs,u.oneCell'=true) (hx:a.eval x = .slice (some ⟨B,0,none⟩) 1 1) (hb:Blk w B e cs.toArray)
 (G:n+1≤maxLen) (T:(n+1)*bytes≤140737488355328) (U:base≤w.heap.size)
 (h:∀ (A':Option Addr) (c':Nat) (w':World),Owns w' base e size A' (n+1) c' (xs++cs)→w.grownBy w' (ownB A)→(ownB A'=ownB A∨∀ g,ownB A'=some g→w.heap.size≤g)→K (a.put (some d) (.slice A' (n+1) c')) w') :
 if Region.wanted o (yielded ops a.tmps)=true then Oper.wp P o a w K Q else E:=by
 obtain ⟨i,hi,L,H,N⟩:=info_parts O
 refine step_append_lies w I s x t ho base e i z size bytes ht hi L H N J R _ n xs hs F ⟨B,0,none⟩ 1 1 cs hx (by omega) ?_ h1 (by omega) G T U _ rfl ?_
 · intro j u hu
   exact World.news_of_block hb j u (by simpa using hu)
 · intro g cap w' M hg D hlt
   rw [zbr] at hg D
   rw [hd]
   refine h _ _ w' M hg ?_
   rcases D with e|e
   · exact .inl e.symm
   · refine .inr fun g' C => ?_
     injection C with C
     rw [← C,e];exact Nat.le_refl _
def QueueR (l:List TW) (w:World) (e:Ending) (w':World):Prop :=
 ∃ (A':Option Addr) (c':Nat) (l':List TW),e = .returned (.slice A' l.length c')∧l'.map TW.w=l.map TW.w∧QOwn w' w.heap.size A' l.length c' l'∧Below w.heap.size w w'
theorem zgu (A:Option Addr) (l:List TW) (n c:Nat) (w:World) (hn:l.length=n) (hl:n≤100000) (J:Wts w w.heap.size A l) (hp:∀ a∈l,a.w.m.pl.length≤1000000):Calls Tryz.prog 127 #[.slice A n c] w (QueueR l w):=by
 subst hn
 have O:=Z9 J
 have y:=Z9 hp
 clear J hp
 go_enter Tryz.func127,Tryz.ntmps127
 go_wp2_with fail
 go_loopg [3,8] l.length (fun gk V i wr => ∃ (k:Nat) (A':Option Addr) (c':Nat) (l':List TW),gk+k=l.length∧V = .slice A' k c'∧i = .int .i64 k∧Hid (l'.map TW.w=(l.map TW.w).take k)∧Hid (QOwn wr w.heap.size A' k c' l')∧Hid (Bel w wr))
 case atStart=>exact ⟨0,none,0,[],rfl,rfl,rfl,Z9 rfl,Z9 QOwn.nil,Z9 (Bel.refl w)⟩
 case round =>
  obtain ⟨k,A',c',l',Xf,rfl,rfl,N,E,U⟩:=hrel
  have Ct:(0:Int)≤(k:Int):=by omega
  by_cases hk:k<l.length
  rotate_left
  · obtain rfl:k=l.length:=by omega
    have z:(l.length:Int)≤(l.length:Int):=Int.le_refl _
    go_wp2_with fail
    go_ret
    exact ⟨A',c',l',rfl,by rw [N.out,List.take_of_length_le (by simp)],E.out,U.out⟩
  have z:(k:Int)<(l.length:Int):=by omega
  obtain ⟨a,C⟩:∃ a,l[k]? = some a:=⟨_,List.getElem?_eq_getElem hk⟩
  obtain ⟨b,off,rfl,Bb,o,j,h,f,d,Z⟩:=zes (O.out.1.keep (fun p hp=>U.out.cell hp)) C
  have K:=y.out a (List.mem_of_getElem? C)
  have F:=(O.out.2 a (List.mem_of_getElem? C)).keep (w':=wr) (fun p hp=>U.out.cell hp)
  have hm:(l.map TW.w)[k]? = some a.w:=by rw [List.getElem?_map,C];rfl
  have M:=Z9 hm
  obtain ⟨⟨at0,⟨sq0,ti0,B,ty0,pl0⟩⟩,G,c0⟩:=a
  simp only at o j h f d Z K F M
  have W:=Z9 ((Blk.new wr 220 #[.int .i64 at0, .int .i64 sq0, .int .i64 ti0, .bool B, .int .u8 ty0, .slice G pl0.length c0]).drew)
  have t:=Z9 (((Bel.refl wr).push (.cells #[.int .i64 at0, .int .i64 sq0, .int .i64 ti0, .bool B, .int .u8 ty0, .slice G pl0.length c0] 220)).drewN 1)
  have P:=U.out.size
  have x:=Z9 F
  clear C hm F
  go_wp2_with fail
  go_region_law (first
   | (refine zew 20 (by rfl) (by rfl) _ _ 35 (by rfl) w.heap.size 220 6 56 _ Tryz.underlying35 zoi rfl (by decide) A' k c' _ (by rfl) (Owns.alloc u _) v1.heap.size [.int .i64 at0, .int .i64 sq0, .int .i64 ti0, .bool B, .int .u8 ty0, .slice I pl0.length c9] rfl (by simp [Value.oneCell']) (by rfl) (Blk.new v1 _ _) (by unfold maxLen;omega) (by omega) (by simp;omega) ?_;intro An cn wn X R Ar)
   | (go_simp;go_at_call 98;refine (zdd sq0 ti0 B ty0 G pl0 pl0.length c0 _ w.heap.size (by simp;omega) ((x.out.alloc P _).drew) K rfl).mono ?_;rintro e v1 ⟨I,c9,rfl,v,D,Y⟩;have u:=((E.out.own.alloc _).drew).below D;have b0:=(W.out.later D).at 0 _ rfl;have Ak:=D.size;have T:w.heap.size≤v1.heap.size:=by simp at Ak;omega))
  all_goals
   go_wp2_with fail
   go_roundg (gk-1)
   case measure=>omega
   case rel =>
    have L:Below wr.heap.size wr v1:=t.out.later D
    have Q:=v.less (m:=wr.heap.size) (by simp)
    have H:=(Below.refl v1.heap.size v1).alloc (Nat.le_refl _) (.cells #[.int .i64 at0, .int .i64 sq0, .int .i64 ti0, .bool B, .int .u8 ty0, .slice I pl0.length c9] 220)
    refine ⟨k+1,An,cn,l' ++ [⟨⟨at0,⟨sq0,ti0,B,ty0,pl0⟩⟩,I,c9⟩],by omega,rfl,by go_num,Z9 ?_,Z9 ?_,Z9 ?_⟩
    · rw [List.map_append,N.out,List.take_add_one,M.out];rfl
    · exact E.out.step P L H R (by simpa [TW.row] using X) Ar Q Y
    · exact (((U.out.later L).later H).grown R (Nat.le_trans T H.size) fun g e=>(E.out.own.block g e).1)
end
section
open Go.RowKit
structure Chg (S:List Nat) (w w':World):Prop where
 os:w'.os=w.os
 tape:w'.tape=w.tape
 output:w'.output=w.output
 size:w.heap.size≤w'.heap.size
 block:∀ k,k<w.heap.size→k∉S→w'.heap[k]? = w.heap[k]?
section
variable {S T:List Nat} {w w' w'':World} {g:Nat}
theorem Chg.refl (S:List Nat) (w:World):Chg S w w:=⟨rfl,rfl,rfl,Nat.le_refl _,fun _ _ _=>rfl⟩
theorem Chg.trans (h:Chg S w w') (h2:Chg S w' w''):Chg S w w'':=⟨h2.os.trans h.os,h2.tape.trans h.tape,h2.output.trans h.output,Nat.le_trans h.size h2.size,fun k hk hn=>(h2.block k (Nat.lt_of_lt_of_le hk h.size) hn).trans (h.block k hk hn)⟩
theorem Chg.of_below (hb:Below w.heap.size w w'):Chg S w w':=⟨hb.os,hb.tape,hb.output,hb.size,fun k hk _=>hb.block k hk⟩
theorem Chg.of_only (h:OnlyB g w w') (hg:g∈S):Chg S w w':=⟨h.1.os,h.1.tape,h.1.output,h.1.size,fun k hk hn=>h.1.block k hk (fun e=>hn (by injection e with e;rw [e];exact hg))⟩
theorem Chg.of_grown {row:Option Nat} (h:w.grownBy w' row) (hr:∀ k,row=some k→k∈S∨w.heap.size≤k):Chg S w w':=⟨h.os,h.tape,h.output,h.size,fun k hk hn=>h.block k hk (fun e=>by rcases hr k e.symm with h1|h1;exact hn h1;omega)⟩
theorem Chg.more (h:Chg S w w') (hs:∀ k∈S,k∈T):Chg T w w':=⟨h.os,h.tape,h.output,h.size,fun k hk hn=>h.block k hk (fun e=>hn (hs k e))⟩
theorem Chg.less (h:Chg (g::S) w w') (hg:w.heap.size≤g):Chg S w w':=⟨h.os,h.tape,h.output,h.size,fun k hk hn=>h.block k hk (fun e=>by rcases List.mem_cons.1 e with e|e;omega;exact hn e)⟩
theorem Chg.alloc (S:List Nat) (w:World) (o:Obj):Chg S w (w.alloc o):=Chg.of_below ((Below.refl _ _).alloc (Nat.le_refl _) _)
theorem Chg.push (h:Chg S w w') (o:Obj):Chg S w (w'.alloc o):=h.trans (Chg.alloc S w' o)
theorem Chg.drew (h:Chg S w w'):Chg S w w'.drew:=⟨h.os,h.tape,h.output,h.size,h.block⟩
theorem Chg.drewN (h:Chg S w w') (n:Nat):Chg S w (w'.drewN n):=⟨h.os,h.tape,h.output,h.size,h.block⟩
theorem Chg.below (h:Chg [] w w'):Below w.heap.size w w':=⟨h.os,h.tape,h.output,h.size,fun k hk=>h.block k hk (by simp)⟩
theorem Chg.bel (h:Chg S w w') (hb:Bel W w) (hs:∀ k∈S,W.heap.size≤k):Bel W w' :=
 ⟨h.os.trans hb.os,h.tape.trans hb.tape,h.output.trans hb.output,Nat.le_trans hb.size h.size,fun k hk=>(h.block k (Nat.lt_of_lt_of_le hk hb.size) (fun e=>by have:=hs k e;omega)).trans (hb.block k hk)⟩
theorem Chg.blk {cs:Array Value} (h:Chg S w w') (hb:Blk w g t cs) (hg:g∉S):Blk w' g t cs:=(h.block g hb.lt hg).trans hb
theorem Chg.cell (h:Chg S w w') (hlt:p.block<w.heap.size) (hp:p.block∉S):w'.cell? p=w.cell? p:=by unfold World.cell?;rw [h.block p.block hlt hp]
theorem Chg.ints {k:IntKind} {zs:List Int} (h:Chg S w w') (hi:IntsAt w w.heap.size k A zs) (hn:0<zs.length→∀ b off,A=some ⟨b,off,none⟩→b∉S):IntsAt w' w'.heap.size k A zs:=fun h0=>by
 obtain ⟨b,off,e,hlt,hc⟩:=hi h0
 exact ⟨b,off,e,Nat.lt_of_lt_of_le hlt h.size,fun i hi'=>(h.cell (p:=⟨b,off+i,none⟩) hlt (hn h0 b off e)).trans (hc i hi')⟩
theorem Chg.owns {size:Nat} (h:Chg S w w') (ho:Owns w base e size A n c xs) (hn:∀ k,ownB A=some k→k∉S):Owns w' base e size A n c xs :=
 ho.of_block (fun k hk=>h.block k (ho.block k hk).2 (hn k hk))
end
def IntsAv (W:World) (S:List Nat) (k:IntKind) (A:Option Addr) (zs:List Int):Prop:=IntsAt W W.heap.size k A zs∧(0<zs.length→∀ b off,A=some ⟨b,off,none⟩→b∉S)
section
variable {S T:List Nat} {W W':World} {k:IntKind} {A:Option Addr} {zs:List Int}
theorem IntsAv.nil:IntsAv W S k A []:=⟨IntsAt.nil,fun h=>absurd h (by simp)⟩
theorem IntsAv.chg (h:IntsAv W S k A zs) (hc:Chg T W W') (hs:∀ x∈T,x∈S):IntsAv W' S k A zs:=⟨hc.ints h.1 (fun h0 b off e hb=>h.2 h0 b off e (hs b hb)),h.2⟩
theorem IntsAv.add (h:IntsAv W S k A zs) (hg:W.heap.size≤g):IntsAv W (g::S) k A zs:=⟨h.1,fun h0 b off e hb=>by
 rcases List.mem_cons.1 hb with C|hb
 · obtain ⟨E,F,B,hlt,_⟩:=h.1 h0
   rw [e] at B;injection B with B;injection B with D _;omega
 · exact h.2 h0 b off e hb⟩
theorem IntsAv.of_new (h:IntsNew n W k A zs) (hs:∀ x∈S,x<n):IntsAv W S k A zs:=⟨h.1,fun h0 b off e hb=>by have:=h.2 h0 b off e;have:=hs b hb;omega⟩
theorem IntsAv.sub (h:IntsAv W S k A zs) (hs:∀ x∈T,x∈S):IntsAv W T k A zs:=⟨h.1,fun h0 b off e hb=>h.2 h0 b off e (hs b hb)⟩
end
theorem IntsAt.set_ne {k:IntKind} {zs:List Int} (h:IntsAt w B k A zs) (hc:w.cell? p=some v0) (hk:∀ z,v0 ≠ .int k z) (u:Value):IntsAt (w.setCell p u) B k A zs:=fun h0=>by
 obtain ⟨b,off,e,hlt,qc⟩:=h h0
 refine ⟨b,off,e,hlt,fun i hi => ?_⟩
 rw [World.cell?_setCell_other w p ⟨b,off+i,none⟩ u (fun C => ?_)]
 · exact qc i hi
 · have:=qc i hi
   first
    | (rw [C,hc] at this;injection this with this;exact hk _ this)
    | (rw [← C,hc] at this;injection this with this;exact hk _ this)
structure QAv (W:World) (S:List Nat) (A:Option Addr) (l:List TW):Prop where
 wts:Wts W W.heap.size A l
 row:0<l.length→∀ b off,A=some ⟨b,off,none⟩→b∉S
 pay:∀ a∈l,0<a.w.m.pl.length→∀ b off,a.B=some ⟨b,off,none⟩→b∉S
section
variable {S T:List Nat} {W W':World} {A:Option Addr} {l:List TW}
theorem QAv.nil:QAv W S A []:=⟨⟨RowsAt.nil,fun _ h=>by cases h⟩,fun h=>absurd h (by simp),fun _ h=>by cases h⟩
theorem QAv.chg (h:QAv W S A l) (hc:Chg T W W') (hs:∀ x∈T,x∈S):QAv W' S A l:=by
 refine ⟨⟨fun h0 => ?_,fun a B=>hc.ints (h.wts.2 a B) (fun h0 b off e hb=>h.pay a B h0 b off e (hs b hb))⟩,h.row,h.pay⟩
 obtain ⟨b,off,e,hlt,qc⟩:=h.wts.1 h0
 exact ⟨b,off,e,Nat.lt_of_lt_of_le hlt hc.size,fun i a B j v hv=>(hc.cell (p:=⟨b,off+i*6+j,none⟩) hlt (fun hb=>h.row h0 b off e (hs b hb))).trans (qc i a B j v hv)⟩
theorem QAv.later (h:QAv W S A l) (hb:Below W.heap.size W W'):QAv W' S A l:=h.chg (T:=[]) (Chg.of_below hb) (by simp)
theorem QAv.add (h:QAv W S A l) (hg:W.heap.size≤g):QAv W (g::S) A l:=by
 refine ⟨h.wts,fun h0 b off e hb => ?_,fun a C h0 b off e hb => ?_⟩
 · rcases List.mem_cons.1 hb with D|hb
   · obtain ⟨F,G,B,hlt,_⟩:=h.wts.1 h0
     rw [e] at B;injection B with B;injection B with E _;omega
   · exact h.row h0 b off e hb
 · rcases List.mem_cons.1 hb with D|hb
   · obtain ⟨F,G,B,hlt,_⟩:=h.wts.2 a C h0
     rw [e] at B;injection B with B;injection B with E _;omega
   · exact h.pay a C h0 b off e hb
theorem QAv.sub (h:QAv W S A l) (hs:∀ x∈T,x∈S):QAv W T A l:=⟨h.wts,fun h0 b off e hb=>h.row h0 b off e (hs b hb),fun a B h0 b off e hb=>h.pay a B h0 b off e (hs b hb)⟩
theorem QAv.of_own (h:QOwn W base A n c l) (hs:∀ x∈S,x<base):QAv W S A l:=by
 refine ⟨h.wts,fun h0 b off e hb => ?_,fun a B h0 b off e hb => ?_⟩
 · have h1:=(h.own.block b (by rw [e];rfl)).1
   have:=hs b hb
   omega
 · have h1:=h.new a B h0 b off e
   have:=hs b hb
   omega
end
structure PM (W:World) (S:List Nat) (g:Nat) (p:Sb.Pt) (A:Option Addr) (n c:Nat) (l:List TW):Prop where
 box:PB W g p A n c
 q:l.map TW.w=p.jt.q
 len:l.length=n
 cap:n≤c
 cm:c≤maxLen
 qa:QAv W S A l
section
variable {S T:List Nat} {W W':World} {g n c:Nat} {p p':Sb.Pt} {A:Option Addr} {l:List TW}
theorem PM.later (h:PM W S g p A n c l) (hb:Below W.heap.size W W'):PM W' S g p A n c l:=⟨h.box.later hb,h.q,h.len,h.cap,h.cm,h.qa.later hb⟩
theorem PM.push (h:PM W S g p A n c l) (o:Obj):PM (W.alloc o) S g p A n c l:=h.later ((Below.refl _ _).alloc (Nat.le_refl _) _)
theorem PM.chg (h:PM W S g p A n c l) (hc:Chg T W W') (hs:∀ x∈T,x∈S) (hg:g∉T):PM W' S g p A n c l:=⟨hc.blk h.box hg,h.q,h.len,h.cap,h.cm,h.qa.chg hc hs⟩
theorem PM.add (h:PM W S g p A n c l) (hx:W.heap.size≤x):PM W (x::S) g p A n c l:=⟨h.box,h.q,h.len,h.cap,h.cm,h.qa.add hx⟩
theorem PM.set (h:PM W S g p A n c l) (hg:g∈S) (i:Nat) (v:Value) (p':Sb.Pt) (hp:(PL p A n c).set i v=PL p' A n c) (B:p'.jt.q=p.jt.q):PM (W.setCell ⟨g,i,none⟩ v) S g p' A n c l:=by
 refine ⟨?_,h.q.trans B.symm,h.len,h.cap,h.cm,h.qa.chg (Chg.of_only (OnlyB.setCell W g i v) (S:=S) hg) (fun _ h=>h)⟩
 have:=Blk.set_ h.box i v
 unfold PB PA
 rw [← hp]
 unfold PA at this
 simpa using this
theorem PM.over (h:PM W S g p A n c l) (hg:g∈S) (ho:OnlyB g W W') (p':Sb.Pt) (hb:PB W' g p' A n c) (B:p'.jt.q=p.jt.q):PM W' S g p' A n c l :=
 ⟨hb,h.q.trans B.symm,h.len,h.cap,h.cm,h.qa.chg (Chg.of_only ho (S:=S) hg) (fun _ h=>h)⟩
end
def RowsAv {α : Type} (W:World) (S:List Nat) (size:Nat) (row : α → List Value) (A:Option Addr) (l:List α):Prop:=RowsAt W W.heap.size size row A l∧(0<l.length→∀ b off,A=some ⟨b,off,none⟩→b∉S)
section
variable {α : Type} {row : α → List Value} {W W':World} {S T:List Nat} {size:Nat} {A:Option Addr} {l:List α} {k:IntKind} {zs:List Int} {ql:List TW}
theorem RowsAv.chg (h:RowsAv W S size row A l) (hc:Chg T W W') (hs:∀ x∈T,x∈S):RowsAv W' S size row A l:=by
 refine ⟨fun h0 => ?_,h.2⟩
 obtain ⟨b,off,e,hlt,qc⟩:=h.1 h0
 exact ⟨b,off,e,Nat.lt_of_lt_of_le hlt hc.size,fun i a B j v hv=>(hc.cell (p:=⟨b,off+i*size+j,none⟩) hlt (fun hb=>h.2 h0 b off e (hs b hb))).trans (qc i a B j v hv)⟩
theorem RowsAv.re (h:RowsAv W S size row A l) (hs:∀ x∈T,x∈S∨W.heap.size≤x):RowsAv W T size row A l:=⟨h.1,fun h0 b off e hb=>by
 rcases hs b hb with h1|h1
 · exact h.2 h0 b off e h1
 · obtain ⟨D,E,B,hlt,_⟩:=h.1 h0
   rw [e] at B;injection B with B;injection B with C _;omega⟩
theorem RowsAv.of_new (h:RowsNew n W size row A l) (hs:∀ x∈S,x<n):RowsAv W S size row A l:=⟨h.1,fun h0 b off e hb=>by have:=h.2 h0 b off e;have:=hs b hb;omega⟩
theorem IntsAv.re (h:IntsAv W S k A zs) (hs:∀ x∈T,x∈S∨W.heap.size≤x):IntsAv W T k A zs:=⟨h.1,fun h0 b off e hb=>by
 rcases hs b hb with h1|h1
 · exact h.2 h0 b off e h1
 · obtain ⟨D,E,B,hlt,_⟩:=h.1 h0
   rw [e] at B;injection B with B;injection B with C _;omega⟩
theorem QAv.re (h:QAv W S A ql) (hs:∀ x∈T,x∈S∨W.heap.size≤x):QAv W T A ql:=by
 refine ⟨h.wts,fun h0 b off e hb => ?_,fun a C h0 b off e hb => ?_⟩
 · rcases hs b hb with h1|h1
   · exact h.row h0 b off e h1
   · obtain ⟨E,F,B,hlt,_⟩:=h.wts.1 h0
     rw [e] at B;injection B with B;injection B with D _;omega
 · rcases hs b hb with h1|h1
   · exact h.pay a C h0 b off e h1
   · obtain ⟨E,F,B,hlt,_⟩:=h.wts.2 a C h0
     rw [e] at B;injection B with B;injection B with D _;omega
end
section
variable {P:Program} {w:World} {α : Type}
theorem zht {row : α → List Value} {size:Nat} (A:∀ a,(row a).length=size):∀ (l:List α) (j:Nat) (u:Value),(l.flatMap row)[j]? = some u→∃ (i k:Nat) (a : α),l[i]? = some a∧(row a)[k]? = some u∧j=i*size+k
 | [],j,u,h=>by simp at h
 | a :: l, j, u, h => by
   rw [List.flatMap_cons] at h
   by_cases B:j<size
   · rw [List.getElem?_append_left (by rw [A];exact B)] at h
     exact ⟨0,j,a,rfl,h,by omega⟩
   · rw [List.getElem?_append_right (by rw [A];omega),A] at h
     obtain ⟨i,k,b,hi,hk,e⟩:=zht A l _ u h
     exact ⟨i+1,k,b,by simpa using hi,hk,by rw [Nat.add_mul];omega⟩
theorem zku (b off j:Nat):(⟨b,off,none⟩:Addr).add j=⟨b,off+j,none⟩:=by
 unfold Addr.add
 split<;>simp_all
theorem zlw {row : α → List Value} {size:Nat} (A:∀ a,(row a).length=size) {l:List α} (hr:RowsAt w B size row (some ad) l):∀ (j:Nat) (u:Value),(l.flatMap row)[j]? = some u→w.cell? (ad.add j)=some u:=by
 intro j u hu
 obtain ⟨i,k,a,hi,hk,rfl⟩:=zht A l j u hu
 obtain ⟨b,off,e,_,hc⟩:=hr (by have:=(List.getElem?_eq_some_iff.1 hi).1;omega)
 injection e with e
 subst e
 rw [zku,← Nat.add_assoc]
 exact hc i a hi k u hk
theorem zhu {row : α → List Value} {size:Nat} (A:∀ a,(row a).length=size):∀ l:List α, (l.flatMap row).length=l.length*size
 | []=>by simp
 | a::l=>by rw [List.flatMap_cons,List.length_append,A,zhu A l,List.length_cons,Nat.add_mul];omega
theorem zex (base:Nat) (t ty e:TypeId) (z:Value) (size bytes:Nat) (ht:P.underlying t=some (.slice e)) (K:(P.info? e).map (fun i=>(i.zero,i.size,i.bytes))=some (some z,size,bytes)) (H:z.cells.size=size) (L:0<size)
 (v:Value) (n:Nat) (xs:List Value) (C:w.ownsRow base e size v n xs)
 (B:Nat) (row : α → List Value) (D:∀ a,(row a).length=size) (E:∀ a,∀ u∈row a,u.oneCell'=true) (A:Option Addr) (c:Nat) (l:List α) (hr:RowsAt w B size row A l) (F:n+l.length≤maxLen) (N:(n+l.length)*bytes≤140737488355328) (O:base≤w.heap.size) :
 ∃ A' c' w',(Builtin.append_ #[t,t] ty #[v, .slice A l.length c]).run P w = .ok (.slice A' (n+l.length) c') w'∧Owns w' base e size A' (n+l.length) c' (xs++l.flatMap row)∧w.grownBy w' v.ownBlock ∧
  (ownB A'=v.ownBlock∨ownB A'=some w.heap.size):=by
 obtain ⟨i,hi,I,G,J⟩:=info_parts K
 have fin:∀ v' w',(Builtin.append_ #[t,t] ty #[v, .slice A l.length c]).run P w = .ok v' w'→w'.ownsRow base e size v' (n+l.length) (xs++l.flatMap row)→w.grownBy w' v.ownBlock→(v'.ownBlock=v.ownBlock∨v'.ownBlock=some w.heap.size) →
  ∃ A' c' w',(Builtin.append_ #[t,t] ty #[v, .slice A l.length c]).run P w = .ok (.slice A' (n+l.length) c') w'∧Owns w' base e size A' (n+l.length) c' (xs++l.flatMap row)∧w.grownBy w' v.ownBlock∧(ownB A'=v.ownBlock∨ownB A'=some w.heap.size):=by
  intro v' w' h1 h2 h3 h4
  obtain ⟨A',c',rfl⟩:=zko h2
  rw [zbr] at h4
  exact ⟨A',c',w',h1,h2,h3,h4⟩
 rcases A with _|ad
 · have hz:l=[]:=by
    rcases Nat.eq_zero_or_pos l.length with h0|h0
    · exact List.eq_nil_of_length_eq_zero h0
    · obtain ⟨b,off,h,_⟩:=hr h0
      cases h
   subst hz
   exact fin v w (zcq base t ty e i size ht hi v n xs C none c rfl) (by simpa using C) (World.grownBy.refl w _) (.inl rfl)
 · obtain ⟨v',w',M,h2,h3,_,h5⟩:=run_append_own_at (P:=P) w base t ty e i z size bytes ht hi I G J H L v n xs C ad l.length c (l.flatMap row) (zhu D l) (zlw D hr) (by
    intro u hu
    obtain ⟨x,_,hx⟩:=List.mem_flatMap.1 hu
    exact E x u hx) F N O
   exact fin v' w' M h2 h3 h5
theorem zau {rest:List Oper} {o:Oper} {a:Act} {Q:Exit→Act→World→Prop} (H:o.guard=none) (s x:Operand) (t:TypeId)
 (ho:o.op = .call { callee := .builtin .append,args := #[s,x],argTypes := #[t,t] })
 (base:Nat) (e:TypeId) (size bytes:Nat) (z:Value) (ht:P.underlying t=some (.slice e)) (J:(P.info? e).map (fun i=>(i.zero,i.size,i.bytes))=some (some z,size,bytes)) (I:z.cells.size=size) (L:0<size)
 (C:Option Addr) (n c0:Nat) (xs:List Value) (hs:a.eval s = .slice C n c0) (D:Owns w base e size C n c0 xs)
 (B:Nat) (row : α → List Value) (O:∀ a,(row a).length=size) (F:∀ a,∀ u∈row a,u.oneCell'=true) (A:Option Addr) (k c:Nat) (l:List α) (hx:a.eval x = .slice A k c) (hr:RowsAt w B size row A l) (hk:l.length=k) (G:n+l.length≤maxLen) (N:(n+l.length)*bytes≤140737488355328) (R:base≤w.heap.size) (m:Nat) (hm:n+l.length=m)
 (h:∀ (A':Option Addr) (c':Nat) (w':World),Owns w' base e size A' m c' (xs++l.flatMap row)→w.grownBy w' (ownB C)→(ownB A'=ownB C∨ownB A'=some w.heap.size)→wpList P ops Q rest (a.put o.dst (.slice A' m c')) w') :
 wpList P ops Q (o::rest) a w:=by
 subst hm hk
 obtain ⟨A',c',w',M,h2,h3,h4⟩:=zex (P:=P) base t o.type e z size bytes ht J I L (.slice C n c0) n xs D B row O F A c l hr G N R
 rw [zbr] at h3 h4
 refine wpList_plain H fun K E => ?_
 unfold Oper.wp execOp
 simp only [ho,resolve,invoke,builtin,Sem.run_bind,Sem.run_pure,Result.andThen_ok,List.map_toArray,List.map_cons,List.map_nil,hs,hx,M]
 exact E _ _ (h A' c' w' h2 h3 h4)
theorem RowsAt.drop {row : α → List Value} {size:Nat} {l:List α} (h:RowsAt w B size row (some ⟨b,off,none⟩) l) (n:Nat):RowsAt w B size row (some ⟨b,off+n*size,none⟩) (l.drop n):=fun h0=>by
 obtain ⟨D,E,e,hb,hc⟩:=h (by simp at h0;omega)
 injection e with e
 injection e with C A
 subst C A
 refine ⟨b,off+n*size,rfl,hb,fun i a hi j v hv => ?_⟩
 rw [List.getElem?_drop] at hi
 have:=hc (n+i) a hi j v hv
 rwa [Nat.add_mul,← Nat.add_assoc] at this
theorem RowsAt.nil' {row : α → List Value} {size:Nat} {l:List α} (h:l.length=0):RowsAt w B size row A l:=fun h0=>by omega
end
end
section
attribute [local go_sem ↓] zab zac
attribute [local go_sem] zaa zad
open Go.RowKit
structure Ft where
 lost:Bool
 d:Int
 again:Bool
 ad:Int
def Ft.row (f:Ft):List Value:=[.bool f.lost, .int .i64 f.d, .bool f.again, .int .i64 f.ad]
def Ft.ok (f:Ft):Prop:=(0≤f.d∧f.d≤3000)∧0≤f.ad∧f.ad≤3000
structure Pc where
 f:Ft
 no:Int
 sent:Int
 second:Bool
 A:Option Addr
 c:Nat
 zs:List Int
def Pc.row (p:Pc):List Value:=[.bool p.f.lost, .int .i64 p.f.d, .bool p.f.again, .int .i64 p.f.ad, .int .i64 p.no, .string { data := #[97] }, .string { data := #[98] }, .int .i64 p.sent, .bool p.second, .slice p.A p.zs.length p.c]
def Pc.at_ (p:Pc):Int:=if p.second then p.sent+p.f.ad else p.sent+p.f.d
def Pc.ok (p:Pc):Prop:=p.f.ok∧0≤p.sent∧p.sent≤1000000
theorem Pc.ok.at_ {p:Pc} (h:p.ok):0≤p.at_∧p.at_≤1003000:=by
 obtain ⟨⟨⟨h1,h2⟩,h3,h4⟩,h5,h6⟩:=h
 unfold Pc.at_
 split<;>omega
theorem Owns.base_mono {size:Nat} (h:Owns w base e size A n c xs) (hb:bU≤base):Owns w bU e size A n c xs :=
 ⟨h.1,h.2.imp id (fun ⟨g,cap,cur,hv,B,rest⟩=>⟨g,cap,cur,hv,Nat.le_trans hb B,rest⟩)⟩
structure Ca where
 fA:Option Addr
 fc:Nat
 fs:List Ft
 pA:Option Addr
 pc:Nat
 ps:List Pc
 sent:Int
 lost:Int
 now:Int
def Ca.row (k:Ca):List Value:=[.bool true, .slice k.fA k.fs.length k.fc, .slice k.pA k.ps.length k.pc, .int .i64 k.sent, .int .i64 k.lost, .int .i64 k.now]
theorem zdj (gc:Nat) (W:World) (h:W.cell? ⟨gc,0,none⟩=some (.bool true)):Calls Tryz.prog 106 #[.pointer (some ⟨gc,0,none⟩)] W fun e w'=>e = .returned (.bool false)∧w'=W:=by
 go_enter Tryz.func106,Tryz.ntmps106
 go_wp2
 go_ret
 exact ⟨rfl,rfl⟩
theorem zde (p:Pc) (hp:p.ok) (W:World):Calls Tryz.prog 108 #[.agg p.row.toArray] W fun e w'=>e = .returned (.int .i64 p.at_)∧Below W.heap.size W w':=by
 obtain ⟨⟨⟨h1,h2⟩,h3,h4⟩,h5,h6⟩:=hp
 obtain ⟨⟨lost,d,again,ad⟩,no,sent,second,A,c,zs⟩:=p
 simp only at h1 h2 h3 h4 h5 h6
 unfold Pc.row Pc.at_
 simp only
 cases second
 all_goals
  go_enter Tryz.func108,Tryz.ntmps108
  go_wp2
  go_ret
  refine ⟨by simp,(Below.refl _ _).alloc (Nat.le_refl _) _⟩
theorem zhv {l:List Pc} {p:Pc} (h:RowsAt w n 10 Pc.row A l) (hp:l[i]? = some p):∃ b off,A=some ⟨b,off,none⟩∧b<n∧w.cell? ⟨b,off+i*10,none⟩=some (.bool p.f.lost)∧w.cell? ⟨b,off+i*10+1,none⟩=some (.int .i64 p.f.d)∧w.cell? ⟨b,off+i*10+2,none⟩=some (.bool p.f.again)∧w.cell? ⟨b,off+i*10+3,none⟩=some (.int .i64 p.f.ad)∧w.cell? ⟨b,off+i*10+4,none⟩=some (.int .i64 p.no)∧w.cell? ⟨b,off+i*10+5,none⟩=some (.string { data := #[97] })∧w.cell? ⟨b,off+i*10+6,none⟩=some (.string { data := #[98] })∧w.cell? ⟨b,off+i*10+7,none⟩=some (.int .i64 p.sent)∧w.cell? ⟨b,off+i*10+8,none⟩=some (.bool p.second)∧w.cell? ⟨b,off+i*10+9,none⟩=some (.slice p.A p.zs.length p.c):=by
 obtain ⟨b,off,e,hb,hc⟩:=h (by have:=(List.getElem?_eq_some_iff.1 hp).1;omega)
 exact ⟨b,off,e,hb,hc i p hp 0 _ rfl,hc i p hp 1 _ rfl,hc i p hp 2 _ rfl,hc i p hp 3 _ rfl,hc i p hp 4 _ rfl,hc i p hp 5 _ rfl,hc i p hp 6 _ rfl,hc i p hp 7 _ rfl,hc i p hp 8 _ rfl,hc i p hp 9 _ rfl⟩
def NextR (ps:List Pc) (W:World) (e:Ending) (w':World):Prop:=Below W.heap.size W w'∧((ps=[]∧e = .returned (.tuple #[.int .i64 0, .bool false]))∨∃ t,e = .returned (.tuple #[.int .i64 t, .bool true])∧(∃ p∈ps,t=p.at_)∧∀ p∈ps,t≤p.at_)
theorem zdk (gc:Nat) (k:Ca) (W:World) (hB:Blk W gc 253 k.row.toArray) (T:RowsAt W W.heap.size 10 Pc.row k.pA k.ps) (ok:∀ p∈k.ps,p.ok) (hl:k.ps.length≤1000):Calls Tryz.prog 76 #[.pointer (some ⟨gc,0,none⟩)] W (NextR k.ps W):=by
 obtain ⟨fA,fc,fs,pA,pc,ps,sent,lost,now⟩:=k
 simp only at T ok hl ⊢
 have c0:=hB.at 0 (.bool true) rfl
 have c2:=hB.at 2 (.slice pA ps.length pc) rfl
 have hg:=hB.lt
 have w:=Z9 fun (V:World) h=>zdj gc V h
 have R:=Z9 fun (p:Pc) hp (V:World)=>zde p hp V
 unfold Pc.row at R
 clear hB
 go_enter Tryz.func76,Tryz.ntmps76
 go_wp2_with fail
 refine (w.out _ c0).mono ?_
 rintro e w0 ⟨rfl,rfl⟩
 by_cases h0:ps=[]
 · subst h0
   go_wp2_with fail
   go_ret2
   exact ⟨Below.refl _ _,Or.inl ⟨rfl,rfl⟩⟩
 have Ai:0<ps.length:=List.length_pos_iff.2 h0
 obtain ⟨P,v⟩:∃ p,ps[0]? = some p:=⟨_,List.getElem?_eq_getElem Ai⟩
 have u:=List.mem_of_getElem? v
 obtain ⟨b,off,rfl,B,o,n,l,g,f,d,c,Z,Y,X⟩:=zhv T v
 simp only [Nat.zero_mul,Nat.add_zero] at o n l g f d c Z Y X
 have Ao:¬(ps.length:Int)=0:=by omega
 go_wp2_with fail
 refine (R.out P (ok P u) _).mono ?_
 rintro e w1 ⟨rfl,F⟩
 have uT:=(F.cell (p:=⟨gc,2,none⟩) hg).trans c2
 have U1:=Z9 F
 have Ib:=F.size
 clear c2 c0 o n l g f d c Z Y X F
 go_wp2_with fail
 go_loopw [4,29] (fun a i wr => ∃ (j:Nat) (t:Int),j≤ps.length∧i = .int .i64 j∧a = .int .i64 t∧Hid ((∃ p∈ps,t=p.at_)∧∀ m,m<j→∀ p,ps[m]? = some p→t≤p.at_)∧Hid (Below w0.heap.size w0 wr)) (fun _ i _=>ps.length-(intOf i).toNat)
 case atStart=>exact ⟨0,_,Nat.zero_le _,rfl,rfl,Z9 ⟨⟨P,u,rfl⟩,fun m hm=>absurd hm (Nat.not_lt_zero m)⟩,U1⟩
 case round =>
  obtain ⟨j,t,hj,rfl,rfl,U,A⟩:=hrel
  by_cases hlt:j<ps.length
  · obtain ⟨E,D⟩:∃ p,ps[j]? = some p:=⟨_,List.getElem?_eq_getElem hlt⟩
    have O:=List.mem_of_getElem? D
    obtain ⟨b2,Yz,C,Ad,z0,z1,N,M,L,K,J,I,H,G⟩:=zhv T D
    injection C with C;injection C with C e3
    subst C e3
    replace z0:=(A.out.cell (p:=⟨b,off+j*10,none⟩) B).trans z0
    replace z1:=(A.out.cell (p:=⟨b,off+j*10+1,none⟩) B).trans z1
    replace N:=(A.out.cell (p:=⟨b,off+j*10+2,none⟩) B).trans N
    replace M:=(A.out.cell (p:=⟨b,off+j*10+3,none⟩) B).trans M
    replace L:=(A.out.cell (p:=⟨b,off+j*10+4,none⟩) B).trans L
    replace K:=(A.out.cell (p:=⟨b,off+j*10+5,none⟩) B).trans K
    replace J:=(A.out.cell (p:=⟨b,off+j*10+6,none⟩) B).trans J
    replace I:=(A.out.cell (p:=⟨b,off+j*10+7,none⟩) B).trans I
    replace H:=(A.out.cell (p:=⟨b,off+j*10+8,none⟩) B).trans H
    replace G:=(A.out.cell (p:=⟨b,off+j*10+9,none⟩) B).trans G
    have Ct:(0:Int)≤(j:Int):=by omega
    have Cn:(j:Int)<(ps.length:Int):=by omega
    have AV:b<wr.heap.size:=Nat.lt_of_lt_of_le B A.out.size
    have y:=Z9 (ok E O)
    have S8:=Z9 D
    have V6:=Z9 O
    clear D O
    go_wp2_with fail
    refine (R.out E y.out _).mono ?_
    rintro e w2 ⟨rfl,Q⟩
    have ha:=y.out.at_
    obtain ⟨x,hx⟩:=nm9 E.at_
    rw [← hx] at ha ⊢
    have z:=Z9 hx
    clear z0 z1 N M L K J I H G hx
    have Nh:=Z9 Q
    clear Q
    go_wp2_with fail
    refine ⟨⟨j+1,min t x,by omega,by simp,rfl,Z9 ?_,Z9 ?_⟩,?_⟩
    · obtain ⟨⟨q,hq,rfl⟩,h2⟩:=U.out
      refine ⟨?_,fun m hm p hp => ?_⟩
      · by_cases h:q.at_≤x
        · exact ⟨q,hq,by omega⟩
        · exact ⟨E,V6.out,by rw [← z.out];omega⟩
      · by_cases e:m=j
        · subst e;rw [S8.out] at hp;injection hp with hp;subst hp;rw [← z.out];omega
        · have:=h2 m (by omega) p hp;omega
    · exact A.out.trans ((((Below.refl _ _).alloc (Nat.le_refl _) _).trans (Nh.out.mono (by simp))).mono A.out.size)
    · simp [intOf];omega
  · obtain rfl:j=ps.length:=by omega
    have hn:¬(ps.length:Int)<(ps.length:Int):=by omega
    go_wp2_with fail
    go_ret2
    refine ⟨A.out,Or.inr ⟨t,rfl,U.out.1,fun p hp => ?_⟩⟩
    obtain ⟨m,hm⟩:=List.getElem?_of_mem hp
    exact U.out.2 m (List.getElem?_eq_some_iff.1 hm).1 p hm
theorem zoj:(Tryz.prog.info? 131).map (fun i=>(i.zero,i.size,i.bytes))=some (some (.agg #[.bool false, .int .i64 0, .bool false, .int .i64 0]),4,32):=by kernel_rfl
theorem zva:(Tryz.prog.info? 5).map (fun i=>(i.zero,i.size,i.bytes))=some (some (.int .u8 0),1,1):=by kernel_rfl
def u8Row (x:Int):List Value:=[.int .u8 x]
theorem zlx (A:Option Addr) (c:Nat) (fs:List Ft) (W:World) (B:RowsAt W W.heap.size 4 Ft.row A fs) (C:A=none→fs=[]) (hl:fs.length≤2000):Calls Tryz.prog 105 #[.slice A fs.length c] W fun e w' => ∃ A' c',e = .returned (.slice A' fs.length c')∧Owns w' W.heap.size 131 4 A' fs.length c' (fs.flatMap Ft.row)∧(A'=none→fs=[])∧Below W.heap.size W w':=by
 have G:∀ (w:World) (a:Option Addr) (n c n' c':Nat),(binOp .eql 75 (.slice a n c) (.slice none n' c')).run Tryz.prog w = .ok (.bool a.isNone) w:=fun w a n c n' c'=>Lib.run_eql_slice_nil w _ _ a n c n' c' Tryz.underlying75
 cases A with
 | none =>
   have h0:=C rfl
   subst h0
   clear B C hl
   go_enter Tryz.func105,Tryz.ntmps105
   go_wp2_with fail
   go_ret
   exact ⟨none,0,rfl,Owns.nil,by simp,Below.refl _ _⟩
 | some a =>
   have F:∀ w':World,Below W.heap.size W w'→RowsAt w' W.heap.size 4 Ft.row (some a) fs:=fun w' hb=>B.keep fun _ hp=>hb.cell hp
   go_enter Tryz.func105,Tryz.ntmps105
   go_wp2_with (at_builtin;refine zau rfl _ _ 75 rfl W.heap.size 131 4 32 (.agg #[.bool false, .int .i64 0, .bool false, .int .i64 0]) Tryz.underlying75 zoj rfl (by decide) _ 0 0 [] rfl (World.ownsRow_made W #[] 0 (Nat.le_refl _) (Nat.zero_le _) (by simp)) W.heap.size Ft.row (fun _=>rfl) (fun a u hu=>by simp [Ft.row] at hu;first|(rcases hu with h|h|h|h<;>subst h<;>rfl)|(subst hu;rfl)) (some a) fs.length c fs rfl (F _ ((Below.refl _ _).alloc (Nat.le_refl _) _)) rfl (by unfold maxLen;omega) (by omega) (by simp) fs.length (by omega) ?_;intro A' c' w' E hg D)
   go_ret
   have hb:Below W.heap.size W w':=((Below.refl _ W).alloc (Nat.le_refl _) _).grown hg (by simp) (by intro k hk;simp [ownB] at hk;omega)
   refine ⟨A',c',rfl,by simpa using E,fun h => ?_,hb⟩
   rw [h] at D
   rcases D with h|h<;>cases h
theorem zly (A:Option Addr) (c:Nat) (fs:List Int) (W:World) (B:RowsAt W W.heap.size 1 u8Row A fs) (C:A=none→fs=[]) (hl:fs.length≤2000):Calls Tryz.prog 107 #[.slice A fs.length c] W fun e w' => ∃ A' c',e = .returned (.slice A' fs.length c')∧Owns w' W.heap.size 5 1 A' fs.length c' (fs.flatMap u8Row)∧(A'=none→fs=[])∧Below W.heap.size W w':=by
 have G:∀ (w:World) (a:Option Addr) (n c n' c':Nat),(binOp .eql 69 (.slice a n c) (.slice none n' c')).run Tryz.prog w = .ok (.bool a.isNone) w:=fun w a n c n' c'=>Lib.run_eql_slice_nil w _ _ a n c n' c' Tryz.underlying69
 cases A with
 | none =>
   have h0:=C rfl
   subst h0
   clear B C hl
   go_enter Tryz.func107,Tryz.ntmps107
   go_wp2_with fail
   go_ret
   exact ⟨none,0,rfl,Owns.nil,by simp,Below.refl _ _⟩
 | some a =>
   have F:∀ w':World,Below W.heap.size W w'→RowsAt w' W.heap.size 1 u8Row (some a) fs:=fun w' hb=>B.keep fun _ hp=>hb.cell hp
   go_enter Tryz.func107,Tryz.ntmps107
   go_wp2_with (at_builtin;refine zau rfl _ _ 69 rfl W.heap.size 5 1 1 (.int .u8 0) Tryz.underlying69 zva rfl (by decide) _ 0 0 [] rfl (World.ownsRow_made W #[] 0 (Nat.le_refl _) (Nat.zero_le _) (by simp)) W.heap.size u8Row (fun _=>rfl) (fun a u hu=>by simp [u8Row] at hu;first|(rcases hu with h|h|h|h<;>subst h<;>rfl)|(subst hu;rfl)) (some a) fs.length c fs rfl (F _ ((Below.refl _ _).alloc (Nat.le_refl _) _)) rfl (by unfold maxLen;omega) (by omega) (by simp) fs.length (by omega) ?_;intro A' c' w' E hg D)
   go_ret
   have hb:Below W.heap.size W w':=((Below.refl _ W).alloc (Nat.le_refl _) _).grown hg (by simp) (by intro k hk;simp [ownB] at hk;omega)
   refine ⟨A',c',rfl,by simpa using E,fun h => ?_,hb⟩
   rw [h] at D
   rcases D with h|h<;>cases h
theorem zok {l:List Ft} {p:Ft} (h:RowsAt w n 4 Ft.row A l) (hp:l[i]? = some p):∃ b off,A=some ⟨b,off,none⟩∧b<n∧w.cell? ⟨b,off+i*4,none⟩=some (.bool p.lost)∧w.cell? ⟨b,off+i*4+1,none⟩=some (.int .i64 p.d)∧w.cell? ⟨b,off+i*4+2,none⟩=some (.bool p.again)∧w.cell? ⟨b,off+i*4+3,none⟩=some (.int .i64 p.ad):=by
 obtain ⟨b,off,e,hb,hc⟩:=h (by have:=(List.getElem?_eq_some_iff.1 hp).1;omega)
 exact ⟨b,off,e,hb,hc i p hp 0 _ rfl,hc i p hp 1 _ rfl,hc i p hp 2 _ rfl,hc i p hp 3 _ rfl⟩
def NewR9 (fs:List Ft) (W:World) (e:Ending) (w':World):Prop:=∃ (gc:Nat) (A':Option Addr) (c':Nat),e = .returned (.tuple #[.pointer (some ⟨gc,0,none⟩), .int .u8 0])∧W.heap.size≤gc∧Blk w' gc 253 (Ca.row ⟨A',c',fs,none,0,[],0,0,0⟩).toArray∧Owns w' W.heap.size 131 4 A' fs.length c' (fs.flatMap Ft.row)∧ownB A'≠some gc∧Below W.heap.size W w'
theorem zol (A:Option Addr) (c:Nat) (fs:List Ft) (W:World) (H:RowsAt W W.heap.size 4 Ft.row A fs) (N:A=none→fs=[]) (hl:fs.length≤2000) (ok:∀ f∈fs,f.ok):Calls Tryz.prog 73 #[.slice A fs.length c] W (NewR9 fs W):=by
 have kc:=Z9 fun (V:World) h=>zlx A c fs V h N hl
 go_enter Tryz.func73,Tryz.ntmps73
 go_wp2_with fail
 go_loopw [8] (fun i wr => ∃ (j:Nat),j≤fs.length∧i = .int .i64 j∧Hid (Below W.heap.size W wr)) (fun i _=>fs.length-(intOf i).toNat)
 case atStart=>exact ⟨0,Nat.zero_le _,rfl,Z9 (Below.refl _ _)⟩
 case round =>
  obtain ⟨j,T,rfl,B⟩:=hrel
  by_cases hlt:j<fs.length
  · obtain ⟨f,hf⟩:∃ f,fs[j]? = some f:=⟨_,List.getElem?_eq_getElem hlt⟩
    obtain ⟨⟨f1,f2⟩,O,f4⟩:=ok f (List.mem_of_getElem? hf)
    obtain ⟨b,off,rfl,C,G,F,E,D⟩:=zok H hf
    replace G:=(B.out.cell (p:=⟨b,off+j*4,none⟩) C).trans G
    replace F:=(B.out.cell (p:=⟨b,off+j*4+1,none⟩) C).trans F
    replace E:=(B.out.cell (p:=⟨b,off+j*4+2,none⟩) C).trans E
    replace D:=(B.out.cell (p:=⟨b,off+j*4+3,none⟩) C).trans D
    obtain ⟨lost,d,again,ad⟩:=f
    simp only at f1 f2 O f4 G F E D
    have X:(0:Int)≤(j:Int):=by omega
    have Y:(j:Int)<(fs.length:Int):=by omega
    have h1:¬d<0:=by omega
    have h2:¬d > 60000:=by omega
    have h3:¬ad<0:=by omega
    have h4:¬ad > 60000:=by omega
    clear hf
    go_wp2_with fail
    refine ⟨⟨j+1,by omega,by simp,Z9 (B.out.alloc B.out.size _)⟩,?_⟩
    simp [intOf];omega
  · obtain rfl:j=fs.length:=by omega
    have hn:¬(fs.length:Int)<(fs.length:Int):=by omega
    have M:=H.keep (w':=wr) (fun _ hp=>B.out.cell hp)
    have P:=Z9 (M.more B.out.size)
    clear H M
    go_wp2_with fail
    refine (kc.out wr P.out).mono ?_
    rintro e w2 ⟨A',c',rfl,J,R,hb⟩
    have K:=Z9 J
    have L:=Z9 hb
    clear J hb R
    go_wp2_with fail
    go_ret2
    have U:=L.out.size
    have I:=B.out.size
    refine ⟨w2.heap.size,A',c',rfl,by omega,Blk.new _ _ _,?_,?_,?_⟩
    · exact Owns.base_mono (K.out.alloc _) I
    · intro h
      have:=(K.out.block _ h).2
      omega
    · exact (B.out.trans (L.out.mono I)).alloc (by omega) _
theorem tk1 {md:_} {Q:Exit→Act→World→Prop} {S:World→Prop} {A:Oper} {B:Array Bool} {a:Act} (hi:ops[i]? = some A)
 (C:YieldsIf P ops S A v a) (D:S w) (h:wpAnyH P md ops Q S Bz (B.setIfInBounds i true) (a.put A.dst v) w)
 (hs:Region.noSelect ops=true:=by kernel_rfl) (hf:Region.free md ops B i=true:=by kernel_rfl) (hr:(Region.ready md ops B).contains i=true:=by kernel_rfl)
 (hQ:∀ c a w,Q (.panic c) (a.put A.dst v) w→Q (.panic c) a w:=by exact fun _ _ _ h=>h):wpAnyH P md ops Q S (Bz+1) B a w:=wpAnyH_take hi hs hf hr hQ C D h
theorem tkN {md:_} {Q:Exit→Act→World→Prop} {S:World→Prop} {A:Oper} {B:Array Bool} {a:Act} (N:Nat) (E:i+(Bz+1)=N) (hi:ops[i]? = some A)
 (C:YieldsIf P ops S A v a) (D:S w) (h:wpAnyH P md ops Q S Bz (B.setIfInBounds i true) (a.put A.dst v) w)
 (hs:Region.noSelect ops=true:=by kernel_rfl) (hf:Region.free md ops B i=true:=by kernel_rfl) (hr:(Region.ready md ops B).contains i=true:=by kernel_rfl)
 (hQ:∀ c a w,Q (.panic c) (a.put A.dst v) w→Q (.panic c) a w:=by exact fun _ _ _ h=>h):wpAnyH P md ops Q S (Bz+1) B a w:=wpAnyH_take hi hs hf hr hQ C D h
theorem tkA {md:_} {Q:Exit→Act→World→Prop} {S:World→Prop} (i:Nat) {A:Oper} {B:Array Bool} {a:Act} (hi:ops[i]? = some A) (C:∀ w,S w→(execOp a.eval A).run P w = .ok (.value v) w) (D:S w) (h:wpAnyH P md ops Q S Bz (B.setIfInBounds i true) (a.put A.dst v) w) (hQ:∀ c a w,Q (.panic c) (a.put A.dst v) w→Q (.panic c) a w:=by exact fun _ _ _ h=>h) (hd:Region.wanted A (yielded ops a.tmps)=true:=by rfl) (hs:Region.noSelect ops=true:=by kernel_rfl) (hf:Region.free md ops B i=true:=by kernel_rfl) (hr:(Region.ready md ops B).contains i=true:=by kernel_rfl):wpAnyH P md ops Q S (Bz+1) B a w:=wpAnyH_take hi hs hf hr hQ (Or.inl ⟨hd,C⟩) D h
theorem tkB {md:_} {Q:Exit→Act→World→Prop} {S:World→Prop} (i:Nat) {A:Oper} {B:Array Bool} {a:Act} (hi:ops[i]? = some A) (D:S w) (h:wpAnyH P md ops Q S Bz (B.setIfInBounds i true) (a.put A.dst v) w) (hQ:∀ c a w,Q (.panic c) (a.put A.dst v) w→Q (.panic c) a w:=by exact fun _ _ _ h=>h) (hd:Region.wanted A (yielded ops a.tmps)=true:=by rfl) (C:∀ w,(execOp a.eval A).run P w = .ok (.value v) w:=by intro w;go_simp;try with_reducible rfl) (hs:Region.noSelect ops=true:=by kernel_rfl) (hf:Region.free md ops B i=true:=by kernel_rfl) (hr:(Region.ready md ops B).contains i=true:=by kernel_rfl):wpAnyH P md ops Q S (Bz+1) B a w:=wpAnyH_take hi hs hf hr hQ (Or.inl ⟨hd,fun w _=>C w⟩) D h
theorem tkM {md:_} {Q:Exit→Act→World→Prop} {S:World→Prop} {A:Oper} {B:Array Bool} {a:Act} (N:Nat) (E:i+(Bz+1)=N) (hi:ops[i]? = some A) (C:∀ w,S w→(execOp a.eval A).run P w = .ok (.value v) w) (D:S w) (h:wpAnyH P md ops Q S Bz (B.setIfInBounds i true) (a.put A.dst v) w) (hQ:∀ c a w,Q (.panic c) (a.put A.dst v) w→Q (.panic c) a w:=by exact fun _ _ _ h=>h) (hd:Region.wanted A (yielded ops a.tmps)=true:=by rfl) (hs:Region.noSelect ops=true:=by kernel_rfl) (hf:Region.free md ops B i=true:=by kernel_rfl) (hr:(Region.ready md ops B).contains i=true:=by kernel_rfl):wpAnyH P md ops Q S (Bz+1) B a w:=wpAnyH_take hi hs hf hr hQ (Or.inl ⟨hd,C⟩) D h
theorem rd1 {md:_} {Q:Exit→Act→World→Prop} {S:World→Prop} {B:Array Bool} {a:Act} (i:Nat) {o:Oper} (hr:Region.ready md ops B=[i]) (ho:ops[i]? = some o) (h:∀ A:Act→World→Prop,Shut (∀ a w,S w→(S w→wpAnyH P md ops Q S Bz (B.setIfInBounds i true) a w)→A a w)→if Region.wanted o (yielded ops a.tmps)=true then Oper.wp P o a w A Q else A (a.put o.dst undef) w):wpAnyH P md ops Q S (Bz+1) B a w:=wpAnyH_ready hr (by simp) (AllReadyH.cons ho h AllReadyH.nil)
theorem rd2 {md:_} {Q:Exit→Act→World→Prop} {S:World→Prop} {B:Array Bool} {a:Act} (i j:Nat) {o o':Oper} (hr:Region.ready md ops B=[i,j]) (ho:ops[i]? = some o) (C:ops[j]? = some o') (h:∀ A:Act→World→Prop,Shut (∀ a w,S w→(S w→wpAnyH P md ops Q S Bz (B.setIfInBounds i true) a w)→A a w)→if Region.wanted o (yielded ops a.tmps)=true then Oper.wp P o a w A Q else A (a.put o.dst undef) w) (D:∀ A:Act→World→Prop,Shut (∀ a w,S w→(S w→wpAnyH P md ops Q S Bz (B.setIfInBounds j true) a w)→A a w)→if Region.wanted o' (yielded ops a.tmps)=true then Oper.wp P o' a w A Q else A (a.put o'.dst undef) w):wpAnyH P md ops Q S (Bz+1) B a w:=wpAnyH_ready hr (by simp) (AllReadyH.cons ho h (AllReadyH.cons C D AllReadyH.nil))
theorem Blk.c14 (h:Blk W g t #[v0,v1,v2,v3,v4,v5,v6,v7,v8,v9,IR,IQ,IL,v13]):W.cell? ⟨g,0,none⟩=some v0∧W.cell? ⟨g,1,none⟩=some v1∧W.cell? ⟨g,2,none⟩=some v2∧W.cell? ⟨g,3,none⟩=some v3∧W.cell? ⟨g,4,none⟩=some v4∧W.cell? ⟨g,5,none⟩=some v5∧W.cell? ⟨g,6,none⟩=some v6∧W.cell? ⟨g,7,none⟩=some v7∧W.cell? ⟨g,8,none⟩=some v8∧W.cell? ⟨g,9,none⟩=some v9∧W.cell? ⟨g,10,none⟩=some IR∧W.cell? ⟨g,11,none⟩=some IQ∧W.cell? ⟨g,12,none⟩=some IL∧W.cell? ⟨g,13,none⟩=some v13:=⟨h.at 0 _ rfl,h.at 1 _ rfl,h.at 2 _ rfl,h.at 3 _ rfl,h.at 4 _ rfl,h.at 5 _ rfl,h.at 6 _ rfl,h.at 7 _ rfl,h.at 8 _ rfl,h.at 9 _ rfl,h.at 10 _ rfl,h.at 11 _ rfl,h.at 12 _ rfl,h.at 13 _ rfl⟩
theorem Blk.c5 (h:Blk W g t #[v0,v1,v2,v3,v4]):W.cell? ⟨g,0,none⟩=some v0∧W.cell? ⟨g,1,none⟩=some v1∧W.cell? ⟨g,2,none⟩=some v2∧W.cell? ⟨g,3,none⟩=some v3∧W.cell? ⟨g,4,none⟩=some v4:=⟨h.at 0 _ rfl,h.at 1 _ rfl,h.at 2 _ rfl,h.at 3 _ rfl,h.at 4 _ rfl⟩
theorem zdl:(Tryz.prog.info? 255).map (fun i=>(i.zero,i.size,i.bytes))=some (some (.agg #[.bool false, .int .i64 0, .bool false, .int .i64 0, .int .i64 0, .string { data := #[] }, .string { data := #[] }, .int .i64 0, .bool false, .slice none 0 0]),10,112):=by kernel_rfl
theorem Pc.row_len (p:Pc):p.row.length=10:=rfl
structure DvI (W wr:World) (A1:Option Addr) (c1:Nat) (l1:List Pc) (A2:Option Addr) (c2:Nat) (l2:List Pc):Prop where
 own1:Owns wr W.heap.size 255 10 A1 l1.length c1 (l1.flatMap Pc.row)
 own2:Owns wr W.heap.size 255 10 A2 l2.length c2 (l2.flatMap Pc.row)
 ne:∀ g,ownB A1=some g→ownB A2≠some g
 bel:Below W.heap.size W wr
section
variable {W wr w':World} {A1:Option Addr} {c1:Nat} {l1:List Pc} {A2:Option Addr} {c2:Nat} {l2:List Pc}
theorem Owns.later9 {size:Nat} (h:Owns w base e size A n c xs) (hb:Below w.heap.size w w'):Owns w' base e size A n c xs:=h.of_block (fun k hk=>hb.block k (h.block k hk).2)
theorem Owns.grown9 {size:Nat} (h:Owns w base e size A n c xs) {r:Option Nat} (hg:w.grownBy w' r) (B:∀ g,ownB A=some g→r≠some g):Owns w' base e size A n c xs:=h.of_block (fun k hk=>hg.block k (h.block k hk).2 (fun e=>B k hk e.symm))
theorem DvI.later (h:DvI W wr A1 c1 l1 A2 c2 l2) (hb:Below wr.heap.size wr w'):DvI W w' A1 c1 l1 A2 c2 l2:=⟨h.own1.later9 hb,h.own2.later9 hb,h.ne,h.bel.trans (hb.mono h.bel.size)⟩
theorem DvI.grow1 (h:DvI W wr A1 c1 l1 A2 c2 l2) (p:Pc) (ho:Owns w' W.heap.size 255 10 A' (l1.length+1) c' (l1.flatMap Pc.row++p.row)) (hg:wr.grownBy w' (ownB A1)) (B:ownB A'=ownB A1∨∀ g,ownB A'=some g→wr.heap.size≤g):DvI W w' A' c' (l1 ++ [p]) A2 c2 l2:=by
 refine ⟨by simpa using ho,h.own2.grown9 hg (fun g e A=>h.ne g A e),fun g e A => ?_,zek h.bel h.own1 hg h.bel.size (Nat.le_refl _)⟩
 rcases B with h1|h1
 · exact h.ne g (h1 ▸ e) A
 · have:=(h.own2.block g A).2;have:=h1 g e;omega
theorem DvI.grow2 (h:DvI W wr A1 c1 l1 A2 c2 l2) (p:Pc) (ho:Owns w' W.heap.size 255 10 A' (l2.length+1) c' (l2.flatMap Pc.row++p.row)) (hg:wr.grownBy w' (ownB A2)) (B:ownB A'=ownB A2∨∀ g,ownB A'=some g→wr.heap.size≤g):DvI W w' A1 c1 l1 A' c' (l2 ++ [p]):=by
 refine ⟨h.own1.grown9 hg (fun g e A=>h.ne g e A),by simpa using ho,fun g e A => ?_,zek h.bel h.own2 hg h.bel.size (Nat.le_refl _)⟩
 rcases B with h1|h1
 · exact h.ne g e (h1 ▸ A)
 · have:=(h.own1.block g e).2;have:=h1 g A;omega
end
theorem zom (p:Pc) (hp:p.ok) (g:Nat) (now:Int) (W:World) (hg:W.cell? ⟨g,0,none⟩=some (.int .i64 now)) (hlt:g<W.heap.size):Calls Tryz.prog 110 #[.agg #[.bool p.f.lost, .int .i64 p.f.d, .bool p.f.again, .int .i64 p.f.ad, .int .i64 p.no, .string { data := #[97] }, .string { data := #[98] }, .int .i64 p.sent, .bool p.second, .slice p.A p.zs.length p.c], .pointer (some ⟨g,0,none⟩)] W fun e w'=>e = .returned (.bool (decide (p.at_≤now)))∧Below W.heap.size W w':=by
 have D:=zde p hp
 unfold Pc.row at D
 replace D:=Z9 D
 obtain ⟨X,G⟩:=nm9 (W.alloc (.cells #[.bool p.f.lost, .int .i64 p.f.d, .bool p.f.again, .int .i64 p.f.ad, .int .i64 p.no, .string { data := #[97] }, .string { data := #[98] }, .int .i64 p.sent, .bool p.second, .slice p.A p.zs.length p.c] 255))
 obtain ⟨h,F⟩:=nm9 W.heap.size
 have B:=Blk.new W 255 #[.bool p.f.lost, .int .i64 p.f.d, .bool p.f.again, .int .i64 p.f.ad, .int .i64 p.no, .string { data := #[97] }, .string { data := #[98] }, .int .i64 p.sent, .bool p.second, .slice p.A p.zs.length p.c]
 have E:=(Below.refl W.heap.size W).alloc (Nat.le_refl _) (.cells #[.bool p.f.lost, .int .i64 p.f.d, .bool p.f.again, .int .i64 p.f.ad, .int .i64 p.no, .string { data := #[97] }, .string { data := #[98] }, .int .i64 p.sent, .bool p.second, .slice p.A p.zs.length p.c] 255)
 have H:=(E.cell (p:=⟨g,0,none⟩) hlt).trans hg
 rw [← G] at B E H
 rw [← F] at B
 have U:=B.at 0 _ rfl
 have T:=B.at 1 _ rfl
 have R:=B.at 2 _ rfl
 have P:=B.at 3 _ rfl
 have O:=B.at 4 _ rfl
 have N:=B.at 5 _ rfl
 have M:=B.at 6 _ rfl
 have L:=B.at 7 _ rfl
 have K:=B.at 8 _ rfl
 have J:=B.at 9 _ rfl
 have I:=Z9 E
 have Y:=Z9 G
 have Z:=Z9 F
 clear E B hg G F
 go_enter Tryz.func110,Tryz.ntmps110
 go_upto_region 1 with fail
 rw [← Y.out,← Z.out]
 go_region_held3 (fun w'=>Below X.heap.size X w'∧w'.cell? ⟨g,0,none⟩=some (.int .i64 now)∧w'.cell? ⟨h,0,none⟩=some (.bool p.f.lost)∧w'.cell? ⟨h,1,none⟩=some (.int .i64 p.f.d)∧w'.cell? ⟨h,2,none⟩=some (.bool p.f.again)∧w'.cell? ⟨h,3,none⟩=some (.int .i64 p.f.ad)∧w'.cell? ⟨h,4,none⟩=some (.int .i64 p.no)∧w'.cell? ⟨h,5,none⟩=some (.string { data := #[97] })∧w'.cell? ⟨h,6,none⟩=some (.string { data := #[98] })∧w'.cell? ⟨h,7,none⟩=some (.int .i64 p.sent)∧w'.cell? ⟨h,8,none⟩=some (.bool p.second)∧w'.cell? ⟨h,9,none⟩=some (.slice p.A p.zs.length p.c))
  (first|assumption|((try go_split_ands);refine zcv ?_ (fun C=>⟨zae C H,zae C U,zae C T,zae C R,zae C P,zae C O,zae C N,zae C M,zae C L,zae C K,zae C J⟩);(with_reducible repeat first|assumption|exact Below.refl _ _|exact zak (by assumption) (by assumption)|refine Below.drew ?_|refine zaj ?_ _)))
  (first
   | (go_at_call 108;refine (D.out _).mono ?_;rintro e w7 ⟨rfl,V⟩;have b:Below X.heap.size X w7:=zak V (by (try go_split_ands);first|assumption|exact Below.drew (Below.refl _ _))))
 all_goals
  go_wp2_with fail
  go_ret
  exact ⟨by first|rfl|simp,I.out.trans (b.mono I.out.size)⟩
def DivR (ps:List Pc) (now:Int) (W:World) (e:Ending) (w':World):Prop:=∃ (A1:Option Addr) (c1:Nat) (A2:Option Addr) (c2 n1 n2:Nat),e = .returned (.tuple #[.slice A1 n1 c1, .slice A2 n2 c2])∧n1=(ps.filter fun p=>decide (p.at_≤now)).length∧n2=(ps.filter fun p => !decide (p.at_≤now)).length∧DvI W w' A1 c1 (ps.filter fun p=>decide (p.at_≤now)) A2 c2 (ps.filter fun p => !decide (p.at_≤now))
theorem zey {α : Type} (f : α → Bool) (l:List α) (k:Nat) (a : α) (h:l[k]? = some a):(l.take (k+1)).filter f=(l.take k).filter f++if f a then [a] else []:=by
 rw [List.take_add_one,h,List.filter_append]
 cases hf:f a<;>simp [hf]
theorem zvb (A:Option Addr) (c g:Nat) (now:Int) (ps:List Pc) (W:World) (X:RowsAt W W.heap.size 10 Pc.row A ps) (ok:∀ p∈ps,p.ok) (hl:ps.length≤1000) (hg:W.cell? ⟨g,0,none⟩=some (.int .i64 now)) (hlt:g<W.heap.size):Calls Tryz.prog 109 #[.slice A ps.length c, .func (Fn.func 110) #[] #[.pointer (some ⟨g,0,none⟩)]] W (DivR ps now W):=by
 go_enter Tryz.func109,Tryz.ntmps109
 go_wp2_with fail
 have Q:=Z9 X
 have a:=Z9 hg
 clear X hg
 go_loopw [4,5,10] (fun y x i wr => ∃ (j:Nat) (A1:Option Addr) (c1:Nat) (A2:Option Addr) (c2 n1 n2:Nat),j≤ps.length∧i = .int .i64 j∧y = .slice A1 n1 c1∧x = .slice A2 n2 c2∧Hid (n1=((ps.take j).filter fun p=>decide (p.at_≤now)).length∧n2=((ps.take j).filter fun p => !decide (p.at_≤now)).length)∧Hid (DvI W wr A1 c1 ((ps.take j).filter fun p=>decide (p.at_≤now)) A2 c2 ((ps.take j).filter fun p => !decide (p.at_≤now)))) (fun _ _ i _=>ps.length-(intOf i).toNat)
 case atStart=>exact ⟨0,none,0,none,0,0,0,Nat.zero_le _,rfl,rfl,rfl,Z9 ⟨rfl,rfl⟩,Z9 ⟨Owns.nil,Owns.nil,(fun g e=>by cases e),Below.refl _ _⟩⟩
 case round =>
  obtain ⟨j,A1,c1,A2,c2,n1,n2,hj,rfl,rfl,rfl,E,G⟩:=hrel
  by_cases Cx:j<ps.length
  · obtain ⟨p,hp⟩:∃ p,ps[j]? = some p:=⟨_,List.getElem?_eq_getElem Cx⟩
    obtain ⟨b,off,rfl,w,z0,z1,v,u,t,o,n,m,l,h⟩:=zhv (Q.out.keep (w':=wr) (fun _ hp=>G.out.bel.cell hp)) hp
    have Ct:(0:Int)≤(j:Int):=by omega
    have Cn:(j:Int)<(ps.length:Int):=by omega
    have AV:b<wr.heap.size:=Nat.lt_of_lt_of_le w G.out.bel.size
    have Bh:g<wr.heap.size:=Nat.lt_of_lt_of_le hlt G.out.bel.size
    have Y:=(G.out.bel.cell (p:=⟨g,0,none⟩) hlt).trans a.out
    have z:=Z9 fun (V:World) h1 h2=>zom p (ok p (List.mem_of_getElem? hp)) g now V h1 h2
    have I:=Z9 (zey (fun p=>decide (p.at_≤now)) ps j p hp)
    have H:=Z9 (zey (fun p => !decide (p.at_≤now)) ps j p hp)
    have T:=(((Below.refl _ wr).alloc (Nat.le_refl _) (.cells #[.bool p.f.lost, .int .i64 p.f.d, .bool p.f.again, .int .i64 p.f.ad, .int .i64 p.no, .string { data := #[97] }, .string { data := #[98] }, .int .i64 p.sent, .bool p.second, .slice p.A p.zs.length p.c] 255)).cell (p:=⟨g,0,none⟩) Bh).trans Y
    have Az:n1≤1000∧n2≤1000:=by
     obtain ⟨D,C⟩:=E.out
     have h1:=List.length_filter_le (fun p:Pc=>decide (p.at_≤now)) (ps.take j)
     have h2:=List.length_filter_le (fun p:Pc => !decide (p.at_≤now)) (ps.take j)
     have h3:(ps.take j).length≤1000:=by rw [List.length_take];omega
     omega
    clear hp Y
    go_wp2_with fail
    refine (z.out _ T (by simp;omega)).mono ?_
    rintro e w1 ⟨rfl,P⟩
    have B:=Z9 ((Blk.new wr 255 #[.bool p.f.lost, .int .i64 p.f.d, .bool p.f.again, .int .i64 p.f.ad, .int .i64 p.no, .string { data := #[97] }, .string { data := #[98] }, .int .i64 p.sent, .bool p.second, .slice p.A p.zs.length p.c]).later P)
    have J:=Z9 (G.out.later (((Below.refl _ wr).alloc (Nat.le_refl _) (.cells #[.bool p.f.lost, .int .i64 p.f.d, .bool p.f.again, .int .i64 p.f.ad, .int .i64 p.no, .string { data := #[97] }, .string { data := #[98] }, .int .i64 p.sent, .bool p.second, .slice p.A p.zs.length p.c] 255)).trans (P.mono (by simp))))
    clear z0 z1 v u t o n m l h P T
    have y0:=B.out.at 0 _ rfl
    have y1:=B.out.at 1 _ rfl
    have y2:=B.out.at 2 _ rfl
    have y3:=B.out.at 3 _ rfl
    have y4:=B.out.at 4 _ rfl
    have y5:=B.out.at 5 _ rfl
    have y6:=B.out.at 6 _ rfl
    have y7:=B.out.at 7 _ rfl
    have y8:=B.out.at 8 _ rfl
    have y9:=B.out.at 9 _ rfl
    have hh:=B.out.lt
    have U:W.heap.size≤w1.heap.size:=J.out.bel.size
    by_cases hd:p.at_≤now
    · have N:decide (p.at_≤now)=true:=by simpa using hd
      rw [N] at I H ⊢
      go_wp2_with (at_builtin;refine zan (w0:=w1) rfl _ _ 251 rfl W.heap.size 255 10 112 _ Tryz.underlying251 zdl rfl (by decide) A1 n1 c1 _ rfl (by rw [E.out.1];exact J.out.own1) [.bool p.f.lost, .int .i64 p.f.d, .bool p.f.again, .int .i64 p.f.ad, .int .i64 p.no, .string { data := #[97] }, .string { data := #[98] }, .int .i64 p.sent, .bool p.second, .slice p.A p.zs.length p.c] rfl (by simp [Value.oneCell']) rfl (by unfold maxLen;omega) (by omega) U ?_;intro R c9 v1 K M O)
      refine ⟨⟨j+1,R,c9,A2,c2,n1+1,n2,by omega,by simp,rfl,rfl,Z9 ?_,Z9 ?_⟩,?_⟩
      · rw [I.out,H.out];obtain ⟨D,C⟩:=E.out;simp;omega
      · have F:=J.out.grow1 p (by rw [← E.out.1];exact K) M O
        have D:=I.out;have C:=H.out
        simp only [if_true,Bool.not_true,Bool.false_eq_true,if_false,List.append_nil] at D C
        rw [D,C];exact F
      · simp [intOf];omega
    · have N:decide (p.at_≤now)=false:=by simpa using hd
      rw [N] at I H ⊢
      go_wp2_with (at_builtin;refine zan (w0:=w1) rfl _ _ 251 rfl W.heap.size 255 10 112 _ Tryz.underlying251 zdl rfl (by decide) A2 n2 c2 _ rfl (by rw [E.out.2];exact J.out.own2) [.bool p.f.lost, .int .i64 p.f.d, .bool p.f.again, .int .i64 p.f.ad, .int .i64 p.no, .string { data := #[97] }, .string { data := #[98] }, .int .i64 p.sent, .bool p.second, .slice p.A p.zs.length p.c] rfl (by simp [Value.oneCell']) rfl (by unfold maxLen;omega) (by omega) U ?_;intro R c9 v1 K M O)
      refine ⟨⟨j+1,A1,c1,R,c9,n1,n2+1,by omega,by simp,rfl,rfl,Z9 ?_,Z9 ?_⟩,?_⟩
      · rw [I.out,H.out];obtain ⟨D,C⟩:=E.out;simp;omega
      · have F:=J.out.grow2 p (by rw [← E.out.2];exact K) M O
        have D:=I.out;have C:=H.out
        simp only [if_true,Bool.not_false,Bool.false_eq_true,if_false,List.append_nil] at D C
        rw [D,C];exact F
      · simp [intOf];omega
  · obtain rfl:j=ps.length:=by omega
    have hn:¬(ps.length:Int)<(ps.length:Int):=by omega
    have F:=G.out
    have L:=E.out
    rw [List.take_of_length_le (Nat.le_refl _)] at F L
    have H9:=Z9 F
    have Z:=Z9 L
    clear F L
    go_wp2_with fail
    go_ret2
    exact ⟨A1,c1,A2,c2,n1,n2,rfl,Z.out.1,Z.out.2,H9.out⟩
end
namespace Sb
open Go.RowKit
structure NumI (sr:Int) (p:Pt) (i row many:Nat):Prop where
 codec:p.codec=8
 src:p.src=sr
 seq:p.seq=(many:Int)
 time:p.time=160*(i:Int)
 below:p.below=min (row:Int) 10
 cv:p.cv=0
 ci:p.ci=0
 tn:p.tn=Ev.Snd.zero
 jt:p.jt=(Jb.new 40 200).1
 tk:p.tk=Pk.Tr.zero
 ht:p.ht=0
 pk:p.pk=(many:Int)
 oc:0≤p.oc∧p.oc≤4294967295
 seed:p.seed=sr
 le:many≤i
 i60:i≤60
def rowN (row:Nat) (zs:List Int):Nat:=if Ev.lev zs<60 then 0 else row+1
theorem jb40:Jb.valid (Jb.new 40 200).1=true∧(Jb.new 40 200).1.q=[]∧(Jb.new 40 200).2=0:=by decide +kernel
theorem tn0:Ev.Snd.zero.valid=true:=by decide
theorem NumI.valid {p:Pt} {row many:Nat} (h:NumI src p i row many):p.valid=true:=by
 unfold Pt.valid
 have hn:p.near:=by unfold Pt.near;rw [h.tk,h.ht];decide
 rw [h.codec,h.cv,h.ci,h.jt,h.tn,jb40.1,tn0,decide_eq_true hn]
 decide
theorem NumI.wf {p:Pt} {row many:Nat} (h:NumI src p i row many) (hs:0≤src∧src≤4294967295):p.wf:=by
 have h1:=h.le
 have h2:=h.i60
 constructor
 · rw [h.codec];omega
 · rw [h.src];exact hs
 · rw [h.seq];omega
 · rw [h.time];omega
 · rw [h.below];omega
 · rw [h.tn];decide
 · rw [h.tn];decide
 · rw [h.tn];decide
 · rw [h.seed];exact hs
 · rw [h.pk];omega
 · exact h.oc
theorem NumI.start (hs:0≤src∧src≤4294967295):NumI src (new 8 src 40 200).1 0 0 0∧(new 8 src 40 200).2=0:=by
 have e:new 8 src 40 200=({ Pt.zero with codec:=8,src:=src,mrk:=true,jt:=(Jb.new 40 200).1,seed:=src }, 0):=by
  unfold new
  rw [if_neg (by decide),if_pos (by decide)]
 rw [e]
 exact ⟨⟨rfl,rfl,rfl,rfl,rfl,rfl,rfl,rfl,rfl,rfl,rfl,rfl,(show (0:Int)≤0∧(0:Int)≤4294967295 by decide),rfl,Nat.le_refl _,by omega⟩,rfl⟩
theorem NumI.step {p:Pt} {row many:Nat} (h:NumI src p i row many) (zs:List Int) (hi:i<60) (hl:zs.length=160) :
 ∃ more:Nat,(send0 p zs).2.length=more∧more≤1∧(more=0↔10<rowN row zs)∧NumI src (send0 p zs).1 (i+1) (rowN row zs) (many+more) ∧
  ∀ k∈(send0 p zs).2,k.sq=(many:Int)∧k.ti=160*(i:Int)∧k.src=src∧((k.ty=13)↔rowN row zs=10):=by
 have h1:=h.le
 have hq:Ev.quiet p.below zs=min (rowN row zs:Int) 10:=by
  unfold Ev.quiet rowN
  rw [h.below]
  split<;>omega
 have ht:¬(p.tn.on=true∨p.tn.ends≠0):=by rw [h.tn];decide
 unfold send0
 rw [if_neg ht,hq]
 by_cases hs:min (rowN row zs:Int) 10=10
 · rw [if_pos hs]
   have hr:rowN row zs=row+1:=by unfold rowN at hs ⊢; split at hs<;>rename_i A;omega;rw [if_neg A]
   by_cases hb:p.below<10
   · rw [if_pos hb]
     rw [h.below] at hb
     refine ⟨1,rfl,Nat.le_refl _,by omega,⟨h.codec,h.src,?_,?_,rfl,h.cv,h.ci,h.tn,h.jt,h.tk,h.ht,?_,?_,h.seed,by omega,by omega⟩,?_⟩
     · show (p.seq+1) % 65536=_;rw [h.seq];omega
     · show (p.time+160) % 4294967296=_;rw [h.time];omega
     · show (p.pk+1) % 4294967296=_;rw [h.pk];omega
     · show 0≤(p.oc+_) % 4294967296∧(p.oc+_) % 4294967296≤4294967295;omega
     · intro k hk
       obtain rfl:=List.mem_singleton.1 hk
       exact ⟨h.seq,h.time,h.src,by simp [emit];omega⟩
   · rw [if_neg hb]
     rw [h.below] at hb
     refine ⟨0,rfl,by omega,by omega,⟨h.codec,h.src,h.seq,?_,rfl,h.cv,h.ci,h.tn,h.jt,h.tk,h.ht,h.pk,h.oc,h.seed,by omega,by omega⟩,?_⟩
     · show (p.time+160) % 4294967296=_;rw [h.time];omega
     · intro k hk;cases hk
 · rw [if_neg hs]
   refine ⟨1,rfl,Nat.le_refl _,by omega,⟨h.codec,h.src,?_,?_,rfl,?_,?_,h.tn,h.jt,h.tk,h.ht,?_,?_,h.seed,by omega,by omega⟩,?_⟩
   · show (p.seq+1) % 65536=_;rw [h.seq];omega
   · show (p.time+160) % 4294967296=_;rw [h.time];omega
   · show (enc p.codec (p.cv,p.ci) zs).2.1=0
     rw [h.codec];exact h.cv
   · show (enc p.codec (p.cv,p.ci) zs).2.2=0
     rw [h.codec];exact h.ci
   · show (p.pk+1) % 4294967296=_;rw [h.pk];omega
   · show 0≤(p.oc+_) % 4294967296∧(p.oc+_) % 4294967296≤4294967295;omega
   · intro k hk
     obtain rfl:=List.mem_singleton.1 hk
     refine ⟨h.seq,h.time,h.src,?_⟩
     show p.codec=13↔_
     rw [h.codec]
     omega
def flatL (v:Int):List Int:=List.replicate 160 v
def lv0:Pt := { Pt.zero with codec:=0,src:=7,mrk:=true,jt:=(Jb.new 40 200).1,seed:=7 }
def lvx:Arr:=⟨true,0,0,0,flatL 206⟩
def lvm:Jb.Md:=⟨0,0,true,0,flatL 206⟩
def lv1:Pt := { lv0 with tk:=⟨true,0, -1⟩,ht:=0,st:=Rep.arrive Rep.St.zero 0 800 0,jt:=⟨40,200,100,true,140,0,0, -1,0,100,[⟨140,lvm⟩],0,0,0⟩ }
end Sb
section
open Go.Maps (Keyed)
open Go.RowKit
def heldV (v:Value):Option (DataW Value×List MemPlace):=some (.held v,[])
def cLaw (g:Nat):Value := .agg #[.func (.func 121) #[] #[.pointer (some ⟨g,0,none⟩)], .func (.func 122) #[] #[.pointer (some ⟨g,0,none⟩)]]
def cDel:Value := .agg #[.func (.func 30) #[] #[], .func (.func 84) #[] #[]]
def cNil:Value := .agg #[.nilFunc, .nilFunc]
theorem zgv:Maps.Keyed Tryz.prog 5:=Maps.int_keyed Tryz.underlying5
theorem zlz (w:World):(zeroValue 148).run Tryz.prog w = .ok cNil w:=by kernel_rfl
theorem key8 (n:Int) (h0:0≤n) (h1:n≤255):keyOf Tryz.prog 5 (.int .u8 n)=some (.int .u8 n):=Maps.keyOf_int_mk Tryz.underlying5 (by simp [Lit.wf,IntKind.min,IntKind.max,IntKind.signed,IntKind.bits];omega)
def cMap (b1 b2:Nat):DataW Value:=(((DataW.map []).put (.int .u8 0) (.held (cLaw b1))).put (.int .u8 8) (.held (cLaw b2))).put (.int .u8 96) (.held cDel)
def cAt (b1 b2:Nat) (k:Int):Value:=if k=0 then cLaw b1 else if k=8 then cLaw b2 else if k=96 then cDel else cNil
theorem zvc (b1 b2:Nat) (k:Int) (z:DataW Value):(cMap b1 b2).atKey (.int .u8 k) z=if k=0∨k=8∨k=96 then .held (cAt b1 b2 k) else z:=by
 have B:Maps.IsMap (DataW.map ([]:List (Lit×DataW Value))):=Maps.isMap_empty
 have A:=B.put (.int .u8 0) (.held (cLaw b1))
 have m2:=A.put (.int .u8 8) (.held (cLaw b2))
 unfold cMap cAt
 by_cases h2:k=96
 · subst h2
   rw [Maps.atKey_put_same m2 (by unfold WideAt.IsKeyLit;trivial)]
   simp
 rw [Maps.atKey_put_other (fun e=>h2 (by injection e))]
 by_cases h1:k=8
 · subst h1
   rw [Maps.atKey_put_same A (by unfold WideAt.IsKeyLit;trivial)]
   simp
 rw [Maps.atKey_put_other (fun e=>h1 (by injection e))]
 by_cases h0:k=0
 · subst h0
   rw [Maps.atKey_put_same B (by unfold WideAt.IsKeyLit;trivial)]
   simp
 rw [Maps.atKey_put_other (fun e=>h0 (by injection e)),if_neg (by omega)]
 rfl
structure Cods (w:World) (n b b1 b2:Nat):Prop where
 map:w.ownsMap Tryz.prog 5 heldV b 3 (cMap b1 b2)
 l1:Blk w b1 5 #[.int .u8 1]
 l2:Blk w b2 5 #[.int .u8 2]
 n0:n≤b
 n1:n≤b1
 n2:n≤b2
theorem zby {H:Type} {k:TypeId} {R:Value→Option (DataW H×List MemPlace)} {D:DataW H} (h:w.ownsMap P k R b n D) (hb:Below w.heap.size w w'):w'.ownsMap P k R b n D:=by
 have hlt:=h.lt
 obtain ⟨A,clock,h1,r⟩:=h
 exact ⟨A,clock,(hb.block b hlt).trans h1,r⟩
theorem Cods.later {b1:Nat} (h:Cods w n b b1 b2) (hb:Below w.heap.size w w'):Cods w' n b b1 b2:=⟨zby h.map hb,h.l1.later hb,h.l2.later hb,h.n0,h.n1,h.n2⟩
theorem zbb {b1:Nat} (h:Cods w n b b1 b2) (k:Int) (h0:0≤k) (h1:k≤255):(Instr.lookup 150 (.map (some b)) (.int .u8 k) false).run Tryz.prog w = .ok (cAt b1 b2 k) w ∧
 (Instr.lookup 150 (.map (some b)) (.int .u8 k) true).run Tryz.prog w = .ok (.tuple #[cAt b1 b2 k, .bool (speechB k)]) w:=by
 obtain ⟨L,clock,hb,F,_,H⟩:=h.map
 have hk:=key8 k h0 h1
 have hz:=zlz w
 have C:=zvc b1 b2 k
 rw [H] at C
 have J:¬(k=0∨k=8∨k=96)→cAt b1 b2 k=cNil:=fun hn=>by unfold cAt;rw [if_neg (by omega),if_neg (by omega),if_neg (by omega)]
 have E:∀ c,(Instr.lookup 150 (.map (some b)) (.int .u8 k) c).run Tryz.prog w = .ok (if c then .tuple #[cAt b1 b2 k, .bool (speechB k)] else cAt b1 b2 k) w:=by
  intro c
  rcases Maps.fit_look c zgv Tryz.underlying150 hz hb F hk with ⟨D,_,B⟩|⟨I,y,N,M,D,K,B,hx⟩
  · have hn:¬(k=0∨k=8∨k=96):=fun A=>by
     have h1:=C .nil
     rw [B .nil,if_pos A] at h1
     cases h1
    rw [D,J hn,zeq hn]
  · have G:y.1 = .held I.val:=congrArg Prod.fst (Option.some.inj K).symm
    have A:k=0∨k=8∨k=96:=by
     rcases Classical.em (k=0∨k=8∨k=96) with A|hn
     · exact A
     · have h1:=C .nil
       rw [B .nil,if_neg hn,G] at h1
       cases h1
    have h1:=C .nil
    rw [B .nil,if_pos A,G] at h1
    replace h1:=DataW.held.inj h1
    rw [D,h1,zhp A]
 exact ⟨E false,E true⟩
def CompR (w:World) (l:Int) (e:Ending) (w':World):Prop:=∃ g,e = .returned (cLaw g)∧Blk w' g 5 #[.int .u8 l]∧w.heap.size≤g∧Below w.heap.size w w'
theorem zcr (l:Int) (w:World):Calls Tryz.prog 83 #[.int .u8 l] w (CompR w l):=by
 have A:∀ (fn:Fn) (first cap:Array Value) (w:World),(Instr.makeFunc fn first cap).run Tryz.prog w = .ok (.func fn first cap) w:=fun _ _ _ _=>rfl
 go_enter Tryz.func83,Tryz.ntmps83
 go_wp2_with fail
 exact bodyPost_ret (v:=cLaw w.heap.size) (by simp [results,Tryz.results83,go_sem,cLaw]) rfl ⟨w.heap.size,rfl,(Blk.new w _ _).push _,Nat.le_refl _,((Bel.refl w).push _).push _⟩
theorem zcb {H:Type} (w:World) {rest:List Oper} {o:Oper} {a:Act} {Q:Exit→Act→World→Prop}
 (hg:o.guard=none) (m x v:Operand) (t:TypeId) (hop:o.op=Op.insert t m x v)
 (k e:TypeId) (K:Keyed P k) (ht:P.underlying t=some (.map k e)) (R:Value→Option (DataW H×List MemPlace)) (b n:Nat) (D:DataW H)
 (hm:a.eval m = .map (some b)) (F:w.ownsMap P k R b n D) (hn:n<maxLen) (B val:Value) (A:Lit) (hx:a.eval x=B) (hv:a.eval v=val) (J:keyOf P k B=some A)
 (d:DataW H) (ps:List MemPlace) (I:R val=some (d,ps))
 (G:∀ w',w'.ownsMap P k R b (n+1) (D.put A d)→w.grownBy w' (some b)→wpList P ops Q rest (a.put o.dst undef) w') :
 wpList P ops Q (o::rest) a w:=by
 refine wpList_plain hg fun N L => ?_
 obtain ⟨w',M,E,C⟩:=F.update K ht hn J I
 unfold Oper.wp
 simp [execOp,hop,hm,hx,hv,M,Result.andThen]
 exact L _ _ (G w' E C)
def CodsR (w:World) (e:Ending) (w':World):Prop:=∃ b b1 b2,e = .returned (.map (some b))∧Cods w' w.heap.size b b1 b2∧Below w.heap.size w w'
theorem zbh (w:World):Calls Tryz.prog 43 #[] w (CodsR w):=by
 have d:=@run_makeMap Tryz.prog
 have R:=Z9 (World.ownsMap_made w Tryz.prog 5 heldV)
 have X:=Z9 ((Bel.refl w).push (.map #[] 0))
 go_enter Tryz.func43,Tryz.ntmps43
 go_wp2_with fail
 refine (zcr 1 _).mono ?_
 rintro e w1 ⟨g1,rfl,P,M,I⟩
 have O:=Z9 (zby R.out I)
 have H:=Z9 (X.out.later I)
 have A:=Z9 P
 have c:w.heap.size+1≤g1:=by simpa using M
 clear I P M
 go_wp2_with (refine zcb _ rfl _ _ _ 150 rfl 5 148 zgv Tryz.underlying150 heldV _ 0 _ rfl O.out (by unfold maxLen;omega) _ _ (.int .u8 0) rfl rfl (key8 0 (by omega) (by omega)) (.held (cLaw g1)) [] rfl ?_;intro w2 D B)
 replace A:=Z9 (A.out.grown B (fun e=>by injection e with e;omega))
 have L:=Z9 (show Bel w w2 from H.out.grown B H.out.size (fun g e=>by injection e with e;omega))
 have D:=Z9 D
 clear B O H
 refine (zcr 2 _).mono ?_
 rintro e w3 ⟨g2,rfl,N,B,E⟩
 have Y:=Z9 (zby D.out E)
 have K:=Z9 (L.out.later E)
 replace A:=Z9 (A.out.later E)
 have C:=Z9 N
 have Z:w.heap.size+1≤g2:=by have:=A.out.lt;have:=D.out.lt;omega
 clear E N B D L
 go_wp2_with (refine zcb _ rfl _ _ _ 150 rfl 5 148 zgv Tryz.underlying150 heldV _ 1 _ rfl Y.out (by unfold maxLen;omega) _ _ (.int .u8 8) rfl rfl (key8 8 (by omega) (by omega)) (.held (cLaw g2)) [] rfl ?_;intro w4 T G;obtain ⟨w5,b,U,F⟩:=T.update zgv Tryz.underlying150 (by unfold maxLen;omega) (key8 96 (by omega) (by omega)) (show heldV (.agg #[.func (.func 30) #[] #[], .func (.func 84) #[] #[]])=some (.held cDel,[]) from rfl))
 replace A:=Z9 (A.out.grown G (fun e=>by injection e with e;omega))
 replace C:=Z9 (C.out.grown G (fun e=>by injection e with e;omega))
 have J:=Z9 (show Bel w w4 from K.out.grown G K.out.size (fun g e=>by injection e with e;omega))
 replace A:=Z9 (A.out.grown F (fun e=>by injection e with e;omega))
 replace C:=Z9 (C.out.grown F (fun e=>by injection e with e;omega))
 have V:=Z9 (show Bel w w5 from J.out.grown F J.out.size (fun g e=>by injection e with e;omega))
 go_ret
 exact ⟨w.heap.size,g1,g2,rfl,⟨U,A.out,C.out,Nat.le_refl _,by omega,by omega⟩,V.out⟩
theorem zon (b1 b2:Nat) (k:Int):cAt b1 b2 k=cLaw b1∨cAt b1 b2 k=cLaw b2∨cAt b1 b2 k=cDel∨cAt b1 b2 k=cNil:=by
 unfold cAt
 split
 · exact .inl rfl
 split
 · exact .inr (.inl rfl)
 split
 · exact .inr (.inr (.inl rfl))
 · exact .inr (.inr (.inr rfl))
theorem zdm (k:Int) (w:World) (h0:0≤k) (h1:k≤255):Calls Tryz.prog 20 #[.int .u8 k] w fun e w'=>e = .returned (.bool (speechB k))∧Below w.heap.size w w':=by
 go_enter Tryz.func20,Tryz.ntmps20
 go_wp2_with fail
 refine (zbh _).mono ?_
 rintro e w1 ⟨b,b1,b2,rfl,C,B⟩
 have A:=(zbb C k h0 h1).2
 have D:=Z9 (Bel.later (Bel.refl w) B)
 clear B C
 rcases zon b1 b2 k with h|h|h|h
 all_goals
  rw [h] at A
  simp only [cLaw,cDel,cNil] at A
  clear h
  go_wp2_with fail
  go_ret
  exact ⟨rfl,D.out.push _⟩
end
section
open Go.RowKit
theorem zoo (w:World) :
 Calls Tryz.prog 67 #[.int .u8 1] w fun e w'=>e = .returned (.tuple #[.iface 247 (.agg #[]), .bool true])∧w=w':=by
 go_enter Tryz.func67,Tryz.ntmps67
 go_wp2
 go_ret2
 exact ⟨rfl,rfl⟩
theorem zua (w:World) :
 Calls Tryz.prog 67 #[.int .u8 2] w fun e w'=>e = .returned (.tuple #[.iface 248 (.agg #[]), .bool true])∧w=w':=by
 go_enter Tryz.func67,Tryz.ntmps67
 go_wp2
 go_ret2
 exact ⟨rfl,rfl⟩
theorem zub:(Tryz.prog.info? 5).map (fun i=>(i.zero,i.size,i.bytes))=some (some (.int .u8 0),1,1):=by kernel_rfl
theorem zjb:(Tryz.prog.info? 104).map (fun i=>(i.zero,i.size,i.bytes))=some (some (.int .i16 0),1,2):=by kernel_rfl
theorem zxa (x:Int) (w:World) (h0 : -32768≤x) (h1:x≤32767) :
 Calls Tryz.prog 159 #[.agg #[], .int .i16 x] w fun e w'=>e = .returned (.int .u8 (Cmp.muZ x))∧w.alloc (.cells #[] 247)=w':=by
 skip
 go_enter Tryz.func159,Tryz.ntmps159
 go_wp2_with (go_at_call 161;refine (zwv _ _ (by omega) (by omega)).mono ?_;rintro e w' ⟨rfl,rfl⟩)
 go_ret
 exact ⟨rfl,rfl⟩
theorem zma (w:World):(nilAhead 399 247 (.agg #[]) "dialtone/compand.code").run Tryz.prog w = .ok (some false) w:=by kernel_rfl
theorem zmb (w:World):(method 399 247 (.agg #[]) "dialtone/compand.code").run Tryz.prog w = .ok (159, .agg #[]) w:=by kernel_rfl
theorem zrm (x:Int) (w:World) (h0:0≤x) (h1:x≤255) :
 Calls Tryz.prog 160 #[.agg #[], .int .u8 x] w fun e w'=>e = .returned (.int .i16 (Cmp.fromMuZ x))∧w.alloc (.cells #[] 247)=w':=by
 obtain ⟨n,rfl⟩:=Int.eq_ofNat_of_zero_le h0
 go_enter Tryz.func160,Tryz.ntmps160
 go_wp2_with (go_at_call 162;refine (zll _ _ (by omega)).mono ?_;rintro e w' ⟨rfl,rfl⟩)
 go_ret
 exact ⟨rfl,rfl⟩
theorem zhw (w:World):(nilAhead 399 247 (.agg #[]) "dialtone/compand.sample").run Tryz.prog w = .ok (some false) w:=by kernel_rfl
theorem zhx (w:World):(method 399 247 (.agg #[]) "dialtone/compand.sample").run Tryz.prog w = .ok (160, .agg #[]) w:=by kernel_rfl
theorem zyt (x:Int) (w:World) (h0 : -32768≤x) (h1:x≤32767) :
 Calls Tryz.prog 164 #[.agg #[], .int .i16 x] w fun e w'=>e = .returned (.int .u8 (Cmp.aZ x))∧w.alloc (.cells #[] 248)=w':=by
 skip
 go_enter Tryz.func164,Tryz.ntmps164
 go_wp2_with (go_at_call 166;refine (zyr _ _ (by omega) (by omega)).mono ?_;rintro e w' ⟨rfl,rfl⟩)
 go_ret
 exact ⟨rfl,rfl⟩
theorem zop (w:World):(nilAhead 399 248 (.agg #[]) "dialtone/compand.code").run Tryz.prog w = .ok (some false) w:=by kernel_rfl
theorem zoq (w:World):(method 399 248 (.agg #[]) "dialtone/compand.code").run Tryz.prog w = .ok (164, .agg #[]) w:=by kernel_rfl
theorem zvd (x:Int) (w:World) (h0:0≤x) (h1:x≤255) :
 Calls Tryz.prog 165 #[.agg #[], .int .u8 x] w fun e w'=>e = .returned (.int .i16 (Cmp.fromAZ x))∧w.alloc (.cells #[] 248)=w':=by
 obtain ⟨n,rfl⟩:=Int.eq_ofNat_of_zero_le h0
 go_enter Tryz.func165,Tryz.ntmps165
 go_wp2_with (go_at_call 167;refine (znh _ _ (by omega)).mono ?_;rintro e w' ⟨rfl,rfl⟩)
 go_ret
 exact ⟨rfl,rfl⟩
theorem zjc (w:World):(nilAhead 399 248 (.agg #[]) "dialtone/compand.sample").run Tryz.prog w = .ok (some false) w:=by kernel_rfl
theorem zjd (w:World):(method 399 248 (.agg #[]) "dialtone/compand.sample").run Tryz.prog w = .ok (165, .agg #[]) w:=by kernel_rfl
end
section
attribute [local go_sem ↓] zab zac
attribute [local go_sem] zaa zad
open Go.RowKit
theorem Ev.u64_in (x:Int) (h0:0≤x) (h1:x≤9223372036854775807):IntKind.u64.wrap x=x:=by
 simp [IntKind.wrap,IntKind.bits,IntKind.signed]
 omega
theorem zor {k:IntKind} {a b:Int} (h:a=b):Ending.returned (.int k a) = .returned (.int k b):=by rw [h]
section
variable (A:Option Addr) (zs:List Int) (cap:Nat) (w:World)
theorem Ev.sum_step (zs:List Int) (hz:Within (-32768) 32767 zs) (k:Nat) (h:k<zs.length):(Ev.sumSq (zs.take (k+1)):Int)=(Ev.sumSq (zs.take k):Int)+zs.getD k 0*zs.getD k 0∧0≤zs.getD k 0*zs.getD k 0∧zs.getD k 0*zs.getD k 0≤1073741824∧(Ev.sumSq (zs.take k):Int)≤k*1073741824:=by
 obtain ⟨z0,z1⟩:=hz.at h
 have hs:=Ev.sq_bd _ z0 z1
 have h2:=Ev.sumSq_take zs k h
 have h3:=Ev.sumSq_bd (zs.take k) (hz.take k)
 have h4:(zs.take k).length=k:=by simp;omega
 rw [h4] at h3
 omega
theorem zhy (H:IntsAt w w.heap.size .i16 A zs) (hz:Within (-32768) 32767 zs) (hl:zs.length≤8000) :
 Calls Tryz.prog 49 #[.slice A zs.length cap] w fun e w'=>e = .returned (.int .u8 (Ev.lev zs))∧w=w':=by
 by_cases h0:zs.length=0
 · obtain rfl:=List.eq_nil_of_length_eq_zero h0
   clear h0
   go_enter Tryz.func49,Tryz.ntmps49
   go_wp2
   go_ret
   exact ⟨rfl,rfl⟩
 · obtain ⟨b,off,rfl,hb,qc⟩:=H (by omega)
   have J:=Ev.mean_bd zs hz
   have O:=Ev.sumSq_bd zs hz
   have G:Ev.lev zs=if Ev.sumSq zs / zs.length=0 then 127 else 3*(30-(Nat.log2 (Ev.sumSq zs / zs.length):Int)):=by unfold Ev.lev;rw [if_neg h0]
   have D:=Z9 G
   have M:=Z9 hz
   have Z:((zs.length:Int)==0)=false:=by simpa using h0
   have h1:1≤(zs.length:Int):=by omega
   clear G hz H h0
   go_enter Tryz.func49,Tryz.ntmps49
   go_wp2
   go_loop [3,12] (fun s i => ∃ k:Nat,k≤zs.length∧i = .int .i64 k∧s = .int .u64 (Ev.sumSq (zs.take k))) (fun _ i=>zs.length-(intOf i).toNat)
   case atStart=>exact ⟨0,Nat.zero_le _,rfl,rfl⟩
   case round =>
    obtain ⟨k,hk,rfl,rfl⟩:=hrel
    by_cases hlt:k<zs.length
    · have hc:=qc k hlt
      obtain ⟨s1,V,U,T⟩:=Ev.sum_step zs M.out k hlt
      obtain ⟨z0,z1⟩:=M.out.at hlt
      have HS:=Z9 s1
      have R:(0:Int)≤(Ev.sumSq (zs.take k):Int):=by omega
      clear qc s1
      generalize zs.getD k 0=z at *
      generalize (Ev.sumSq (zs.take k):Int)=S at *
      have c:(0:Int)≤(k:Int):=by omega
      have d:(k:Int)<(zs.length:Int):=by omega
      go_wp2
      go_round
      case rel=>exact ⟨k+1,by omega,by go_num,by rw [HS.out]⟩
      case measure=>simp [intOf];omega
    · obtain rfl:k=zs.length:=by omega
      rw [List.take_length] at *
      have hq:(Ev.sumSq zs:Int) / (zs.length:Int)=((Ev.sumSq zs / zs.length:Nat):Int):=(Int.natCast_ediv _ _).symm
      have N:(Ev.sumSq zs:Int).tdiv (zs.length:Int)=((Ev.sumSq zs / zs.length:Nat):Int):=by rw [Int.tdiv_eq_ediv_of_nonneg (by omega),hq]
      have C:=Z9 N
      clear N
      have X:(Ev.sumSq zs:Int)≤8589934592000:=by omega
      clear hq qc O
      obtain ⟨P,F⟩:=nm9 (Ev.sumSq zs / zs.length)
      rw [← F] at D C J
      clear F
      by_cases hp:P=0
      · subst hp
        have hq:=C.out
        have hw:=Ev.u64_in ((0:Nat):Int) (by omega) (by omega)
        have B:=D.out
        rw [if_pos rfl] at B
        have E:=Z9 B
        clear B
        generalize (Ev.sumSq zs:Int)=S at *
        go_wp2
        go_ret
        exact ⟨zor E.out.symm,rfl⟩
      · have B:=D.out
        rw [if_neg hp] at B
        have f:=Ev.log2_bd P J hp
        have K:(Lib.bitLen ((P:Nat):Int).toNat:Int)=(Nat.log2 P:Int)+1:=by
         rw [Int.toNat_natCast,Ev.bitLen_eq P (by omega),if_neg hp];simp
        have E:=Z9 B
        have I:=Z9 K
        have hq:=C.out
        have hw:=Ev.u64_in (P:Int) (by omega) (by omega)
        clear B K
        generalize Nat.log2 P=L at *
        generalize (Ev.sumSq zs:Int)=S at *
        have Y:((P:Int)==0)=false:=by simpa using hp
        have k1:=Z9 fun W=>Tryz.bits_Len64 (P:Int) W (by omega) (by omega)
        rw [I.out] at k1
        clear I
        go_wp2_with (go_at_call 86;refine (k1.out _).mono ?_;rintro e w1 ⟨rfl,rfl⟩)
        go_ret
        exact ⟨zor (by rw [E.out];omega),rfl⟩
end
end
section
attribute [local go_sem] zaa zad
open Go.RowKit
theorem Ev.amp_bd:∀ k,0≤Ev.amp k∧Ev.amp k≤32767
 | 0=>by decide
 | k + 1 => by
   have:=Ev.amp_bd k
   unfold Ev.amp
   omega
theorem Ev.amp_pow:∀ k:Fin 43,(32767:Int) / 2 ^ k.val=Ev.amp k.val:=by decide +kernel
theorem Ev.info_i16:(Tryz.prog.info? 104).map (fun i=>(i.zero,i.size,i.bytes))=some (some (.int .i16 0),1,2):=by kernel_rfl
theorem Ev.seed_bd (s:Int) (h0:0≤s) (h1:s≤4294967295):∀ k,0≤Ev.seed s k∧Ev.seed s k≤4294967295
 | 0=>⟨h0,h1⟩
 | k+1=>by unfold Ev.seed;omega
theorem Ev.nsamp_bd (a s:Int) (A:0≤a) (k:Nat) : -a≤Ev.nsamp a s k∧Ev.nsamp a s k≤a:=by
 unfold Ev.nsamp
 have h1:=Int.emod_nonneg (Ev.seed s (k+1) / 65536) (b:=2*a+1) (by omega)
 have h2:=Int.emod_lt_of_pos (Ev.seed s (k+1) / 65536) (b:=2*a+1) (by omega)
 omega
section
variable (l s n:Int) (w:World)
def NoiseR (a s:Int) (m:Nat) (w:World) (e:Ending) (w':World):Prop :=
 ∃ (A':Option Addr) (c':Nat),e = .returned (.tuple #[.slice A' m c', .int .u32 (Ev.seed s m), .int .u8 0])∧IntsAt w' w'.heap.size .i16 A' ((List.range m).map fun k=>Ev.nsamp a s k)∧Below w.heap.size w w'
end
end
section
attribute [local go_sem ↓] zab zac
attribute [local go_sem] zaa zad
open Go.RowKit
def stV (v i:Int):Value := .agg #[.int .i64 v, .int .i64 i]
theorem zcl {v i:Int} (h:Dlt.valid v i=true) : -32768≤v∧v≤32767∧0≤i∧i≤88:=by
 simpa [Dlt.valid,and_assoc] using h
theorem zje {v i:Int} (h:Dlt.valid v i=false):(decide (-32768≤v)=false)∨(-32768≤v∧decide (v≤32767)=false)∨(-32768≤v∧v≤32767∧decide (0≤i)=false)∨(-32768≤v∧v≤32767∧0≤i∧decide (i<89)=false∧decide (i≤88)=false):=by
 by_cases h1 : -32768≤v
 · by_cases h2:v≤32767
   · by_cases h3:0≤i
     · right;right;right
       have h4:¬ i≤88:=by
        intro h4
        simp [Dlt.valid,h1,h2,h3,h4] at h
       exact ⟨h1,h2,h3,by simp;omega,by simpa using h4⟩
     · exact .inr (.inr (.inl ⟨h1,h2,by simpa using h3⟩))
   · exact .inr (.inl ⟨h1,by simpa using h2⟩)
 · exact .inl (by simpa using h1)
theorem zhz (v i:Int) (w:World):Calls Tryz.prog 68 #[.agg #[.int .i64 v, .int .i64 i]] w fun e w'=>e = .returned (.bool (Dlt.valid v i))∧w.alloc (.cells #[.int .i64 v, .int .i64 i] 30)=w':=by
 cases hv:Dlt.valid v i
 · rcases zje hv with h1|⟨h1,h2⟩|⟨h1,h2,h3⟩|⟨h1,h2,h3,h4,_⟩
   all_goals
    clear hv
    go_enter Tryz.func68,Tryz.ntmps68
    go_wp2
    go_ret
    exact ⟨rfl,rfl⟩
 · obtain ⟨h1,h2,h3,h4⟩:=zcl hv
   have h5:i<89:=by omega
   clear hv h4
   go_enter Tryz.func68,Tryz.ntmps68
   go_wp2
   go_ret
   exact ⟨rfl,rfl⟩
def StepsAt (w:World) (b:Nat):Prop:=b<w.heap.size∧∀ n,n<89→w.cell? ⟨b,n,none⟩=some (.int .i64 (Dlt.st n))
theorem StepsAt.below (h:StepsAt w b) (hb:Below w.heap.size w w'):StepsAt w' b :=
 ⟨Nat.lt_of_lt_of_le h.1 hb.size,fun n hn=>(hb.cell (p:=⟨b,n,none⟩) h.1).trans (h.2 n hn)⟩
theorem zos (v x:Int) (n:Nat) (A:Int) (B:A=((x-v).natAbs:Int)):Dlt.code v n x=(if x-v<0 then 8 else 0)+min (4*A / Dlt.st n) 7∧0≤4*A / Dlt.st n:=by
 have h:=Dlt.st_bd n
 refine ⟨by unfold Dlt.code;rw [B,Int.toNat_natCast],Int.ediv_nonneg (by omega) (by omega)⟩
theorem zmc (b:Nat) (v i x:Int) (w:World) (hs:StepsAt w b) (hv:Dlt.valid v i=true) (x0 : -32768≤x) (x1:x≤32767) :
 Calls Tryz.prog 71 #[.pointer (some ⟨b,0,none⟩), .agg #[.int .i64 v, .int .i64 i], .int .i64 x] w fun e w'=>e = .returned (.int .i64 (Dlt.code v i x))∧Below w.heap.size w w':=by
 obtain ⟨h1,h2,h3,h4⟩:=zcl hv
 clear hv
 obtain ⟨n,rfl⟩:=Int.eq_ofNat_of_zero_le h3
 obtain ⟨hb,hc⟩:=hs
 have D:=hc n (by omega)
 have C:=Dlt.st_bd n
 obtain ⟨s0,s1⟩:=C
 clear hc
 by_cases hx:x-v<0
 · go_enter Tryz.func71,Tryz.ntmps71
   go_wp2
   go_quiet (fail)
   go_wp2
   all_goals go_ret
   all_goals
    refine ⟨zgo ?_,below_drewN ((Below.refl _ _).alloc (Nat.le_refl _) _) _⟩
    obtain ⟨A,B⟩:=zos v x n (-(x-v)) (by omega)
    rw [A,if_pos hx]
    generalize 4 * -(x-v) / Dlt.st n=q at *
    rw [IntWalk.wrap64_in _ ⟨by omega,by omega⟩]
    try omega
 · go_enter Tryz.func71,Tryz.ntmps71
   go_wp2
   go_quiet (fail)
   go_wp2
   all_goals go_ret
   all_goals
    refine ⟨zgo ?_,below_drewN ((Below.refl _ _).alloc (Nat.le_refl _) _) _⟩
    obtain ⟨A,B⟩:=zos v x n (x-v) (by omega)
    rw [A,if_neg (by omega)]
    generalize 4*(x-v) / Dlt.st n=q at *
    rw [IntWalk.wrap64_in _ ⟨by omega,by omega⟩]
    try omega
theorem zve (c:Int) (n:Nat):0≤(2*(c % 8)+1)*Dlt.st n∧(2*(c % 8)+1)*Dlt.st n≤491505:=by
 obtain ⟨s0,s1⟩:=Dlt.st_bd n
 have h:c % 8=0∨c % 8=1∨c % 8=2∨c % 8=3∨c % 8=4∨c % 8=5∨c % 8=6∨c % 8=7:=by omega
 rcases h with h|h|h|h|h|h|h|h<;>rw [h]<;>omega
theorem zdn (b:Nat) (v i c:Int) (w:World) (hs:StepsAt w b) (hv:Dlt.valid v i=true) (c0:0≤c) (c1:c≤15) :
 Calls Tryz.prog 72 #[.pointer (some ⟨b,0,none⟩), .agg #[.int .i64 v, .int .i64 i], .int .i64 c] w fun e w'=>e = .returned (.agg #[.int .i64 (Dlt.nextV v i c), .int .i64 (Dlt.nextI i c)])∧Below w.heap.size w w':=by
 obtain ⟨h1,h2,h3,h4⟩:=zcl hv
 clear hv
 obtain ⟨n,rfl⟩:=Int.eq_ofNat_of_zero_le h3
 obtain ⟨hb,hc⟩:=hs
 have H:=hc n (by omega)
 have F:=Dlt.st_bd n
 obtain ⟨s0,s1⟩:=F
 clear hc
 have hp:=zve c n
 obtain ⟨B,p1⟩:=hp
 go_enter Tryz.func72,Tryz.ntmps72
 go_wp2
 go_quiet (fail)
 have hd:0≤(2*(c % 8)+1)*Dlt.st n / 8∧(2*(c % 8)+1)*Dlt.st n / 8≤61438:=by omega
 have C:=Z9 (show Dlt.nextV v n c=Dlt.clamp (-32768) 32767 (if 8≤c then v-(2*(c % 8)+1)*Dlt.st n / 8 else v+(2*(c % 8)+1)*Dlt.st n / 8) from rfl)
 clear B p1
 generalize (2*(c % 8)+1)*Dlt.st n / 8=D at *
 obtain ⟨G,d1⟩:=hd
 have E:=Z9 (show Dlt.nextI n c=Dlt.clamp 0 88 (if c % 8<4 then (n:Int)-1 else n+2*(c % 8-3)) from rfl)
 by_cases A:8≤c
 all_goals by_cases hm:c % 8<4
 all_goals
  go_wp2
  refine bodyPost_ret (v := .agg #[.int .i64 (Dlt.nextV v n c), .int .i64 (Dlt.nextI n c)]) ?_ rfl ⟨rfl,?_⟩
  · rw [C.out,E.out]
    first
     | (rw [if_pos A,if_pos hm];simp [results,Tryz.results72,go_sem,Dlt.clamp,← Int.sub_eq_add_neg];done)
     | (rw [if_pos A,if_neg (by omega)];simp [results,Tryz.results72,go_sem,Dlt.clamp,← Int.sub_eq_add_neg];done)
     | (rw [if_neg (by omega),if_pos hm];simp [results,Tryz.results72,go_sem,Dlt.clamp];done)
     | (rw [if_neg (by omega),if_neg (by omega)];simp [results,Tryz.results72,go_sem,Dlt.clamp];done)
  · exact below_drewN (((Below.refl _ _).alloc (Nat.le_refl _) _).alloc (by simp) _) _
theorem zgw:Dlt.szA.size=89:=by simp [Dlt.szA,Dlt.szL]
theorem zgx:(Tryz.prog.info? 196).map (·.size)=some Dlt.szA.size:=by rw [zgw];exact znk
theorem zjf:Dlt.szA.all (·.oneCell')=true:=all_oneCell_toArray Dlt.szL_one
def laidW (w:World):World:=(w.alloc (.cells Dlt.zeroA 196)).setCells w.heap.size 0 Dlt.szA.toList
theorem zcm (w:World):(w.alloc (.cells Dlt.zeroA 196)).there w.heap.size 0 Dlt.szA.size:=by
 rw [zgw];exact zhn (zix w)
theorem zbc (w:World):Below w.heap.size w (laidW w):=zbq (Nat.le_refl _) _ _ _ ((Below.refl _ _).alloc (Nat.le_refl _) _)
theorem zez (w:World):w.heap.size<(laidW w).heap.size:=by
 have h:=(zbq (Nat.le_refl w.heap.size) Dlt.szA.toList 0 (w.alloc (.cells Dlt.zeroA 196)) (Below.refl _ (w.alloc (.cells Dlt.zeroA 196)))).size
 simp at h
 show w.heap.size<(World.setCells _ _ _ _).heap.size
 omega
theorem zdo (w:World):StepsAt (laidW w) w.heap.size:=by
 refine ⟨zez w,fun n hn => ?_⟩
 have h:=World.rangeAt_setCells_same (w.alloc (.cells Dlt.zeroA 196)) w.heap.size 0 Dlt.szL (by rw [Dlt.szL_len,← zgw];exact zcm w)
 have:=h n _ (Dlt.szL_at n hn)
 rw [Nat.zero_add] at this
 exact this
theorem zxb:(Tryz.prog.info? 5).map (fun i=>(i.zero,i.size,i.bytes))=some (some (.int .u8 0),1,1):=by kernel_rfl
theorem zot:(Tryz.prog.info? 104).map (fun i=>(i.zero,i.size,i.bytes))=some (some (.int .i16 0),1,2):=by kernel_rfl
theorem zax (n:Nat) (w:World) (h:n≤8000):Calls Tryz.prog 69 #[.int .i64 n] w fun e w'=>e = .returned (.int .i64 ((4+(n+1) / 2:Nat):Int))∧w=w':=by
 go_enter Tryz.func69,Tryz.ntmps69
 go_wp2
 go_ret
 exact ⟨zgo (by omega),rfl⟩
theorem StepsAt.far (h:StepsAt w b) (hp:b≠p.block) (u:Value):StepsAt (w.setCell p u) b :=
 ⟨by simpa [World.setCell] using h.1,fun n hn=>(World.cell?_setCell_other w p ⟨b,n,none⟩ u (fun e=>hp (by rw [e]))).trans (h.2 n hn)⟩
theorem zgd {k:Nat} {s:Int×Int} {zs:List Int} {c:Int} (hg:B+1+1+1+1≤gt) (h0:Blk w B t #[.int .i64 V, .int .i64 I]) (h1:Blk w (B+1) t #[.int .i64 0, .int .i64 0])
 (hr:w.rowIs (B+1+1+1) t5 N (fun j => .int .u8 (Dlt.packAt s zs k j))) (hs:StepsAt w gt) (hb:Below B wo w) (X:Int) (A:X=Dlt.part s zs (k+1) (k / 2)) (C:Dlt.stAt s zs (k+1)=(Dlt.nextV V I c,Dlt.nextI I c)) :
 Blk (((w.setCell ⟨B,0,none⟩ (.int .i64 (Dlt.nextV V I c))).setCell ⟨B,1,none⟩ (.int .i64 (Dlt.nextI I c))).setCell ⟨B+1+1+1,4+k / 2,none⟩ (.int .u8 X)) B t #[.int .i64 (Dlt.stAt s zs (k+1)).1, .int .i64 (Dlt.stAt s zs (k+1)).2] ∧
 Blk (((w.setCell ⟨B,0,none⟩ (.int .i64 (Dlt.nextV V I c))).setCell ⟨B,1,none⟩ (.int .i64 (Dlt.nextI I c))).setCell ⟨B+1+1+1,4+k / 2,none⟩ (.int .u8 X)) (B+1) t #[.int .i64 0, .int .i64 0] ∧
 (((w.setCell ⟨B,0,none⟩ (.int .i64 (Dlt.nextV V I c))).setCell ⟨B,1,none⟩ (.int .i64 (Dlt.nextI I c))).setCell ⟨B+1+1+1,4+k / 2,none⟩ (.int .u8 X)).rowIs (B+1+1+1) t5 N (fun j => .int .u8 (Dlt.packAt s zs (k+1) j)) ∧
 StepsAt (((w.setCell ⟨B,0,none⟩ (.int .i64 (Dlt.nextV V I c))).setCell ⟨B,1,none⟩ (.int .i64 (Dlt.nextI I c))).setCell ⟨B+1+1+1,4+k / 2,none⟩ (.int .u8 X)) gt ∧
 Below B wo (((w.setCell ⟨B,0,none⟩ (.int .i64 (Dlt.nextV V I c))).setCell ⟨B,1,none⟩ (.int .i64 (Dlt.nextI I c))).setCell ⟨B+1+1+1,4+k / 2,none⟩ (.int .u8 X)):=by
 refine ⟨?_,?_,?_,?_,?_⟩
 · rw [C]
   exact ((h0.set_ 0 _).set_ 1 _).far (by simp;omega) _
 · exact ((h1.far (by simp) _).far (by simp) _).far (by simp) _
 · refine (((hr.setOther (by simp;omega) _).setOther (by simp;omega) _).set (4+k / 2) _).congr fun j _ => ?_
   rw [Dlt.packAt_set,A]
   split<;>rfl
 · exact ((hs.far (by simp;omega) _).far (by simp;omega) _).far (by simp;omega) _
 · exact ((hb.setCell (by simp) _).setCell (by simp) _).setCell (by simp;omega) _
end
section
attribute [local go_sem] zaa zad
open Go.RowKit
def Dlt.okB (bs:List Int) (n:Nat):Prop:=bs.length=4+(n+1) / 2∧bs.getD 2 0≤88∧bs.getD 3 0=0∧(n % 2=1→bs.getD (bs.length-1) 0 % 16=0)
instance (bs:List Int) (n:Nat):Decidable (Dlt.okB bs n):=by unfold Dlt.okB;infer_instance
theorem zrn (x0 x1:Int) (a0:0≤x0) (b0:x0≤255) (A:0≤x1) (b1:x1≤255):bits BinOp.or IntKind.u16 (x0*256) x1=256*x0+x1:=by
 obtain ⟨n0,rfl⟩:=Int.eq_ofNat_of_zero_le a0
 obtain ⟨n1,rfl⟩:=Int.eq_ofNat_of_zero_le A
 have e:((n0:Int)*256)=((n0*256:Nat):Int):=by omega
 have h:n0*256 ||| n1=n0*256+n1:=by
  rw [show (256:Nat)=2 ^ 8 from rfl,← Nat.shiftLeft_eq,Nat.shiftLeft_add_eq_or_of_lt (by omega)]
 rw [e,u16_or_nat (n0*256) n1 (by omega) (by omega),h]
 omega
theorem zjg (n:Int):IntKind.i16.wrap n=(n+32768) % 65536-32768:=by
 simp [IntKind.wrap,IntKind.bits,IntKind.signed]
 try omega
theorem zia (x0 x1:Int) (a0:0≤x0) (b0:x0≤255) (A:0≤x1) (b1:x1≤255):wrap64 (IntKind.i16.wrap (bits BinOp.or IntKind.u16 (x0*256) x1))=(256*x0+x1+32768) % 65536-32768:=by
 rw [zrn x0 x1 a0 b0 A b1,zjg,IntWalk.wrap64_in _ ⟨by omega,by omega⟩]
theorem Dlt.headS_valid (bs:List Int) (n:Nat) (h:Dlt.okB bs n) (hz:Within 0 255 bs):Dlt.valid (Dlt.headS bs).1 (Dlt.headS bs).2=true:=by
 have h2:=(hz.at (i:=2) (by have:=h.1;omega)).1
 have h3:=h.2.1
 unfold Dlt.headS
 generalize 256*bs.getD 0 0+bs.getD 1 0=y
 generalize bs.getD 2 0=z at *
 have B : -32768≤(y+32768) % 65536-32768:=by omega
 have A:(y+32768) % 65536-32768≤32767:=by omega
 simp [Dlt.valid,B,A,h2,h3]
theorem zib (n:Int) (A:Option Addr) (m cap:Nat) (w:World) (hn:n<0∨8000<n) :
 Calls Tryz.prog 32 #[.slice A m cap, .int .i64 n] w fun e w'=>e = .returned (.tuple #[.slice none 0 0, .agg #[.int .i64 0, .int .i64 0], .int .u8 3])∧Below w.heap.size w w':=by
 rcases hn with hn|hn
 all_goals
  go_enter Tryz.func32,Tryz.ntmps32
  go_wp2_with fail
  refine bodyPost_ret (v := .tuple #[.slice none 0 0, .agg #[.int .i64 0, .int .i64 0], .int .u8 3]) (by simp [results,Tryz.results32,go_sem]) rfl ⟨rfl,?_⟩
  repeat (first|exact Below.refl _ _|refine Below.setCell ?_ (by simp) _|refine Below.alloc ?_ (by simp;try omega) _)
theorem zic (n:Nat) (A:Option Addr) (m cap:Nat) (w:World) (hn:n≤8000) (hm:m<4+(n+1) / 2) :
 Calls Tryz.prog 32 #[.slice A m cap, .int .i64 n] w fun e w'=>e = .returned (.tuple #[.slice none 0 0, .agg #[.int .i64 0, .int .i64 0], .int .u8 6])∧Below w.heap.size w w':=by
 go_enter Tryz.func32,Tryz.ntmps32
 go_wp2_with fail
 refine (zax n _ hn).mono ?_
 rintro e w' ⟨rfl,rfl⟩
 generalize hs:4+(n+1) / 2=N at *
 go_wp2_with fail
 refine bodyPost_ret (v := .tuple #[.slice none 0 0, .agg #[.int .i64 0, .int .i64 0], .int .u8 6]) (by simp [results,Tryz.results32,go_sem]) rfl ⟨rfl,?_⟩
 repeat (first|exact Below.refl _ _|refine Below.setCell ?_ (by simp) _|refine Below.alloc ?_ (by simp;try omega) _)
theorem zgy (n:Nat) (A:Option Addr) (bs:List Int) (cap:Nat) (w:World) (hn:n≤8000) (F:IntsAt w w.heap.size .u8 A bs) (hz:Within 0 255 bs) (hm:4+(n+1) / 2≤bs.length) (H:¬Dlt.okB bs n) (J:bs.length≤maxLen) :
 Calls Tryz.prog 32 #[.slice A bs.length cap, .int .i64 n] w fun e w'=>e = .returned (.tuple #[.slice none 0 0, .agg #[.int .i64 0, .int .i64 0], .int .u8 5])∧Below w.heap.size w w':=by
 obtain ⟨b,off,rfl,E,qc⟩:=F (by omega)
 have c2:=qc 2 (by omega)
 have c3:=qc 3 (by omega)
 have G:=qc (bs.length-1) (by omega)
 obtain ⟨l0,l1⟩:=hz.at (i:=bs.length-1) (by omega)
 obtain ⟨L,g1⟩:=hz.at (i:=2) (by omega)
 obtain ⟨t0,t1⟩:=hz.at (i:=3) (by omega)
 have P:b≠w.heap.size:=by omega
 unfold Dlt.okB at H
 generalize bs.getD 2 0=B at *
 generalize bs.getD 3 0=D at *
 generalize bs.getD (bs.length-1) 0=C at *
 clear F hz qc
 generalize K:bs.length=M at *
 unfold maxLen at J
 have Y:(4:Int)≤(M:Int):=by omega
 have R:(2:Int)<(M:Int):=by omega
 have U:(3:Int)<(M:Int):=by omega
 have X:(0:Int)≤(M:Int)-1:=by omega
 have c:(M:Int)-1<(M:Int):=by omega
 have Z:((M:Int)-1).toNat=M-1:=by omega
 have T:(w.alloc (.cells #[.int .i64 0, .int .i64 0] 30)).cell? ⟨b,off+2,none⟩=some (.int .u8 B):=(World.cell?_alloc_lt w _ _ E).trans c2
 have O:(w.alloc (.cells #[.int .i64 0, .int .i64 0] 30)).cell? ⟨b,off+3,none⟩=some (.int .u8 D):=(World.cell?_alloc_lt w _ _ E).trans c3
 have V:(w.alloc (.cells #[.int .i64 0, .int .i64 0] 30)).cell? ⟨b,off+(M-1),none⟩=some (.int .u8 C):=(World.cell?_alloc_lt w _ _ E).trans G
 clear c2 c3 G
 generalize hs:4+(n+1) / 2=N at *
 have HS:=Z9 hs
 have h:N<M∨(M=N∧88<B)∨(M=N∧B≤88∧D≠0)∨(M=N∧B≤88∧D=0∧(n:Int) % 2=1∧C % 16≠0):=by omega
 clear H hs
 rcases h with h|⟨rfl,h⟩|⟨rfl,h2,h3⟩|⟨rfl,h2,rfl,h4,h5⟩
 all_goals try have I:(C % 16 != 0)=true:=bne_iff_ne.2 h5
 all_goals
  go_enter Tryz.func32,Tryz.ntmps32
  go_wp2_with fail
  refine (zax n _ hn).mono ?_
  rintro e w' ⟨rfl,rfl⟩
  rw [HS.out]
  go_wp2_with fail
  refine (zax n _ hn).mono ?_
  rintro e w' ⟨rfl,rfl⟩
  rw [HS.out]
  go_wp2_with fail
  refine bodyPost_ret (v := .tuple #[.slice none 0 0, .agg #[.int .i64 0, .int .i64 0], .int .u8 5]) (by simp [results,Tryz.results32,go_sem]) rfl ⟨rfl,?_⟩
  repeat (first|exact Below.refl _ _|refine Below.setCell ?_ (by simp) _|refine Below.alloc ?_ (by simp;try omega) _)
theorem zec {r k:Nat} {s:Int×Int} {c:Int} (hg:B+1+1≤gt) (C:gt<r) (h0:Blk w B t #[.int .i64 0, .int .i64 0]) (h1:Blk w (B+1) t #[.int .i64 V, .int .i64 I])
 (hr:w.rowIs r t5 n (fun j => .int .i16 (if j<k then (Dlt.dAt s bs (j+1)).1 else 0))) (hs:StepsAt w gt) (hb:Below B wo w) (A:Dlt.dAt s bs (k+1)=(Dlt.nextV V I c,Dlt.nextI I c)) :
 Blk (((w.setCell ⟨B+1,0,none⟩ (.int .i64 (Dlt.nextV V I c))).setCell ⟨B+1,1,none⟩ (.int .i64 (Dlt.nextI I c))).setCell ⟨r,k,none⟩ (.int .i16 (Dlt.nextV V I c))) B t #[.int .i64 0, .int .i64 0] ∧
 Blk (((w.setCell ⟨B+1,0,none⟩ (.int .i64 (Dlt.nextV V I c))).setCell ⟨B+1,1,none⟩ (.int .i64 (Dlt.nextI I c))).setCell ⟨r,k,none⟩ (.int .i16 (Dlt.nextV V I c))) (B+1) t #[.int .i64 (Dlt.dAt s bs (k+1)).1, .int .i64 (Dlt.dAt s bs (k+1)).2] ∧
 (((w.setCell ⟨B+1,0,none⟩ (.int .i64 (Dlt.nextV V I c))).setCell ⟨B+1,1,none⟩ (.int .i64 (Dlt.nextI I c))).setCell ⟨r,k,none⟩ (.int .i16 (Dlt.nextV V I c))).rowIs r t5 n (fun j => .int .i16 (if j<k+1 then (Dlt.dAt s bs (j+1)).1 else 0)) ∧
 StepsAt (((w.setCell ⟨B+1,0,none⟩ (.int .i64 (Dlt.nextV V I c))).setCell ⟨B+1,1,none⟩ (.int .i64 (Dlt.nextI I c))).setCell ⟨r,k,none⟩ (.int .i16 (Dlt.nextV V I c))) gt ∧
 Below B wo (((w.setCell ⟨B+1,0,none⟩ (.int .i64 (Dlt.nextV V I c))).setCell ⟨B+1,1,none⟩ (.int .i64 (Dlt.nextI I c))).setCell ⟨r,k,none⟩ (.int .i16 (Dlt.nextV V I c))):=by
 refine ⟨?_,?_,?_,?_,?_⟩
 · exact ((h0.far (by simp) _).far (by simp) _).far (by simp;omega) _
 · rw [A]
   exact ((h1.set_ 0 _).set_ 1 _).far (by simp;omega) _
 · have h:=zbf (g:=fun j=>(Dlt.dAt s bs (j+1)).1) ((hr.setOther (a:=⟨B+1,0,none⟩) (by simp;omega) (.int .i64 (Dlt.nextV V I c))).setOther (a:=⟨B+1,1,none⟩) (by simp;omega) (.int .i64 (Dlt.nextI I c)))
   simp only [A] at h
   exact h
 · exact ((hs.far (by simp;omega) _).far (by simp;omega) _).far (by simp;omega) _
 · exact ((hb.setCell (by simp) _).setCell (by simp) _).setCell (by simp;omega) _
end
end Go.Proofs.YtbcgnddpkiemoaaGreat
