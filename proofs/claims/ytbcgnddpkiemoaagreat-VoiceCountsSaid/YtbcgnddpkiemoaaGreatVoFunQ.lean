/- The top of layer 32: small functions: waves, the codecs by number, equal samples. -/
import Derived.Test.YtbcgnddpkiemoaaGreatSs9Q
import Derived.Test.YtbcgnddpkiemoaaGreatJtCopyQ
import Derived.Test.YtbcgnddpkiemoaaGreatSbDecsQ
import Derived.Deep.QuietTactic
import Derived.BigQuiet
import Derived.RegionTactic
import Derived.Deep.RegionHeld3
import Derived.Maps.OwnOps
import Derived.Maps.Views
set_option linter.unusedVariables false
set_option linter.unusedSimpArgs false
set_option maxRecDepth 100000
set_option maxHeartbeats 12800000
namespace Go.Proofs.YtbcgnddpkiemoaaGreat
variable {w wr w':World} {g0 n hi i f taken b off B lo lo' base g:Nat} {v v0 v1 Pn:Value} {P:Program} {y1 e:TypeId} {a1 p:Addr} {now Zb ls mo hi' c m src last z:Int} {t:Ev.Tone} {l:List TW} {A:Option Addr}
section
attribute [local go_sem ↓] zab zac
attribute [local go_sem] zaa zad
open Go.RowKit
def cod3 (x:Int):Int:=if x % 3=0 then 0 else if x % 3=1 then 8 else 96
theorem zdw (x:Int):speechB (cod3 x)=true:=by
 unfold cod3
 split
 · rfl
 split
 · rfl
 · rfl
theorem zin (x:Int) (h0:0≤x) (h1:x≤255) (w:World):Calls Tryz.prog 6 #[.int .u8 x] w fun e w'=>e = .returned (.int .u8 (cod3 x))∧w'=w:=by
 have h3:x % 3=0∨x % 3=1∨x % 3=2:=by omega
 unfold cod3
 have C:∀ W:World,(Instr.index 103 (.agg #[.int .u8 0, .int .u8 8, .int .u8 96]) (.int .u8 0)).run Tryz.prog W = .ok (.int .u8 0) W:=fun W=>by kernel_rfl
 have B:∀ W:World,(Instr.index 103 (.agg #[.int .u8 0, .int .u8 8, .int .u8 96]) (.int .u8 1)).run Tryz.prog W = .ok (.int .u8 8) W:=fun W=>by kernel_rfl
 have A:∀ W:World,(Instr.index 103 (.agg #[.int .u8 0, .int .u8 8, .int .u8 96]) (.int .u8 2)).run Tryz.prog W = .ok (.int .u8 96) W:=fun W=>by kernel_rfl
 rcases h3 with h3|h3|h3
 all_goals
  rw [h3]
  go_enter Tryz.func6,Tryz.ntmps6
  go_wp2
  go_ret
  exact ⟨rfl,rfl⟩
theorem zyi (x:Int) : -32768≤IntKind.i16.wrap x∧IntKind.i16.wrap x≤32767:=by simp only [IntKind.wrap,IntKind.bits,IntKind.signed];simp;omega
theorem ztn {k:Nat} {g:Nat→Int} {v:Int} (hk:k<160) (B:∀ j, -32768≤g j∧g j≤32767) (HR:wr.rowIs g0 104 160 (fun j => .int .i16 (if j<k then g j else 0))) (hb:Below g0 w wr) (hv : -32768≤v∧v≤32767) :
 ∃ (k':Nat) (g':Nat→Int),k'≤160∧Value.int .i64 ((k:Int)+1) = .int .i64 k'∧Hid (∀ j, -32768≤g' j∧g' j≤32767)∧(wr.setCell ⟨g0,k,none⟩ (.int .i16 v)).rowIs g0 104 160 (fun j => .int .i16 (if j<k' then g' j else 0))∧Below g0 w (wr.setCell ⟨g0,k,none⟩ (.int .i16 v)):=by
 refine ⟨k+1,fun j=>if j=k then v else g j,by omega,by push_cast;rfl,Z9 (fun j => ?_),?_,hb.setCell (Nat.le_refl _) _⟩
 · show _≤(if j=k then v else g j)∧(if j=k then v else g j)≤_
   split
   · exact hv
   · exact B j
 · have A:=HR.congr (g:=fun j => .int .i16 (if j<k then (if j=k then v else g j) else 0)) (fun j C=>by by_cases h:j<k<;>simp [h,Nat.ne_of_lt])
   have h3:=zbf (g:=fun j=>if j=k then v else g j) A
   simp only [if_true] at h3
   exact h3
def WaveV (w:World) (e:Ending) (w':World):Prop:=∃ (zs:List Int) (A:Option Addr),zs.length=160∧Within (-32768) 32767 zs∧e = .returned (.slice A 160 160)∧IntsNew w.heap.size w' .i16 A zs∧Below w.heap.size w w'
theorem zdx (D tn:Int) (h0:0≤D) (h1:D≤65535) (t0:0≤tn) (t1:tn≤1000) (w:World):Calls Tryz.prog 7 #[.int .u16 D, .int .i64 tn] w (WaveV w):=by
 have A:=run_make_row' (P:=Tryz.prog) 51 104 (.int .i16 0) 2 Tryz.underlying51 zjb rfl .i64 .i64 160 (by omega) (by omega) w
 obtain ⟨W1,B⟩:=nm9 (w.alloc (.cells (madeCells #[.int .i16 0] 160) 104))
 have E:W1.rowIs w.heap.size 104 160 (fun _ => .int .i16 0):=by rw [B];exact World.rowIs_made w _ _ _
 have C:Below w.heap.size w W1:=by rw [B];exact (Below.refl _ _).alloc (Nat.le_refl _) _
 rw [← B] at A
 change (Instr.makeSlice 51 (.int .i64 160) (.int .i64 160)).run Tryz.prog _=_ at A
 clear B
 go_enter Tryz.func7,Tryz.ntmps7
 go_wp2
 go_loopw [7] (fun i wr => ∃ (k:Nat) (g:Nat→Int),k≤160∧i = .int .i64 k∧Hid (∀ j, -32768≤g j∧g j≤32767)∧wr.rowIs w.heap.size 104 160 (fun j => .int .i16 (if j<k then g j else 0))∧Below w.heap.size w wr)
  (fun i _=>160-(intOf i).toNat)
 case atStart=>exact ⟨0,fun _=>0,Nat.zero_le _,rfl,Z9 (fun _=>⟨(by show (-32768:Int)≤0;decide),(by show (0:Int)≤32767;decide)⟩),E.congr (by simp),C⟩
 case round =>
  obtain ⟨k,g,hk,rfl,F,hr,hb⟩:=hrel
  have G:=Z9 hb
  by_cases hlt:k<160
  · have I:wr.cell? ⟨w.heap.size,k,none⟩=some (.int .i16 0):=by rw [hr.cell hlt];simp
    have K:=hr.frozen k
    have H:=hr.lt
    have HR:=Z9 hr
    have L:=hb.size
    clear hr E C A hb
    have M:(0:Int)≤(k:Int):=by omega
    have N:(k:Int)<(160:Int):=by omega
    go_wp2
    go_roundw
    case rel =>
     exact ztn hlt F.out HR.out G.out (by first|exact zyi _|(simp;omega))
    case measure=>simp [intOf];omega
  · obtain rfl:k=160:=by omega
    have HR:=Z9 hr
    clear hr E C A hb
    go_wp2
    go_ret
    refine ⟨(List.range 160).map g,_,by simp,?_,rfl,⟨IntsAt.of_row (zs:=(List.range 160).map g) HR.out (by simp) (fun i hi => ?_),fun _ J o' e=>by cases e;exact Nat.le_refl _⟩,G.out⟩
    · intro z hz
      obtain ⟨j,_,rfl⟩:=List.mem_map.1 hz
      exact F.out j
    · have h2:i<160:=by simpa using hi
      rw [if_pos h2,List.getD_eq_getElem?_getD]
      simp [h2]
theorem zgm (A B:Option Addr) (zs:List Int) (n c d:Nat) (hn:zs.length=n) (w:World) (F:IntsAt w w.heap.size .i16 A zs) (hB:IntsAt w w.heap.size .i16 B zs) (J:n≤140737488355328) :
 Calls Tryz.prog 11 #[.slice A n c, .slice B n d] w fun e w'=>e = .returned (.bool true)∧Below w.heap.size w w':=by
 subst hn
 go_enter Tryz.func11,Tryz.ntmps11
 go_wp2
 go_loopw [5] (fun i wr => ∃ k:Nat,k≤zs.length∧i = .int .i64 k∧Below w.heap.size w wr) (fun i _=>zs.length-(intOf i).toNat)
 case atStart=>exact ⟨0,Nat.zero_le _,rfl,Below.refl _ _⟩
 case round =>
  obtain ⟨k,hk,rfl,hb⟩:=hrel
  by_cases hlt:k<zs.length
  · obtain ⟨b,off,rfl,H,qc⟩:=F (by omega)
    obtain ⟨b2,C,rfl,I,D⟩:=hB (by omega)
    have G:wr.cell? ⟨b,off+k,none⟩=some (.int .i16 (zs.getD k 0)):=(hb.cell (p:=⟨b,off+k,none⟩) H).trans (qc k hlt)
    have E:wr.cell? ⟨b2,C+k,none⟩=some (.int .i16 (zs.getD k 0)):=(hb.cell (p:=⟨b2,C+k,none⟩) I).trans (D k hlt)
    clear qc D
    generalize zs.getD k 0=z at G E
    have K:(0:Int)≤(k:Int):=by omega
    have L:(k:Int)<(zs.length:Int):=by omega
    go_wp2
    go_quiet (fail)
    go_wp2
    go_roundw
    case rel=>exact ⟨k+1,by omega,by go_num,Bel.drewN hb _⟩
    case measure=>simp [intOf];omega
  · go_wp2
    go_ret
    exact ⟨rfl,hb⟩
def Enc32R (bs:List Int) (s:Int×Int) (w:World) (e:Ending) (w':World):Prop:=∃ (A':Option Addr) (c':Nat),e = .returned (.tuple #[.slice A' bs.length c', .agg #[.int .i64 s.1, .int .i64 s.2]])∧bs.length≤c'∧IntsNew w.heap.size w' .u8 A' bs∧Below w.heap.size w w'
def Dec32R (zs:List Int) (w:World) (e:Ending) (w':World):Prop:=∃ (A':Option Addr) (c':Nat),e = .returned (.slice A' zs.length c')∧IntsNew w.heap.size w' .i16 A' zs∧Below w.heap.size w w'
theorem zio (k:Int) (hk:speechB k=true) (A:Option Addr) (bs:List Int) (n c:Nat) (hn:bs.length=n) (w:World) (E:IntsAt w w.heap.size .u8 A bs) (hz:Within 0 255 bs) (F:n≤8000) (hc:n≤c):Calls Tryz.prog 14 #[.int .u8 k, .slice A n c] w (Dec32R (Sb.decS k bs) w):=by
 subst hn
 have D:=Z9 E
 clear E
 rcases zal.1 hk with rfl|rfl|rfl
 · go_enter Tryz.func14,Tryz.ntmps14
   go_wp2_with fail
   refine (zdv A bs c _ D.out hz F).mono ?_
   rintro e w2 ⟨A1,rfl,C,hb⟩
   go_wp2_with fail
   go_ret
   exact ⟨A1,bs.length,by simp [Sb.decS],C,hb⟩
 · go_enter Tryz.func14,Tryz.ntmps14
   go_wp2_with fail
   refine (zfl A bs c _ D.out hz F).mono ?_
   rintro e w2 ⟨A1,rfl,C,hb⟩
   go_wp2_with fail
   go_ret
   exact ⟨A1,bs.length,by simp [Sb.decS],C,hb⟩
 · have H:bs.length≤maxLen:=by unfold maxLen;omega
   have hd:(Dlt.unpR bs 160).1=Sb.decS 96 bs:=by
    have e:Sb.decS 96 bs=if Sb.Dlt.fits bs 160 then Dlt.unpackL bs 160 else []:=by unfold Sb.decS;rw [if_neg (by decide),if_neg (by decide),if_pos rfl]
    rw [e]
    unfold Dlt.unpR
    rw [if_neg (by decide),show (160:Int).toNat=160 from rfl]
    by_cases h1:bs.length<4+(160+1) / 2
    · rw [if_pos h1,if_neg (fun h=>by have:=h.1;omega)]
    rw [if_neg h1]
    by_cases h2:Dlt.okB bs 160
    · rw [if_pos h2,if_pos (show Sb.Dlt.fits bs 160 from h2)]
    · rw [if_neg h2,if_neg (show ¬Sb.Dlt.fits bs 160 from h2)]
   have B:=Z9 fun (V:World) G=>zfm A bs c 160 V G hz hc H
   rw [hd] at B
   generalize (Dlt.unpR bs 160).2.1=M at B
   generalize (Dlt.unpR bs 160).2.2.1=L at B
   generalize (Dlt.unpR bs 160).2.2.2=K at B
   generalize Sb.decS 96 bs=zs at B ⊢
   clear hd
   go_enter Tryz.func14,Tryz.ntmps14
   go_wp2_with fail
   refine (B.out _ D.out).mono ?_
   rintro e w2 ⟨A1,c1,rfl,C,hb⟩
   have I:=Z9 C
   have J:=Z9 hb
   clear C hb
   go_wp2_with fail
   go_ret
   refine ⟨A1,c1,rfl,?_,?_⟩
   · exact I.out.push _
   · exact Bel.push J.out _
theorem zqm {fn:Func} {tmps:Array Value} {D:Tmp} {p1:Tmp} (h:fn.results = #[.tmp D, .cell p1 y1]) (A:tmps.getD D undef=v0) (B:tmps.getD p1 undef = .pointer (some a1)) (C:(loadVar y1 a1).run P w = .ok v1 w) :
 (results fn tmps).run P w = .ok (.tuple #[v0,v1]) w:=by
 simp only [Array.getD_eq_getD_getElem?] at A B
 simp only [results,h]
 first|(simp [asAddr,A,B,C];done)|(simp [Result.andThen,asAddr,A,B,C];done)|(simp [Sem.run_bind,Result.andThen,asAddr,A,B,C];done)
theorem zjy (v i:Int) (A:Option Addr) (zs:List Int) (c:Nat) (w:World) (E:IntsAt w w.heap.size .i16 A zs) (hz:Within (-32768) 32767 zs) (H:zs.length≤8000):Calls Tryz.prog 13 #[.int .u8 0, .slice A zs.length c, .agg #[.int .i64 v, .int .i64 i]] w (Enc32R (zs.map Cmp.muZ) (v,i) w):=by
 have k1:=Z9 fun (W:World) G=>zlh A zs c W G hz H
 have K:=Z9 (((Bel.refl w).push (.cells #[.int .i64 v, .int .i64 i] 30)).push (.cells #[.int .i64 0, .int .i64 0] 30))
 have T:=Z9 ((Blk.new w 30 #[.int .i64 v, .int .i64 i]).push (.cells #[.int .i64 0, .int .i64 0] 30))
 have U:=Z9 (Blk.new1 w (.cells #[.int .i64 v, .int .i64 i] 30) 30 #[.int .i64 0, .int .i64 0])
 have O:=Z9 ((E.push (.cells #[.int .i64 v, .int .i64 i] 30)).push (.cells #[.int .i64 0, .int .i64 0] 30))
 clear E hz
 go_enter Tryz.func13,Tryz.ntmps13
 go_wp2_with fail
 refine (k1.out _ O.out).mono ?_
 rintro e w1 ⟨A1,rfl,D,C⟩
 have J:=Z9 (K.out.later C)
 have F:=Z9 (T.out.later C)
 have B:=Z9 (U.out.later C)
 have R:=Z9 D
 clear C D
 have c0:=F.out.at 0 _ rfl
 have c1:=F.out.at 1 _ rfl
 have Y:=B.out.at 0 _ rfl
 have X:=B.out.at 1 _ rfl
 have V:=B.out.frozen
 go_upto_region 4 with fail
 go_region
 have N:=B.out.set_ 0 (.int .i64 v)
 have M:=N.set_ 1 (.int .i64 i)
 have L:IntsNew w.heap.size ((w1.setCell ⟨w.heap.size+1,0,none⟩ (.int .i64 v)).setCell ⟨w.heap.size+1,1,none⟩ (.int .i64 i)) .u8 A1 _:=((R.out.setCell (p:=⟨w.heap.size+1,0,none⟩) (by simp) (.int .i64 v)).setCell (p:=⟨w.heap.size+1,1,none⟩) (by simp) (.int .i64 i)).less (by simp;omega)
 have I:Bel w ((w1.setCell ⟨w.heap.size+1,0,none⟩ (.int .i64 v)).setCell ⟨w.heap.size+1,1,none⟩ (.int .i64 i)):=zah (zah J.out (by simp) _) (by simp) _
 go_wp2_with fail
 refine bodyPost_ret (v := .tuple #[.slice A1 zs.length zs.length, .agg #[.int .i64 v, .int .i64 i]]) (zqm Tryz.results13 rfl rfl (run_loadVar_row (P:=Tryz.prog) _ _ _ _ _ _ _ M.drew Tryz.underlying30 rfl (by kernel_rfl))) rfl ⟨A1,zs.length,by rw [List.length_map],by rw [List.length_map];exact Nat.le_refl _,?_,I.drew⟩
 exact L
theorem zmz (v i:Int) (A:Option Addr) (zs:List Int) (c:Nat) (w:World) (E:IntsAt w w.heap.size .i16 A zs) (hz:Within (-32768) 32767 zs) (H:zs.length≤8000):Calls Tryz.prog 13 #[.int .u8 8, .slice A zs.length c, .agg #[.int .i64 v, .int .i64 i]] w (Enc32R (zs.map Cmp.aZ) (v,i) w):=by
 have k1:=Z9 fun (W:World) G=>zqj A zs c W G hz H
 have K:=Z9 (((Bel.refl w).push (.cells #[.int .i64 v, .int .i64 i] 30)).push (.cells #[.int .i64 0, .int .i64 0] 30))
 have T:=Z9 ((Blk.new w 30 #[.int .i64 v, .int .i64 i]).push (.cells #[.int .i64 0, .int .i64 0] 30))
 have U:=Z9 (Blk.new1 w (.cells #[.int .i64 v, .int .i64 i] 30) 30 #[.int .i64 0, .int .i64 0])
 have O:=Z9 ((E.push (.cells #[.int .i64 v, .int .i64 i] 30)).push (.cells #[.int .i64 0, .int .i64 0] 30))
 clear E hz
 go_enter Tryz.func13,Tryz.ntmps13
 go_wp2_with fail
 refine (k1.out _ O.out).mono ?_
 rintro e w1 ⟨A1,rfl,D,C⟩
 have J:=Z9 (K.out.later C)
 have F:=Z9 (T.out.later C)
 have B:=Z9 (U.out.later C)
 have R:=Z9 D
 clear C D
 have c0:=F.out.at 0 _ rfl
 have c1:=F.out.at 1 _ rfl
 have Y:=B.out.at 0 _ rfl
 have X:=B.out.at 1 _ rfl
 have V:=B.out.frozen
 go_upto_region 7 with fail
 go_region
 have N:=B.out.set_ 0 (.int .i64 v)
 have M:=N.set_ 1 (.int .i64 i)
 have L:IntsNew w.heap.size ((w1.setCell ⟨w.heap.size+1,0,none⟩ (.int .i64 v)).setCell ⟨w.heap.size+1,1,none⟩ (.int .i64 i)) .u8 A1 _:=((R.out.setCell (p:=⟨w.heap.size+1,0,none⟩) (by simp) (.int .i64 v)).setCell (p:=⟨w.heap.size+1,1,none⟩) (by simp) (.int .i64 i)).less (by simp;omega)
 have I:Bel w ((w1.setCell ⟨w.heap.size+1,0,none⟩ (.int .i64 v)).setCell ⟨w.heap.size+1,1,none⟩ (.int .i64 i)):=zah (zah J.out (by simp) _) (by simp) _
 go_wp2_with fail
 refine bodyPost_ret (v := .tuple #[.slice A1 zs.length zs.length, .agg #[.int .i64 v, .int .i64 i]]) (zqm Tryz.results13 rfl rfl (run_loadVar_row (P:=Tryz.prog) _ _ _ _ _ _ _ M.drew Tryz.underlying30 rfl (by kernel_rfl))) rfl ⟨A1,zs.length,by rw [List.length_map],by rw [List.length_map];exact Nat.le_refl _,?_,I.drew⟩
 exact L
theorem zip (v i:Int) (A:Option Addr) (zs:List Int) (c:Nat) (w:World) (hv:Dlt.valid v i=true) (O:IntsAt w w.heap.size .i16 A zs) (hz:Within (-32768) 32767 zs) (Y:zs.length≤8000) (h0:0<zs.length):Calls Tryz.prog 13 #[.int .u8 96, .slice A zs.length c, .agg #[.int .i64 v, .int .i64 i]] w (Enc32R (Dlt.packB (v,i) zs) (Dlt.stAt (v,i) zs zs.length) w):=by
 have k1:=Z9 fun (W:World) X=>zhi v i A zs c W hv X hz Y h0
 have V:=Dlt.packB_len (v,i) zs
 generalize Dlt.stAt (v,i) zs zs.length=e at *
 obtain ⟨v2,B⟩:=e
 have d:=Z9 (((Bel.refl w).push (.cells #[.int .i64 v, .int .i64 i] 30)).push (.cells #[.int .i64 0, .int .i64 0] 30))
 have I:=Z9 ((Blk.new w 30 #[.int .i64 v, .int .i64 i]).push (.cells #[.int .i64 0, .int .i64 0] 30))
 have l:=Z9 (Blk.new1 w (.cells #[.int .i64 v, .int .i64 i] 30) 30 #[.int .i64 0, .int .i64 0])
 have j:=Z9 ((O.push (.cells #[.int .i64 v, .int .i64 i] 30)).push (.cells #[.int .i64 0, .int .i64 0] 30))
 clear O hz
 have s0:=I.out.at 0 _ rfl
 have s1:=I.out.at 1 _ rfl
 generalize Dlt.packB (v,i) zs=bs at *
 simp only at k1
 go_enter Tryz.func13,Tryz.ntmps13
 go_wp2_with fail
 refine (k1.out _ j.out).mono ?_
 rintro e w1 ⟨A1,c2,rfl,h,N,F⟩
 have T:=Z9 (d.out.later F)
 have C:=Z9 (I.out.later F)
 have E:=Z9 (l.out.later F)
 have U:=Z9 N
 clear F N s0 s1
 have K:=C.out.frozen
 have Z:=E.out.frozen
 have b0:=C.out.at 0 _ rfl
 have b1:=C.out.at 1 _ rfl
 have M:=E.out.at 0 _ rfl
 have L:=E.out.at 1 _ rfl
 go_upto_region 9 with fail
 have H:((w.alloc (.cells #[.int .i64 v, .int .i64 i] 30)).alloc (.cells #[.int .i64 0, .int .i64 0] 30)).heap.size=w.heap.size+1+1:=zbt _ _ _
 have J:=Z9 ((C.out.set_ 0 (.int .i64 v2)).set_ 1 (.int .i64 B))
 have D:=Z9 ((E.out.far (p:=⟨w.heap.size,0,none⟩) (by simp) (.int .i64 v2)).far (p:=⟨w.heap.size,1,none⟩) (by simp) (.int .i64 B))
 have G:=Z9 (((U.out.setCell (p:=⟨w.heap.size,0,none⟩) (by rw [H];simp only;omega) (.int .i64 v2)).setCell (p:=⟨w.heap.size,1,none⟩) (by rw [H];simp only;omega) (.int .i64 B)))
 have R:=Z9 (show Bel w ((w1.setCell ⟨w.heap.size,0,none⟩ (.int .i64 v2)).setCell ⟨w.heap.size,1,none⟩ (.int .i64 B)) from zah (zah T.out (by simp) _) (by simp) _)
 rw [H] at G
 clear b0 b1 M L K Z C E U T
 generalize (w1.setCell ⟨w.heap.size,0,none⟩ (.int .i64 v2)).setCell ⟨w.heap.size,1,none⟩ (.int .i64 B)=W at J D G R ⊢
 have c0:=J.out.at 0 (.int .i64 v2) rfl
 have c1:=J.out.at 1 (.int .i64 B) rfl
 have M:=D.out.at 0 (.int .i64 0) rfl
 have L:=D.out.at 1 (.int .i64 0) rfl
 have K:=D.out.frozen
 go_region
 have g:=(D.out.set_ 0 (.int .i64 v2)).set_ 1 (.int .i64 B)
 have f:IntsNew w.heap.size ((W.setCell ⟨w.heap.size+1,0,none⟩ (.int .i64 v2)).setCell ⟨w.heap.size+1,1,none⟩ (.int .i64 B)) .u8 A1 bs:=((G.out.setCell (p:=⟨w.heap.size+1,0,none⟩) (by simp) (.int .i64 v2)).setCell (p:=⟨w.heap.size+1,1,none⟩) (by simp) (.int .i64 B)).less (by omega)
 have b:Bel w ((W.setCell ⟨w.heap.size+1,0,none⟩ (.int .i64 v2)).setCell ⟨w.heap.size+1,1,none⟩ (.int .i64 B)):=zah (zah R.out (by simp) _) (by simp) _
 go_wp2_with fail
 refine bodyPost_ret (v := .tuple #[.slice A1 (4+(zs.length+1) / 2) c2, .agg #[.int .i64 v2, .int .i64 B]]) (zqm Tryz.results13 rfl rfl (run_loadVar_row (P:=Tryz.prog) _ _ _ _ _ _ _ g.drew Tryz.underlying30 rfl (by kernel_rfl))) rfl ⟨A1,c2,by rw [V],by rw [V];exact h,?_,b.drew⟩
 exact f
theorem ziq (k v i:Int) (hk:speechB k=true) (A:Option Addr) (zs:List Int) (n c:Nat) (hn:zs.length=n) (w:World) (hv:Dlt.valid v i=true) (B:IntsAt w w.heap.size .i16 A zs) (hz:Within (-32768) 32767 zs) (C:n≤8000) (h0:0<n):Calls Tryz.prog 13 #[.int .u8 k, .slice A n c, .agg #[.int .i64 v, .int .i64 i]] w (Enc32R (Sb.enc k (v,i) zs).1 (Sb.enc k (v,i) zs).2 w):=by
 subst hn
 unfold Sb.enc
 rcases zal.1 hk with rfl|rfl|rfl
 · exact zjy v i A zs c w B hz C
 · exact zmz v i A zs c w B hz C
 · exact zip v i A zs c w hv B hz C h0
end
namespace Jb
open Go.RowKit
def Fine (now high:Int) (w:Wt):Prop:=w.m.ok∧now<w.at_∧w.at_≤562949953421312∧w.m.sq≤high
theorem getD_eq {q:List Wt} {k:Nat} (h:k<q.length):q.getD k Wt.zero=q[k]:=by simp [List.getD_eq_getElem?_getD,h]
theorem okQ_iff (now high:Int) (q:List Wt):okQ now high q↔q.length≤200∧(∀ w∈q,Fine now high w)∧q.Pairwise bef∧q.Pairwise (fun a b=>a.m.sq≠b.m.sq):=by
 constructor
 · intro h
   refine ⟨h.1,fun w hw => ?_,?_,?_⟩
   · obtain ⟨k,hk,rfl⟩:=List.getElem_of_mem hw
     obtain ⟨a,b,c,d,_⟩:=h.2 k hk
     rw [getD_eq hk] at a b c d
     exact ⟨a,b,c,d⟩
   · refine List.pairwise_iff_getElem.2 fun i j hi A B => ?_
     have:=h.asc i j B A
     rwa [getD_eq hi,getD_eq A] at this
   · refine List.pairwise_iff_getElem.2 fun i j hi A B => ?_
     have:=(h.2 j A).2.2.2.2.2 i B
     rwa [getD_eq hi,getD_eq A] at this
 · rintro ⟨h1,h2,h3,h4⟩
   refine ⟨h1,fun k hk => ?_⟩
   obtain ⟨a,b,c,d⟩:=h2 _ (List.getElem_mem hk)
   unfold okAt
   rw [getD_eq hk]
   refine ⟨a,b,c,d,fun h0 => ?_,fun i hi => ?_⟩
   · rw [getD_eq (show k-1<q.length by omega)]
     exact List.pairwise_iff_getElem.1 h3 (k-1) k (by omega) hk (by omega)
   · rw [getD_eq (show i<q.length by omega)]
     exact List.pairwise_iff_getElem.1 h4 i k (by omega) hk hi
theorem left_gt (now:Int):∀ q:List Wt,q.Pairwise bef→∀ w∈left now q,now<w.at_
 | [],_,w,hw=>by cases hw
 | a :: q, h, w, hw => by
   unfold left at hw
   rw [List.dropWhile_cons] at hw
   by_cases A:a.at_≤now
   · rw [if_pos (by simpa using A)] at hw
     exact left_gt now q (List.pairwise_cons.1 h).2 w hw
   · rw [if_neg (by simpa using A)] at hw
     rcases List.mem_cons.1 hw with rfl|hw
     · omega
     · have:=bef_at ((List.pairwise_cons.1 h).1 w hw)
       omega
theorem left_sub (now:Int) (q:List Wt):List.Sublist (left now q) q:=List.dropWhile_sublist _
theorem due_sub (now:Int) (q:List Wt):List.Sublist (due now q) q:=List.takeWhile_sublist _
theorem zli (hi:Int):∀ (l:List Wt) (d:Int),(∀ w∈l,w.m.sq≤hi)→d≤hi→d≤maxSq d l∧maxSq d l≤hi
 | [],d,_,h=>⟨Int.le_refl _,h⟩
 | a :: l, d, h, hd => by
   have h1:=h a List.mem_cons_self
   obtain ⟨B,A⟩:=zli hi l (max d a.m.sq) (fun w hw=>h w (List.mem_cons_of_mem _ hw)) (by omega)
   show d≤maxSq (max d a.m.sq) l∧maxSq (max d a.m.sq) l≤hi
   omega
theorem run0_ok (s:Jt) (now:Int) (h:s.ok) (h1:s.now≤now) (h2:now≤281474976710656) (h3:s.played+(due now s.q).length≤281474976710656):(run0 s now).ok:=by
 obtain ⟨⟨a1,K,J,I,H,L,G⟩,hc,⟨b1,b2,b3⟩,hr,hq⟩:=h
 obtain ⟨q1,q2,A,E⟩:=(okQ_iff _ _ _).1 hq
 have hm:=zli (max s.done s.high) (due now s.q) s.done (fun w hw=>by have:=(q2 w ((due_sub now s.q).subset hw)).2.2.2;omega) (by omega)
 have hl:(left now s.q).length≤s.q.length:=(left_sub now s.q).length_le
 refine ⟨⟨⟨by show 0≤now;omega,h2⟩,K,J,I,H,⟨by show -1≤maxSq _ _;omega,by show maxSq _ _≤_;omega⟩,G⟩,hc,⟨b1,b2,⟨by show 0≤s.played+_;omega,h3⟩⟩,?_,?_⟩
 · rcases hr with hr|⟨D,C,B⟩
   · exact Or.inl hr
   · right
     have e:s.q=[]:=List.eq_nil_of_length_eq_zero D
     show (left now s.q).length=0∧s.high = -1∧maxSq s.done (due now s.q) = -1
     rw [e]
     exact ⟨rfl,C,B⟩
 · refine (okQ_iff _ _ _).2 ⟨by show (left now s.q).length≤200;omega,fun w hw => ?_,A.sublist (left_sub now s.q),E.sublist (left_sub now s.q)⟩
   obtain ⟨f1,f2,F,f4⟩:=q2 w ((left_sub now s.q).subset hw)
   exact ⟨f1,left_gt now s.q A w hw,F,f4⟩
theorem ins_perm (q:List Wt) (w:Wt):List.Perm (ins q w) (w::q):=by
 unfold ins
 have h:=List.perm_middle (a:=w) (l₁ := q.takeWhile fun x=>decide (bef x w)) (l₂ := q.dropWhile fun x=>decide (bef x w))
 rwa [List.takeWhile_append_dropWhile] at h
theorem zwq (a b:Wt) (h:a.m.sq≠b.m.sq):bef a b∨bef b a:=by unfold bef;omega
theorem zqn (w:Wt):∀ q:List Wt,q.Pairwise bef→(∀ x∈q,x.m.sq≠w.m.sq)→(ins q w).Pairwise bef
 | [],_,_=>by simp [ins]
 | a :: q, h, hd => by
   obtain ⟨h1,h2⟩:=List.pairwise_cons.1 h
   by_cases A:bef a w
   · have e:ins (a::q) w=a::ins q w:=by simp [ins,A]
     rw [e]
     refine List.pairwise_cons.2 ⟨fun b hb => ?_,zqn w q h2 (fun x hx=>hd x (List.mem_cons_of_mem _ hx))⟩
     have B:=(ins_perm q w).subset hb
     rcases List.mem_cons.1 B with rfl|B
     · exact A
     · exact h1 b B
   · have e:ins (a::q) w=w::a::q:=by simp [ins,A]
     rw [e]
     have C:bef w a:=(zwq a w (hd a List.mem_cons_self)).resolve_left A
     refine List.pairwise_cons.2 ⟨fun b hb => ?_,h⟩
     rcases List.mem_cons.1 hb with rfl|hb
     · exact C
     · exact bef_trans C (h1 b hb)
theorem ins_len (q:List Wt) (w:Wt):(ins q w).length=q.length+1:=(ins_perm q w).length_eq
theorem zwr (now high:Int) (q:List Wt) (w:Wt) (h:okQ now high q) (hl:q.length<200) (hw:Fine now high w) (hd:∀ x∈q,x.m.sq≠w.m.sq):okQ now high (ins q w):=by
 obtain ⟨q1,q2,B,A⟩:=(okQ_iff _ _ _).1 h
 refine (okQ_iff _ _ _).2 ⟨by rw [ins_len];omega,fun x hx => ?_,zqn w q B hd,?_⟩
 · rcases List.mem_cons.1 ((ins_perm q w).subset hx) with rfl|hx
   · exact hw
   · exact q2 x hx
 · refine (ins_perm q w).symm.pairwise (List.pairwise_cons.2 ⟨fun x hx=>(hd x hx).symm,A⟩) (fun C e=>C e.symm)
theorem zqo (z now high:Int) (q:List Wt) (h:okQ now high q) (z0:0≤z) (z1:z≤562949953421313):z≤lastAt z q∧lastAt z q≤562949953421313:=by
 unfold lastAt
 by_cases h0:q.length=0
 · rw [if_pos h0];omega
 · rw [if_neg h0]
   have:=(h.2 (q.length-1) (by omega)).2.2.1
   omega
theorem zqp (sp d:Int) (h0:0≤sp) (h1:sp≤72057594037927936) (A:0≤d) (d1:d≤2251799813685248):0≤sp+d-(sp+8) / 16∧sp+d-(sp+8) / 16≤72057594037927936:=by omega
theorem meas_ok (s:Jt) (m:Md) (h:s.ok) (hm:m.ok):(meas s m).ok:=by
 obtain ⟨⟨a1,G,L,F,K,E,A⟩,hc,hk,hr,hq⟩:=h
 obtain ⟨J,m2,I⟩:=hm
 obtain ⟨c1,c2,c3⟩:=hc
 have H:∀ (on:Bool),0≤(if on then s.spread+max (s.now-m.ti / 8-s.trans) (s.trans-(s.now-m.ti / 8))-(s.spread+8) / 16 else s.spread)∧(if on then s.spread+max (s.now-m.ti / 8-s.trans) (s.trans-(s.now-m.ti / 8))-(s.spread+8) / 16 else s.spread)≤72057594037927936:=fun on=>by
  cases on
  · exact A
  · exact zqp s.spread _ A.1 A.2 (by omega) (by omega)
 have hs:=H s.on
 have hz:=zqo (s.now+min (s.least+(if s.on then s.spread+max (s.now-m.ti / 8-s.trans) (s.trans-(s.now-m.ti / 8))-(s.spread+8) / 16 else s.spread) / 4) s.most) s.now s.high s.q hq (by omega) (by omega)
 unfold meas
 refine ⟨⟨a1,?_,⟨by show -1125899906842624≤s.now-m.ti / 8;omega,by show s.now-m.ti / 8≤1125899906842624;omega⟩,?_,⟨by show -1≤max s.high m.sq;omega,by show max s.high m.sq≤281474976710656;omega⟩,E,hs⟩,⟨c1,c2,c3⟩,hk,Or.inl rfl,?_⟩
 · show -1125899906842624≤(if _ then _ else s.zero)∧(if _ then _ else s.zero)≤1125899906842624
   split
   · exact ⟨Int.le_trans (by omega) hz.1,Int.le_trans hz.2 (by omega)⟩
   · exact G
 · show -281474976710656≤(if _ then m.ti else s.first)∧(if _ then m.ti else s.first)≤281474976710656
   split
   · exact m2
   · exact F
 · obtain ⟨q1,q2,C,B⟩:=(okQ_iff _ _ _).1 hq
   refine (okQ_iff _ _ _).2 ⟨q1,fun w hw => ?_,C,B⟩
   obtain ⟨f1,f2,D,f4⟩:=q2 w hw
   exact ⟨f1,f2,D,by show w.m.sq≤max s.high m.sq;omega⟩
theorem meas_q (s:Jt) (m:Md):(meas s m).q=s.q∧(meas s m).now=s.now∧(meas s m).late=s.late∧(meas s m).twice=s.twice∧(meas s m).played=s.played∧(meas s m).high=max s.high m.sq∧(meas s m).on=true∧(meas s m).done=s.done∧(meas s m).least=s.least∧(meas s m).most=s.most:=⟨rfl,rfl,rfl,rfl,rfl,rfl,rfl,rfl,rfl,rfl⟩
theorem cnt_ok (s:Jt) (h:s.ok) (l t p:Int) (hl:0≤l∧l≤281474976710656) (ht:0≤t∧t≤281474976710656) (hp:0≤p∧p≤281474976710656):({ s with late:=l,twice:=t,played:=p } : Jt).ok :=
 ⟨h.1,h.2.1,⟨hl,ht,hp⟩,h.2.2.2.1,h.2.2.2.2⟩
theorem zqq (s:Jt) (m:Md) (h:s.ok) (hm:m.ok) (hl:s.late<281474976710656) (ht:s.twice<281474976710656):(put0 s m).1.ok:=by
 have hk:=h.2.2.1
 obtain ⟨k1,C,B⟩:=hk
 have A:=meas_ok s m h hm
 unfold put0
 split
 · exact cnt_ok s h _ _ _ k1 ⟨by omega,by omega⟩ B
 rename_i D
 split
 · exact cnt_ok s h _ _ _ ⟨by omega,by omega⟩ C B
 split
 · exact h
 rename_i F
 dsimp only
 split
 · exact cnt_ok _ A _ _ _ ⟨by show 0≤s.late+1;omega,by show s.late+1≤_;omega⟩ C B
 rename_i E
 split
 · exact A
 rename_i hb
 refine ⟨A.1,A.2.1,A.2.2.1,Or.inl rfl,?_⟩
 have hn:s.now≤281474976710656:=h.1.1.2
 refine zwr s.now (max s.high m.sq) s.q _ A.2.2.2.2 (by omega) ⟨hm,by show s.now<ptime (meas s m) m.ti;omega,by show ptime (meas s m) m.ti≤562949953421312;omega,by show m.sq≤max s.high m.sq;omega⟩ (fun x hx e=>D ?_)
 exact List.any_eq_true.2 ⟨x,hx,by simpa using e⟩
theorem new_ok (l m:Int) (h:cfg l m):(new l m).1.ok:=by
 unfold new
 rw [if_pos h]
 refine ⟨⟨by simp,by simp,by simp,by simp,by simp,by simp,by simp⟩,h,⟨by simp,by simp,by simp⟩,Or.inr ⟨rfl,rfl,rfl⟩,?_⟩
 exact ⟨by simp,fun k hk=>absurd hk (by simp)⟩
theorem play_eq (s:Jt) (t:Int) (h:s.ok) (h1 : -281474976710656≤t) (h2:t≤281474976710656):play s t=ptime s t:=by
 unfold play
 rw [if_pos ⟨h,h1,h2⟩]
theorem put0_cases (s:Jt) (m:Md) (h:s.ok) (hm:m.ok) (hl:s.late<281474976710656) (ht:s.twice<281474976710656) :
 ((put0 s m).2=1∧s.now<play (put0 s m).1 m.ti∧play (put0 s m).1 m.ti≤s.now+120000∧(put0 s m).1.q=ins s.q ⟨play (put0 s m).1 m.ti,m⟩∧(s.q.any fun w=>w.m.sq==m.sq)=false) ∨
 ((put0 s m).2≠1∧(put0 s m).2≠0∧(put0 s m).1.q=s.q∧(s.now<play (put0 s m).1 m.ti→play (put0 s m).1 m.ti≤s.now+120000→(put0 s m).1.done<m.sq→(s.q.any fun w=>w.m.sq==m.sq)=false→¬s.q.length<200)):=by
 have A:=zqq s m h hm hl ht
 have hp:=play_eq _ m.ti A hm.2.1.1 hm.2.1.2
 rw [hp]
 clear hp A
 by_cases h1:(s.q.any fun w=>w.m.sq==m.sq)=true
 · right
   have e:put0 s m=({ s with twice:=s.twice+1 }, 3):=by unfold put0;rw [if_pos h1]
   rw [e]
   exact ⟨by simp,by simp,rfl,fun _ _ _ h2=>by rw [h1] at h2;cases h2⟩
 by_cases h2:s.on=true∧m.sq≤s.done
 · right
   have e:put0 s m=({ s with late:=s.late+1 }, 2):=by unfold put0;rw [if_neg h1,if_pos h2]
   rw [e]
   exact ⟨by simp,by simp,rfl,fun _ _ h3=>by have h4:s.done<m.sq:=h3;omega⟩
 by_cases h3:200≤s.q.length
 · right
   have e:put0 s m=(s,4):=by unfold put0;rw [if_neg h1,if_neg h2,if_pos h3]
   rw [e]
   exact ⟨by simp,by simp,rfl,fun _ _ _ _=>by show ¬s.q.length<200;omega⟩
 by_cases h4:ptime (meas s m) m.ti≤s.now
 · right
   have e:put0 s m=({ (meas s m) with late:=(meas s m).late+1 }, 2):=by unfold put0;rw [if_neg h1,if_neg h2,if_neg h3];dsimp only;rw [if_pos h4]
   rw [e]
   exact ⟨by simp,by simp,rfl,fun h5=>by have h6:s.now<ptime (meas s m) m.ti:=h5;omega⟩
 by_cases h5:s.now+120000<ptime (meas s m) m.ti
 · right
   have e:put0 s m=(meas s m,5):=by unfold put0;rw [if_neg h1,if_neg h2,if_neg h3];dsimp only;rw [if_neg h4,if_pos h5]
   rw [e]
   exact ⟨by simp,by simp,rfl,fun _ h6=>by have B:ptime (meas s m) m.ti≤s.now+120000:=h6;omega⟩
 · left
   have e:put0 s m=({ (meas s m) with q:=ins (meas s m).q ⟨ptime (meas s m) m.ti,m⟩ }, 1):=by unfold put0;rw [if_neg h1,if_neg h2,if_neg h3];dsimp only;rw [if_neg h4,if_neg h5]
   rw [e]
   exact ⟨rfl,by show s.now<ptime (meas s m) m.ti;omega,by show ptime (meas s m) m.ti≤s.now+120000;omega,rfl,by simpa using h1⟩
def ins' (q:List Wt) (w:Wt):List Wt:=q.takeWhile (fun x => !decide (bef w x))++w::q.dropWhile (fun x => !decide (bef w x))
def Near (now:Int) (q:List Wt):Prop:=∀ w∈q,w.at_≤now+120000
theorem near_left {q:List Wt} (h:Near now q) (hn:now≤Zb):Near Zb (left Zb q):=fun w hw=>by
 have:=h w ((left_sub Zb q).subset hw)
 omega
theorem near_ins {q:List Wt} {w:Wt} (h:Near now q) (hw:w.at_≤now+120000):Near now (ins q w):=fun x hx=>by
 rcases List.mem_cons.1 ((ins_perm q w).subset hx) with rfl|hx
 · exact hw
 · exact h x hx
theorem put0_cnt (s:Jt) (m:Md):(put0 s m).1.late≤s.late+1∧(put0 s m).1.twice≤s.twice+1∧(put0 s m).1.played=s.played∧(put0 s m).1.now=s.now∧(put0 s m).1.least=s.least∧(put0 s m).1.most=s.most:=by
 unfold put0
 split
 · exact ⟨by show s.late≤_;omega,Int.le_refl _,rfl,rfl,rfl,rfl⟩
 split
 · exact ⟨Int.le_refl _,by show s.twice≤_;omega,rfl,rfl,rfl,rfl⟩
 split
 · exact ⟨by show s.late≤_;omega,by show s.twice≤_;omega,rfl,rfl,rfl,rfl⟩
 dsimp only
 split
 · exact ⟨Int.le_refl _,by show s.twice≤_;omega,rfl,rfl,rfl,rfl⟩
 split
 · exact ⟨by show s.late≤_;omega,by show s.twice≤_;omega,rfl,rfl,rfl,rfl⟩
 · exact ⟨by show s.late≤_;omega,by show s.twice≤_;omega,rfl,rfl,rfl,rfl⟩
structure Small (n:Int) (s:Jt):Prop where
 ok:s.ok
 late:s.late≤n
 twice:s.twice≤n
 played:s.played≤200*n
theorem small_new (l m:Int) (h:cfg l m):Small 0 (new l m).1:=by
 refine ⟨new_ok l m h,?_,?_,?_⟩<;>(unfold new;rw [if_pos h];exact Int.le_refl _)
theorem small_run {n:Int} {s:Jt} (h:Small n s) (hn:n≤1000) (now:Int) (h1:s.now≤now) (h2:now≤281474976710656):Small (n+1) (run0 s now):=by
 have hl:(due now s.q).length≤s.q.length:=(due_sub now s.q).length_le
 have A:s.q.length≤200:=h.ok.2.2.2.2.1
 have hp:=h.played
 have h0:=h.late
 have h3:=h.twice
 exact ⟨run0_ok s now h.ok h1 h2 (by omega),by show s.late≤_;omega,by show s.twice≤_;omega,by show s.played+((due now s.q).length:Int)≤_;omega⟩
theorem small_put {n:Int} {s:Jt} (h:Small n s) (hn:n≤1000) (now:Int) (h1:s.now≤now) (h2:now≤281474976710656) (m:Md) (hm:m.ok):Small (n+1) (put0 (run0 s now) m).1:=by
 have hr:=small_run h hn now h1 h2
 obtain ⟨c1,c2,c3,_⟩:=put0_cnt (run0 s now) m
 have B:(run0 s now).late=s.late:=rfl
 have A:(run0 s now).twice=s.twice:=rfl
 have h3:=h.late
 have h4:=h.twice
 have h5:=hr.played
 exact ⟨zqq _ m hr.ok hm (by omega) (by omega),by omega,by omega,by omega⟩
theorem chk_run {s:Jt} (h:s.ok) (h1:s.now≤now) (h2:now≤281474976710656):chk s now true=0:=by
 unfold chk
 rw [if_neg (fun hc => ?_),if_neg (by omega)]
 rcases hc with hc|hc|hc
 · exact hc h
 · omega
 · cases hc
theorem chk_put {s:Jt} {m:Md} (h:s.ok) (h1:s.now≤now) (h2:now≤281474976710656) (hm:m.ok):chk s now (decide m.ok)=0:=by
 rw [decide_eq_true hm]
 exact chk_run h h1 h2
theorem zhf {s:Jt} {m:Md} (hm:¬m.ok):chk s now (decide m.ok)=2:=by
 unfold chk
 rw [if_pos (Or.inr (Or.inr (decide_eq_false hm)))]
section
variable (l m seq time:Int)
def smd (i:Nat):Md:=⟨seq+i,time+160*i,false,0,[]⟩
def swt (i:Nat):Wt:=⟨5000+l+20*i,smd seq time i⟩
def stq (a n:Nat):List Wt:=(List.range' a n).map (swt l seq time)
def cnt (i:Nat):Nat:=((20*(i:Int)-l+20) / 20).toNat
def sst (i:Nat):Jt:=⟨l,m,5000+20*i,true,5000+l,time,seq+i,if cnt l i=0 then -1 else seq+cnt l i-1,0,5000-time / 8,stq l seq time (cnt l i) (i+1-cnt l i),0,0,cnt l i⟩
theorem while_all {α : Type} (p : α → Bool):∀ l:List α, (∀ x∈l,p x=true)→l.takeWhile p=l∧l.dropWhile p=[]
 | [],_=>⟨rfl,rfl⟩
 | a :: l, h => by
   obtain ⟨h1,h2⟩:=while_all p l (fun x hx=>h x (List.mem_cons_of_mem _ hx))
   have A:=h a List.mem_cons_self
   rw [List.takeWhile_cons,List.dropWhile_cons,if_pos A,if_pos A,h1]
   exact ⟨rfl,h2⟩
variable (hc:cfg l m) (hs:0≤seq∧seq≤65535) (ht : -2147483648≤time∧time≤2147483647)
end
structure EndJ (ls mo trip:Int) (s:Jt) (i:Nat) (hi:Int):Prop where
 sm:Small i s
 least:s.least=ls
 most:s.most=mo
 spread:s.spread=0
 trans:s.on=true→s.trans=trip
 base:s.on=true→∃ j:Nat,s.first=160*(j:Int)∧s.zero=20*(j:Int)+trip+ls
 qat:∀ a∈s.q,a.at_<20*(i:Int)+trip+ls
 qsq:∀ a∈s.q,a.m.sq<hi
 high:s.high<hi
 done:s.done<hi
 len:s.q.length≤i
theorem zhj {hi:Int} : ∀ (l:List Wt) (d:Int),(∀ w∈l,w.m.sq<hi)→d<hi→maxSq d l<hi
 | [],d,_,h=>h
 | a :: l, d, h, hd => by
   have h1:=h a List.mem_cons_self
   exact zhj l (max d a.m.sq) (fun w hw=>h w (List.mem_cons_of_mem _ hw)) (by omega)
theorem zqr (z:Int) (q:List Wt) (h:∀ a∈q,a.at_<z):lastAt z q=z:=by
 unfold lastAt
 split
 · rfl
 · rename_i h0
   have hlt:q.length-1<q.length:=by omega
   have h1:=h (q.getD (q.length-1) Wt.zero) (by rw [List.getD_eq_getElem?_getD,List.getElem?_eq_getElem hlt];exact List.getElem_mem hlt)
   omega
theorem zto {q:List Wt} {w:Wt} (h:∀ a∈q,a.at_<w.at_):ins q w=q ++ [w]:=by
 have h1:=while_all (fun x=>decide (bef x w)) q (fun x hx=>decide_eq_true (Or.inl (h x hx)))
 unfold ins
 rw [h1.1,h1.2]
theorem EndJ.skip {trip:Int} {s:Jt} {hi:Int} (h:EndJ ls mo trip s i hi) (B:hi≤hi'):EndJ ls mo trip s (i+1) hi' :=
 ⟨⟨h.sm.ok,by have:=h.sm.late;push_cast;omega,by have:=h.sm.twice;push_cast;omega,by have:=h.sm.played;push_cast;omega⟩,h.least,h.most,h.spread,h.trans,h.base,fun a A=>by have:=h.qat a A;push_cast;omega,fun a A=>by have:=h.qsq a A;omega,by have:=h.high;omega,by have:=h.done;omega,by have:=h.len;omega⟩
theorem EndJ.run {trip:Int} {s:Jt} {hi:Int} (h:EndJ ls mo trip s i hi) (B:i≤40) (now:Int) (h1:s.now≤now) (h2:now≤281474976710656):EndJ ls mo trip (run0 s now) (i+1) hi:=by
 have hs:=small_run h.sm (by omega) now h1 h2
 refine ⟨by push_cast;exact hs,h.least,h.most,h.spread,h.trans,h.base,fun a A => ?_,fun a A=>h.qsq a ((left_sub now s.q).subset A),h.high,zhj _ _ (fun w hw=>h.qsq w ((due_sub now s.q).subset hw)) h.done,?_⟩
 · have:=h.qat a ((left_sub now s.q).subset A)
   push_cast;omega
 · have h3:=(left_sub now s.q).length_le
   have h4:=h.len
   show (left now s.q).length≤i+1
   omega
theorem EndJ.put {trip:Int} {s:Jt} {hi:Int} (h:EndJ ls mo trip s i hi) (X:i<40) (hc:cfg ls mo) (t0:0≤trip) (t1:trip≤65535) (h1:s.now≤20*(i:Int)+trip) (m:Md) (hm:m.ok) (F:m.ti=160*(i:Int)) (Z:hi≤m.sq) :
 ∃ s':Jt,put s (20*(i:Int)+trip) m=(s',due (20*(i:Int)+trip) s.q,1,0)∧s'.q=left (20*(i:Int)+trip) s.q ++ [⟨20*(i:Int)+trip+ls,m⟩]∧s'.now=20*(i:Int)+trip∧s'.played=s.played+(due (20*(i:Int)+trip) s.q).length∧EndJ ls mo trip s' (i+1) (m.sq+1):=by
 obtain ⟨now,U⟩:=nm9 (20*(i:Int)+trip)
 rw [← U] at h1 ⊢
 have h2:now≤281474976710656:=by omega
 have R:=chk_put h.sm.ok h1 h2 hm
 have Y:=small_run h.sm (by omega) now h1 h2
 have H:=small_put h.sm (by omega) now h1 h2 m hm
 have C:∀ a∈left now s.q,a.at_<now+ls:=fun a A=>by
  have:=h.qat a ((left_sub now s.q).subset A)
  omega
 have b:maxSq s.done (due now s.q)<hi:=zhj _ _ (fun w hw=>h.qsq w ((due_sub now s.q).subset hw)) h.done
 have c:(left now s.q).length≤i:=Nat.le_trans (left_sub now s.q).length_le h.len
 obtain ⟨c1,c2,c3⟩:=hc
 have T:((run0 s now).q.any fun w=>w.m.sq==m.sq)=false:=by
  rw [List.any_eq_false]
  intro a A
  have:=h.qsq a ((left_sub now s.q).subset A)
  simp;omega
 have P:m.ti / 8=20*(i:Int):=by omega
 have E:(if s.on=true then s.spread+max (now-m.ti / 8-s.trans) (s.trans-(now-m.ti / 8))-(s.spread+8) / 16 else s.spread)=0:=by
  split
  · rename_i ho
    rw [h.spread,h.trans ho,P];omega
  · exact h.spread
 obtain ⟨r,hr⟩:=nm9 (meas (run0 s now) m)
 have M:r.spread=0:=by rw [hr];exact E
 have L:r.trans=trip:=by rw [hr];show now-m.ti / 8=trip;omega
 have K:r.q=left now s.q:=by rw [hr];rfl
 have J:r.high=max s.high m.sq:=by rw [hr];rfl
 have I:r.done=maxSq s.done (due now s.q):=by rw [hr];rfl
 have D:∃ j:Nat,r.first=160*(j:Int)∧r.zero=20*(j:Int)+trip+ls:=by
  rw [hr]
  unfold meas
  simp only
  by_cases hb:(run0 s now).on=false∨(m.mrk=true∧(run0 s now).high<m.sq)
  · rw [if_pos hb,if_pos hb]
    refine ⟨i,F,?_⟩
    show lastAt (now+min (s.least+(if s.on=true then s.spread+max (now-m.ti / 8-s.trans) (s.trans-(now-m.ti / 8))-(s.spread+8) / 16 else s.spread) / 4) s.most) (left now s.q)=_
    rw [E,h.least,h.most,zqr _ _ (fun a A=>by have:=C a A;omega)]
    omega
  · rw [if_neg hb,if_neg hb]
    have ho:s.on=true:=by
     cases hx:s.on
     · exact absurd (Or.inl hx) hb
     · rfl
    exact h.base ho
 have V:ptime r m.ti=now+ls:=by
  obtain ⟨j,O,N⟩:=D
  unfold ptime
  rw [O,N,F];omega
 have G:put0 (run0 s now) m=({ r with q:=ins r.q ⟨now+ls,m⟩ }, 1):=by
  unfold put0
  rw [if_neg (by rw [T];decide),if_neg (by rintro ⟨_,hx⟩;have:m.sq≤maxSq s.done (due now s.q):=hx;omega),if_neg (by show ¬200≤(left now s.q).length;omega)]
  simp only
  rw [← hr,V,if_neg (by show ¬now+ls≤now;omega),if_neg (by show ¬now+120000<now+ls;omega)]
 rw [G] at H
 have B:ins r.q ⟨now+ls,m⟩=left now s.q ++ [⟨now+ls,m⟩]:=by rw [K];exact zto C
 refine ⟨{ r with q:=ins r.q ⟨now+ls,m⟩ }, ?_,B,?_,?_,⟨by push_cast;exact H,by rw [hr];exact h.least,by rw [hr];exact h.most,M,fun _=>L,fun _=>D,fun a A => ?_,fun a A => ?_,?_,?_,?_⟩⟩
 · unfold Jb.put
   rw [R,if_pos rfl,G]
 · rw [hr];rfl
 · rw [hr];rfl
 · replace A:a∈ins r.q ⟨now+ls,m⟩:=A
   rw [B] at A
   rcases List.mem_append.1 A with A|A
   · have:=C a A;push_cast;omega
   · obtain rfl:=List.mem_singleton.1 A
     show now+ls<_
     push_cast;omega
 · replace A:a∈ins r.q ⟨now+ls,m⟩:=A
   rw [B] at A
   rcases List.mem_append.1 A with A|A
   · have:=h.qsq a ((left_sub now s.q).subset A);omega
   · obtain rfl:=List.mem_singleton.1 A
     show m.sq<m.sq+1
     omega
 · show r.high<m.sq+1
   have:=h.high
   rw [J];omega
 · show r.done<m.sq+1
   rw [I];omega
 · show (ins r.q ⟨now+ls,m⟩).length≤i+1
   rw [B];simp;omega
theorem EndJ.start {trip:Int} (hc:cfg ls mo):EndJ ls mo trip (new ls mo).1 0 0:=by
 have hs:=small_new ls mo hc
 have e:(new ls mo).1=⟨ls,mo,0,false,0,0, -1, -1,0,0,[],0,0,0⟩:=by unfold new;rw [if_pos hc]
 rw [e] at hs ⊢
 exact ⟨by simpa using hs,rfl,rfl,rfl,(fun h=>by cases h),(fun h=>by cases h),(fun _ h=>by cases h),(fun _ h=>by cases h),(show (-1:Int)<0 by decide),(show (-1:Int)<0 by decide),by simp⟩
end Jb
section
open Go.RowKit
namespace Sb
theorem zfn {s:Ev.Snd} (h:s.valid=true):s.vol≤63∧(0≤s.len∧s.len≤65535)∧(0≤s.ends∧s.ends≤3)∧(s.on=true→s.ends=0):=by
 unfold Ev.Snd.valid at h
 cases ho:s.on<;>simp [ho] at h ⊢ <;> omega
theorem zws (s:Ev.Snd) (n:Int) (hv:0≤s.vol∧s.vol≤255) (hc:0≤s.code∧s.code≤255) (hs:0≤s.start∧s.start≤4294967295):(0≤(Ev.next s n).s.vol∧(Ev.next s n).s.vol≤255)∧(0≤(Ev.next s n).s.code∧(Ev.next s n).s.code≤255)∧(0≤(Ev.next s n).s.start∧(Ev.next s n).s.start≤4294967295):=by
 have z:(0≤Ev.Snd.zero.vol∧Ev.Snd.zero.vol≤255)∧(0≤Ev.Snd.zero.code∧Ev.Snd.zero.code≤255)∧(0≤Ev.Snd.zero.start∧Ev.Snd.zero.start≤4294967295):=by decide
 unfold Ev.next
 split
 · exact z
 split
 · exact z
 split
 · exact ⟨hv,hc,hs⟩
 split
 · exact ⟨hv,hc,hs⟩
 · show (0≤(if s.ends=1 then Ev.Snd.zero else _:Ev.Snd).vol∧_)∧_
   split
   · exact z
   · exact ⟨hv,hc,hs⟩
end Sb
end
namespace Sb
open Go.RowKit
def downs (ks:List Ev.Key):Nat:=(ks.filter fun k=>k.down).length
def KQ (hd:Ev.Rcv) (i:Nat):Prop:=hd.on=false∨(hd.ended=true∧0≤hd.time∧hd.time<160*(i:Int))
def KS (tn:Ev.Snd) (hd:Ev.Rcv) (i:Nat) (b:Bool):Prop:=hd.on=true∧hd.time=tn.start∧hd.code=tn.code∧hd.ended=b∧0≤tn.start∧tn.start<160*(i:Int)
inductive KI (tn:Ev.Snd) (hd:Ev.Rcv) (i:Nat):Nat→Prop where
 | idle (h1:tn.on=false) (h2:tn.ends=0) (h3:KQ hd i):KI tn hd i 0
 | fresh (h1:tn.on=true) (h2:tn.start=160*(i:Int)) (h3:KQ hd i):KI tn hd i 1
 | held (h1:tn.on=true) (h3:KS tn hd i false):KI tn hd i 0
 | rel (h1:tn.on=false) (h2:tn.ends=3) (h3:KS tn hd i false):KI tn hd i 0
 | ending (h1:tn.on=false) (h2:tn.ends=1∨tn.ends=2) (h3:KS tn hd i true):KI tn hd i 0
theorem KQ.next {hd:Ev.Rcv} (h:KQ hd i):KQ hd (i+1):=by
 rcases h with h|⟨h1,h2,h3⟩
 · exact .inl h
 · exact .inr ⟨h1,h2,by push_cast;omega⟩
theorem zjz {s:Ev.Snd} (hv:s.valid=true) (ho:s.on=true):Ev.next s 160=⟨⟨true,s.code,s.vol,s.start,min (s.len+160) 65535,s.ends⟩,⟨s.start,s.len==0,⟨s.code,false,s.vol,min (s.len+160) 65535⟩⟩,true,0⟩:=by
 unfold Ev.next
 rw [if_neg (by rw [hv];decide),if_neg (by omega),if_pos ho]
theorem zhk {s:Ev.Snd} (hv:s.valid=true) (ho:s.on=false) (he:s.ends≠0):Ev.next s 160=⟨if s.ends=1 then Ev.Snd.zero else ⟨false,s.code,s.vol,s.start,s.len,s.ends-1⟩,⟨s.start,false,⟨s.code,true,s.vol,s.len⟩⟩,true,0⟩:=by
 unfold Ev.next
 rw [if_neg (by rw [hv];decide),if_neg (by omega),if_neg (by rw [ho];decide),if_neg he]
theorem ztp {r:Ev.Rcv} {time:Int} (h:r.on=false∨1≤(time-r.time) % 4294967296∧(time-r.time) % 4294967296<2147483648) :
 Ev.hear r time t=(⟨true,time,t.code,t.dur,t.fin⟩,(if r.on=true∧r.ended=false then [⟨r.code,false,r.time,r.len⟩] else []) ++ [⟨t.code,true,time,0⟩]++(if t.fin=true then [⟨t.code,false,time,t.dur⟩] else [])):=by
 unfold Ev.hear
 rw [if_pos h]
theorem zir {r:Ev.Rcv} {time:Int} (h:¬(r.on=false∨1≤(time-r.time) % 4294967296∧(time-r.time) % 4294967296<2147483648)) (A:(time-r.time) % 4294967296=0∧t.code=r.code∧r.ended=false) :
 Ev.hear r time t=(⟨r.on,r.time,r.code,max r.len t.dur,t.fin⟩,if t.fin=true then [⟨r.code,false,r.time,max r.len t.dur⟩] else []):=by
 unfold Ev.hear
 rw [if_neg h,if_pos A]
theorem zqs {r:Ev.Rcv} {time:Int} (h:¬(r.on=false∨1≤(time-r.time) % 4294967296∧(time-r.time) % 4294967296<2147483648)) (A:¬((time-r.time) % 4294967296=0∧t.code=r.code∧r.ended=false)) :
 Ev.hear r time t=(r,[]):=by
 unfold Ev.hear
 rw [if_neg h,if_neg A]
theorem KI.hear {tn:Ev.Snd} {hd:Ev.Rcv} (h:KI tn hd i f) (hi:i≤40) (hv:tn.valid=true) (I:tn.on=true∨tn.ends≠0) :
 KI (Ev.next tn 160).s (Ev.hear hd (Ev.next tn 160).o.time (Ev.next tn 160).o.tone).1 (i+1) 0∧downs (Ev.hear hd (Ev.next tn 160).o.time (Ev.next tn 160).o.tone).2=f:=by
 obtain ⟨v1,v2,J,v4⟩:=zfn hv
 cases h with
 | idle h1 h2 h3=>rcases I with h|h;rw [h1] at h;cases h;exact absurd h2 h
 | fresh h1 h2 h3 =>
   rw [zjz hv h1]
   have hc:hd.on=false∨1≤(tn.start-hd.time) % 4294967296∧(tn.start-hd.time) % 4294967296<2147483648:=by
    rcases h3 with h|⟨h,h4,h5⟩
    · exact .inl h
    · right;rw [h2];omega
   have hn:¬(hd.on=true∧hd.ended=false):=by
    rintro ⟨F,hb⟩
    rcases h3 with h|⟨h,_,_⟩
    · rw [h] at F;cases F
    · rw [h] at hb;cases hb
   rw [ztp hc,if_neg hn]
   refine ⟨.held rfl ⟨rfl,rfl,rfl,rfl,by show 0≤tn.start;omega,by show tn.start<160*((i+1:Nat):Int);push_cast;omega⟩,rfl⟩
 | held h1 h3 =>
   obtain ⟨a1,A,D,C,E,H⟩:=h3
   rw [zjz hv h1]
   have B:(tn.start-hd.time) % 4294967296=0:=by rw [A];omega
   rw [zir (by show ¬(_∨1≤(tn.start-hd.time) % 4294967296∧_);rw [a1,B];rintro (h|h);cases h;omega) ⟨B,D.symm,C⟩]
   exact ⟨.held rfl ⟨a1,A,D,rfl,E,by show tn.start<160*((i+1:Nat):Int);push_cast;omega⟩,rfl⟩
 | rel h1 h2 h3 =>
   obtain ⟨a1,A,D,C,E,H⟩:=h3
   rw [zhk hv h1 (by omega)]
   have B:(tn.start-hd.time) % 4294967296=0:=by rw [A];omega
   rw [zir (by show ¬(_∨1≤(tn.start-hd.time) % 4294967296∧_);rw [a1,B];rintro (h|h);cases h;omega) ⟨B,D.symm,C⟩,if_neg (show ¬tn.ends=1 by omega)]
   exact ⟨.ending rfl (.inr (by show tn.ends-1=2;omega)) ⟨a1,A,D,rfl,E,by show tn.start<160*((i+1:Nat):Int);push_cast;omega⟩,rfl⟩
 | ending h1 h2 h3 =>
   obtain ⟨a1,A,D,C,E,H⟩:=h3
   rw [zhk hv h1 (by omega)]
   have B:(tn.start-hd.time) % 4294967296=0:=by rw [A];omega
   rw [zqs (by show ¬(_∨1≤(tn.start-hd.time) % 4294967296∧_);rw [a1,B];rintro (h|h);cases h;omega) (by rintro ⟨_,_,h⟩;rw [C] at h;cases h)]
   refine ⟨?_,rfl⟩
   by_cases G:tn.ends=1
   · rw [if_pos G]
     exact .idle rfl rfl (.inr ⟨C,by rw [A];exact E,by rw [A];push_cast;omega⟩)
   · rw [if_neg G]
     exact .ending rfl (.inl (by show tn.ends-1=1;omega)) ⟨a1,A,D,C,E,by show tn.start<160*((i+1:Nat):Int);push_cast;omega⟩
theorem KI.press {tn:Ev.Snd} {hd:Ev.Rcv} (h:KI tn hd i 0) (hv:tn.valid=true) (code:Int) (he:(Ev.press tn code 10 (160*(i:Int))).2=0):KI (Ev.press tn code 10 (160*(i:Int))).1 hd i 1:=by
 unfold Ev.press at he ⊢
 rw [if_neg (by rw [hv];decide)] at he ⊢
 by_cases hb:tn.on=true∨tn.ends≠0
 · rw [if_pos hb] at he;cases he
 · rw [if_neg hb,if_neg (by omega)] at he ⊢
   cases h with
   | idle h1 h2 h3=>exact .fresh rfl rfl h3
   | held h1 h3=>exact absurd (Or.inl h1) hb
   | rel h1 h2 h3=>exact absurd (Or.inr (by omega)) hb
   | ending h1 h2 h3=>exact absurd (Or.inr (by omega)) hb
theorem KI.release {tn:Ev.Snd} {hd:Ev.Rcv} (h:KI tn hd i 0) (hv:tn.valid=true) (he:(Ev.release tn).2=0):KI (Ev.release tn).1 hd i 0:=by
 unfold Ev.release at he ⊢
 rw [if_neg (by rw [hv];decide)] at he ⊢
 by_cases hb:tn.on=false
 · rw [if_pos hb] at he;cases he
 · rw [if_neg hb] at he ⊢
   cases h with
   | idle h1 h2 h3=>exact absurd h1 hb
   | held h1 h3=>exact .rel rfl rfl h3
   | rel h1 h2 h3=>exact absurd h1 hb
   | ending h1 h2 h3=>exact absurd h1 hb
theorem enc_in (c:Int) (s:Int×Int) (zs:List Int) (hs:Dlt.valid s.1 s.2=true) (hl:zs.length=160):(∀ z∈(enc c s zs).1,0≤z∧z≤255)∧(enc c s zs).1.length≤160∧Dlt.valid (enc c s zs).2.1 (enc c s zs).2.2=true:=by
 unfold enc
 split
 · refine ⟨fun z hz => ?_,by rw [List.length_map];omega,hs⟩
   obtain ⟨x,_,rfl⟩:=List.mem_map.1 hz
   have:=Cmp.mu_lt x
   unfold Cmp.muZ;omega
 split
 · refine ⟨fun z hz => ?_,by rw [List.length_map];omega,hs⟩
   obtain ⟨x,_,rfl⟩:=List.mem_map.1 hz
   have:=Cmp.aCode_lt x
   unfold Cmp.aZ;omega
 · refine ⟨fun z hz => ?_,by rw [Dlt.packB_len];omega,Dlt.stAt_valid s hs zs _⟩
   obtain ⟨j,_,rfl⟩:=List.mem_map.1 hz
   exact Dlt.packAt_bd s hs zs _ j
theorem takeWhile_of {α : Type} {p : α → Bool} : ∀ (l:List α) (a : α),a∈l.takeWhile p→p a=true
 | [],a,h=>by cases h
 | b :: l, a, h => by
   rw [List.takeWhile_cons] at h
   split at h
   · rename_i hb
     rcases List.mem_cons.1 h with e|h
     · rw [e];exact hb
     · exact takeWhile_of l a h
   · cases h
structure SpkI (c:Int) (p:Pt) (i many:Nat):Prop where
 sp:speechB c=true
 codec:p.codec=c
 src:0≤p.src∧p.src≤4294967295
 seq:p.seq=(many:Int)
 time:p.time=160*(i:Int)
 below:0≤p.below∧p.below≤10
 cod:Dlt.valid p.cv p.ci=true
 tn:p.tn=Ev.Snd.zero
 jv:Jb.valid p.jt=true
 jq:p.jt.q=[]
 tk:p.tk=Pk.Tr.zero
 ht:p.ht=0
 pk:0≤p.pk∧p.pk≤4294967295
 oc:0≤p.oc∧p.oc≤4294967295
 seed:0≤p.seed∧p.seed≤4294967295
 le:many≤i
 i60:i≤60
theorem ztq (h:speechB c=true):0≤c∧c≤255:=by
 rcases zal.1 h with rfl|rfl|rfl<;>decide
theorem SpkI.valid {p:Pt} {many:Nat} (h:SpkI c p i many):p.valid=true:=by
 have hn:p.near:=by unfold Pt.near;rw [h.tk,h.ht];decide
 unfold Pt.valid
 rw [h.codec,h.sp,h.cod,h.jv,h.tn,tn0,decide_eq_true hn];rfl
theorem SpkI.wf {p:Pt} {many:Nat} (h:SpkI c p i many):p.wf:=by
 have h1:=h.le
 have h2:=h.i60
 have h3:=h.below
 constructor
 · rw [h.codec];exact ztq h.sp
 · exact h.src
 · rw [h.seq];omega
 · rw [h.time];omega
 · omega
 · rw [h.tn];decide
 · rw [h.tn];decide
 · rw [h.tn];decide
 · exact h.seed
 · exact h.pk
 · exact h.oc
theorem SpkI.step {p:Pt} {many:Nat} (h:SpkI c p i many) (zs:List Int) (hi:i<60) (hl:zs.length=160) (hz:∀ z∈zs, -32768≤z∧z≤32767) :
 ∃ more:Nat,(send0 p zs).2.length=more∧more≤1∧SpkI c (send0 p zs).1 (i+1) (many+more) ∧
  ∀ k∈(send0 p zs).2,k.sq=(many:Int)∧k.ti=160*(i:Int)∧(speechB k.ty=true∨k.ty=13)∧k.pl.length≤1500∧∀ z∈k.pl,0≤z∧z≤255:=by
 have h1:=h.le
 have E:=h.below
 have hq:0≤Ev.quiet p.below zs∧Ev.quiet p.below zs≤10:=by unfold Ev.quiet;split<;>omega
 have ht:¬(p.tn.on=true∨p.tn.ends≠0):=by rw [h.tn];decide
 unfold send0
 rw [if_neg ht]
 split
 · split
   · refine ⟨1,rfl,Nat.le_refl _,⟨h.sp,h.codec,h.src,?_,?_,hq,h.cod,h.tn,h.jv,h.jq,h.tk,h.ht,?_,?_,h.seed,by omega,by omega⟩,?_⟩
     · show (p.seq+1) % 65536=_;rw [h.seq];omega
     · show (p.time+160) % 4294967296=_;rw [h.time];omega
     · show 0≤(p.pk+1) % 4294967296∧(p.pk+1) % 4294967296≤4294967295;omega
     · show 0≤(p.oc+_) % 4294967296∧(p.oc+_) % 4294967296≤4294967295;omega
     · intro k hk
       obtain rfl:=List.mem_singleton.1 hk
       refine ⟨h.seq,h.time, .inr rfl,by show 1≤1500;omega,fun z C => ?_⟩
       obtain rfl:=List.mem_singleton.1 C
       have:=Ev.lev_bd zs hz
       omega
   · refine ⟨0,rfl,by omega,⟨h.sp,h.codec,h.src,h.seq,?_,hq,h.cod,h.tn,h.jv,h.jq,h.tk,h.ht,h.pk,h.oc,h.seed,by omega,by omega⟩,?_⟩
     · show (p.time+160) % 4294967296=_;rw [h.time];omega
     · intro k hk;cases hk
 · obtain ⟨B,D,A⟩:=enc_in p.codec (p.cv,p.ci) zs h.cod hl
   refine ⟨1,rfl,Nat.le_refl _,⟨h.sp,h.codec,h.src,?_,?_,hq,A,h.tn,h.jv,h.jq,h.tk,h.ht,?_,?_,h.seed,by omega,by omega⟩,?_⟩
   · show (p.seq+1) % 65536=_;rw [h.seq];omega
   · show (p.time+160) % 4294967296=_;rw [h.time];omega
   · show 0≤(p.pk+1) % 4294967296∧(p.pk+1) % 4294967296≤4294967295;omega
   · show 0≤(p.oc+_) % 4294967296∧(p.oc+_) % 4294967296≤4294967295;omega
   · intro k hk
     obtain rfl:=List.mem_singleton.1 hk
     refine ⟨h.seq,h.time, .inl ?_,?_,B⟩
     · show speechB p.codec=true;rw [h.codec];exact h.sp
     · show (enc p.codec (p.cv,p.ci) zs).1.length≤1500;omega
theorem SpkI.startS {l s:Int} (hs:speechB c=true) (hc:Jb.cfg l m) (s0:0≤s) (s1:s≤4294967295):SpkI c (new c s l m).1 0 0∧(new c s l m).2=0:=by
 have e:new c s l m=({ Pt.zero with codec:=c,src:=s,mrk:=true,jt:=(Jb.new l m).1,seed:=s }, 0):=by
  unfold new
  rw [if_neg (by rw [hs];decide),if_pos hc]
 have hv:Jb.valid (Jb.new l m).1=true:=by unfold Jb.valid;rw [decide_eq_true_iff];exact Jb.new_ok l m hc
 have hq:(Jb.new l m).1.q=[]:=by unfold Jb.new;rw [if_pos hc]
 rw [e]
 exact ⟨⟨hs,rfl,⟨s0,s1⟩,rfl,rfl,(⟨(by decide:(0:Int)≤0),(by decide:(0:Int)≤10)⟩),by show Dlt.valid 0 0=true;decide,rfl,hv,hq,rfl,rfl,(⟨(by decide:(0:Int)≤0),(by decide:(0:Int)≤4294967295)⟩),(⟨(by decide:(0:Int)≤0),(by decide:(0:Int)≤4294967295)⟩),⟨s0,s1⟩,Nat.le_refl _,by omega⟩,rfl⟩
theorem SpkI.start {l:Int} (hs:speechB c=true) (hc:Jb.cfg l m):SpkI c (new c 7 l m).1 0 0∧(new c 7 l m).2=0:=SpkI.startS hs hc (by decide) (by decide)
theorem new_bad {l:Int} (h:¬(speechB c=true∧Jb.cfg l m)):(new c src l m).1=Pt.zero∧(new c src l m).2≠0:=by
 unfold new
 split
 · exact ⟨rfl,by decide⟩
 · rename_i h1
   rw [if_neg (fun hc=>h ⟨by simpa using h1,hc⟩)]
   exact ⟨rfl,by decide⟩
theorem zeh (c:Int) (pl:List Int) (s:Int) (h:0≤s∧s≤4294967295):0≤(dec c pl s).2∧(dec c pl s).2≤4294967295:=by
 unfold dec
 split
 · split
   · have e:(Ev.noise (pl.getD 0 0) s 160).2.1=(Ev.seed s 159*1103515245+12345) % 4294967296:=by
      unfold Ev.noise
      rw [if_neg (by omega)];rfl
     rw [e];omega
   · exact h
 · exact h
theorem zay:∀ (l:List Jb.Wt) (s:Int),0≤s∧s≤4294967295→0≤(sounds s l).1∧(sounds s l).1≤4294967295
 | [],s,h=>h
 | a :: l, s, h => by
   show 0≤(sounds (dec a.m.ty a.m.pl s).2 l).1∧(sounds (dec a.m.ty a.m.pl s).2 l).1≤4294967295
   exact zay l _ (zeh _ _ _ h)
theorem zdf:∀ (l:List Jb.Wt) (s:Int),(sounds s l).2.map (fun d=>(d.at_,d.ks.length))=l.map (fun a=>(a.at_,0))
 | [],s=>rfl
 | a :: l, s => by
   show _::(sounds (dec a.m.ty a.m.pl s).2 l).2.map _=_::l.map _
   rw [zdf l];rfl
theorem sounds_len (l:List Jb.Wt) (s:Int):(sounds s l).2.length=l.length:=by
 have:=congrArg List.length (zdf l s)
 simpa using this
def lastS (z:Int) (l:List Sd):Int:=l.foldl (fun _ d=>d.at_) z
structure LisI (u:Pt) (i:Nat) (now last:Int) (many taken:Nat):Prop where
 wf:u.wf
 sp:speechB u.codec=true
 cod:Dlt.valid u.cv u.ci=true
 tn:u.tn=Ev.Snd.zero
 tk:u.tk=Pk.Tr.zero∨∃ h:Int,u.tk=⟨true,h, -1⟩∧0≤h∧h<60
 ht:0≤u.ht∧u.ht≤9600
 sm:Jb.Small i u.jt
 near:Jb.Near u.jt.now u.jt.q
 n0:u.jt.now≤now
 n1:1000≤now
 n2:now≤1000+255*(i:Int)
 l0:0≤last
 l1:last≤u.jt.now
 pl:u.jt.played=(many:Int)
 tkn:taken=many+u.jt.q.length
theorem LisI.valid {u:Pt} {many:Nat} (h:LisI u i now last many taken):u.valid=true:=by
 have h1:=h.ht
 have hn:u.near:=by
  unfold Pt.near
  rcases h.tk with e|⟨x,e,x0,x1⟩
  · rw [e];show 0≤(0:Int)∧(0:Int)≤140737488355328 ∧ -1≤(0:Int)∧(0:Int)≤65535∧_;omega
  · rw [e];show 0≤x∧x≤140737488355328 ∧ -1≤(-1:Int)∧(-1:Int)≤65535∧_;omega
 have A:Jb.valid u.jt=true:=by unfold Jb.valid;rw [decide_eq_true_iff];exact h.sm.ok
 unfold Pt.valid
 rw [h.sp,h.cod,A,h.tn,tn0,decide_eq_true hn];rfl
theorem LisI.chk {u:Pt} {many:Nat} (h:LisI u i now last many taken) (t:Int) (h1:now≤t) (h2:t≤281474976710656):chkT u t=0:=by
 have:=h.n0
 unfold chkT
 rw [if_neg (by rw [h.valid];rintro (e|e);cases e;omega),if_neg (by omega)]
theorem LisI.skip {u:Pt} {many:Nat} (h:LisI u i now last many taken) (late:Int) (t0:0≤late) (t1:late≤255):LisI u (i+1) (now+late) last many taken:=by
 have h1:=h.sm.late
 have h2:=h.sm.twice
 have h3:=h.sm.played
 have h4:=h.n0
 have h5:=h.n1
 have h6:=h.n2
 exact ⟨h.wf,h.sp,h.cod,h.tn,h.tk,h.ht,⟨h.sm.ok,by push_cast;omega,by push_cast;omega,by push_cast;omega⟩,h.near,by omega,by omega,by push_cast;omega,h.l0,h.l1,h.pl,h.tkn⟩
theorem LisI.start {l:Int} (hs:speechB c=true) (hc:Jb.cfg l m):LisI (new c 7 l m).1 0 1000 0 0 0:=by
 have e:new c 7 l m=({ Pt.zero with codec:=c,src:=7,mrk:=true,jt:=(Jb.new l m).1,seed:=7 }, 0):=by
  unfold new
  rw [if_neg (by rw [hs];decide),if_pos hc]
 have hw:=(SpkI.start hs hc).1.wf
 have hq:(Jb.new l m).1.q=[]∧(Jb.new l m).1.now=0∧(Jb.new l m).1.played=0:=by unfold Jb.new;rw [if_pos hc];exact ⟨rfl,rfl,rfl⟩
 have B:=Jb.small_new l m hc
 rw [e] at hw ⊢
 refine ⟨hw,hs,by show Dlt.valid 0 0=true;decide,rfl, .inl rfl,by show 0≤(0:Int)∧(0:Int)≤9600;omega,by simpa using B,?_,?_,by omega,by simp,by omega,?_,?_,?_⟩
 · show Jb.Near (Jb.new l m).1.now (Jb.new l m).1.q
   rw [hq.1];intro w A;cases A
 · show (Jb.new l m).1.now≤1000
   rw [hq.2.1];omega
 · show 0≤(Jb.new l m).1.now
   rw [hq.2.1];omega
 · show (Jb.new l m).1.played=_
   rw [hq.2.2];rfl
 · show 0=0+(Jb.new l m).1.q.length
   rw [hq.1];rfl
theorem zqt (h s:Int) (h0:0≤h) (h1:h<60) (s0:0≤s) (s1:s<60):Pk.near h s 65536=s:=by
 unfold Pk.near
 rw [if_neg (by omega)]
 split<;>omega
theorem zqu (h s:Int) (h0:0≤h) (h1:h≤9600) (s0:0≤s) (s1:s≤9600):Pk.near h s 4294967296=s:=by
 unfold Pk.near
 rw [if_neg (by omega)]
 split<;>omega
theorem LisI.follow {u:Pt} {many:Nat} (h:LisI u i now last many taken) (s:Int) (s0:0≤s) (s1:s<60):∃ x:Int,Pk.follow u.tk s=(⟨true,x, -1⟩,s,true)∧0≤x∧x<60:=by
 rcases h.tk with e|⟨x,e,x0,x1⟩
 · refine ⟨s,?_,s0,s1⟩
   rw [e];unfold Pk.follow
   rw [if_neg (fun hn=>hn (by decide)),if_pos (show Pk.Tr.zero.on=false from rfl)]
 · refine ⟨max x s,?_,by omega,by omega⟩
   rw [e];unfold Pk.follow
   have A:Pk.Tr.ok ⟨true,x, -1⟩:=by unfold Pk.Tr.ok;simp only;omega
   rw [if_neg (fun hn=>hn A),if_neg (by simp)]
   simp only [zqt x s x0 x1 s0 s1]
   rw [if_pos (by omega)]
theorem zwt {l:List Jb.Wt} (h:l.Pairwise Jb.bef):l.Pairwise fun a b=>a.at_≤b.at_:=h.imp fun hb=>Jb.bef_at hb
theorem LisI.recv {u:Pt} {many:Nat} (h:LisI u i now last many taken) (hi:i<60) (x:Arr) (late:Int) (t0:0≤late) (t1:late≤255) (s0:0≤x.sq) (s1:x.sq<60) (V:0≤x.ti) (U:x.ti≤9600) (O:speechB x.ty=true∨x.ty=13) (W:x.pl.length≤1500) :
 ∃ (m:Jb.Md) (u':Pt) (v:Int) (sds:List Sd) (tr:Pk.Tr),Pk.follow u.tk x.sq=(tr,x.sq,true)∧time u x=x.ti∧m=⟨x.sq,x.ti,x.mrk,x.ty,x.pl⟩∧(Jb.put u.jt (now+late) m).2.2.2=0∧recv0 u (now+late) x=(u',v,sds) ∧
  LisI u' (i+1) (now+late) (lastS last sds) (many+sds.length) (taken+if v=1 then 1 else 0)∧(∀ d∈sds,d.ks=[]∧last≤d.at_∧d.at_≤now+late)∧sds.Pairwise (fun a b=>a.at_≤b.at_):=by
 have h4:=h.n0
 have h5:=h.n1
 have h6:=h.n2
 have w:=h.l0
 have Az:=h.l1
 obtain ⟨y,hf,R,y1⟩:=h.follow x.sq s0 s1
 have K:time u x=x.ti:=by
  unfold time
  split
  · exact zqu _ _ h.ht.1 h.ht.2 V U
  · rfl
 obtain ⟨m,hm⟩:∃ m:Jb.Md,m=⟨x.sq,x.ti,x.mrk,x.ty,x.pl⟩:=⟨_,rfl⟩
 have F:m.ok:=by rw [hm];unfold Jb.Md.ok;simp only;omega
 have X:m.ti=x.ti:=by rw [hm]
 have n1:u.jt.now≤now+late:=by omega
 have n2:now+late≤281474976710656:=by omega
 obtain ⟨s',v,L⟩:∃ s' v,Jb.put0 (Jb.run0 u.jt (now+late)) m=(s',v):=⟨_,_,rfl⟩
 have M:Jb.put u.jt (now+late) m=(s',Jb.due (now+late) u.jt.q,v,0):=by
  unfold Jb.put
  rw [Jb.chk_put h.sm.ok n1 n2 F,if_pos rfl,L]
 have G:=Jb.small_run h.sm (by omega) (now+late) n1 n2
 have H:=Jb.small_put h.sm (by omega) (now+late) n1 n2 m F
 have A:=Jb.put0_cnt (Jb.run0 u.jt (now+late)) m
 have D:=Jb.put0_cases (Jb.run0 u.jt (now+late)) m G.ok F (by have:=G.late;omega) (by have:=G.twice;omega)
 rw [L] at H A D
 simp only at H A D
 have I:=Jb.near_left h.near n1
 have c:=congrArg List.length (Jb.due_left (now+late) u.jt.q)
 rw [List.length_append] at c
 obtain ⟨q1,q2,T,p⟩:=(Jb.okQ_iff _ _ _).1 h.sm.ok.2.2.2.2
 have P:=sounds_len (Jb.due (now+late) u.jt.q) u.seed
 have E:=zdf (Jb.due (now+late) u.jt.q) u.seed
 obtain ⟨sds,J⟩:=nm9 ((sounds u.seed (Jb.due (now+late) u.jt.q)).2)
 rw [← J] at P E
 have o:∀ a∈Jb.due (now+late) u.jt.q,last≤a.at_∧a.at_≤now+late:=fun a C=>by
  have h1:=(q2 a ((Jb.due_sub _ _).subset C)).2.1
  have h2:a.at_≤now+late:=by
   have:=takeWhile_of _ _ C
   simpa using this
  omega
 have N:∀ d∈sds,d.ks=[]∧last≤d.at_∧d.at_≤now+late:=fun d hd=>by
  have h1:(d.at_,d.ks.length)∈(Jb.due (now+late) u.jt.q).map (fun a=>(a.at_,0)):=by rw [← E];exact List.mem_map.2 ⟨d,hd,rfl⟩
  obtain ⟨a,C,e⟩:=List.mem_map.1 h1
  injection e with t Y
  have:=o a C
  exact ⟨List.eq_nil_of_length_eq_zero Y.symm,by omega,by omega⟩
 have Z:sds.Pairwise (fun a b=>a.at_≤b.at_):=by
  have h1:=zwt (T.sublist (Jb.due_sub (now+late) u.jt.q))
  have h2:(sds.map (fun d=>(d.at_,d.ks.length))).Pairwise (fun a b=>a.1≤b.1):=by rw [E,List.pairwise_map];exact h1
  rw [List.pairwise_map] at h2
  exact h2
 have n:∀ (l:List Sd) (z:Int),(∀ d∈l,last≤d.at_∧d.at_≤now+late)→last≤z∧z≤now+late→last≤lastS z l∧lastS z l≤now+late:=by
  intro l
  induction l with
  | nil=>intro z _ hz;exact hz
  | cons a l ih=>intro z hd hz;exact ih a.at_ (fun d j=>hd d (List.mem_cons_of_mem _ j)) (hd a (List.mem_cons_self ..))
 have f:=n sds last (fun d hd=>(N d hd).2) ⟨Int.le_refl _,by omega⟩
 have hk:known x≠false:=by
  unfold known
  rcases O with e|e
  · rw [e];simp
  · rw [e];simp
 have g:¬x.ty=101:=by
  rcases O with e|e
  · rcases zal.1 e with e|e|e<;>omega
  · omega
 refine ⟨m, { u with tk:=⟨true,y, -1⟩,ht:=if u.tk.on=false∨u.ht<x.ti then x.ti else u.ht,st:=Rep.arrive u.st x.sq (8*(now+late)) x.ti,jt:=s',seed:=(sounds u.seed (Jb.due (now+late) u.jt.q)).1 }, v,sds,_,hf,K,hm,by rw [M],?_,⟨?_,h.sp,h.cod,h.tn, .inr ⟨y,rfl,R,y1⟩,?_,?_,?_,?_,by omega,by push_cast;omega,by omega,?_,?_,?_⟩,N,Z⟩
 · unfold recv0
   rw [if_neg hk]
   simp only [hf,K]
   rw [if_neg (by decide),if_neg g,← hm,M,J]
 · exact ⟨h.wf.codec,h.wf.src,h.wf.seq,h.wf.time,h.wf.below,h.wf.tvol,h.wf.tcode,h.wf.tst,zay _ _ h.wf.seed,h.wf.pk,h.wf.oc⟩
 · show 0≤(if u.tk.on=false∨u.ht<x.ti then x.ti else u.ht)∧(if u.tk.on=false∨u.ht<x.ti then x.ti else u.ht)≤9600
   have:=h.ht
   split<;>omega
 · exact H
 · show Jb.Near s'.now s'.q
   rw [A.2.2.2.1]
   rcases D with ⟨c1,c2,c3,B,c5⟩|⟨c1,c2,c3,B⟩
   · rw [B];exact Jb.near_ins I c3
   · rw [c3];exact I
 · show s'.now≤_
   rw [A.2.2.2.1];exact Int.le_refl _
 · show lastS last sds≤s'.now
   rw [A.2.2.2.1];exact f.2
 · show s'.played=_
   rw [A.2.2.1,P]
   show u.jt.played+((Jb.due (now+late) u.jt.q).length:Int)=_
   rw [h.pl];push_cast;omega
 · show taken+(if v=1 then 1 else 0)=many+sds.length+s'.q.length
   have Q:=h.tkn
   rcases D with ⟨c1,c2,c3,B,c5⟩|⟨c1,c2,c3,B⟩
   · rw [if_pos c1,B,Jb.ins_len]
     show _=_+((Jb.left (now+late) u.jt.q).length+1)
     omega
   · rw [if_neg c1,c3]
     show _=_+(Jb.left (now+late) u.jt.q).length
     omega
theorem LisI.done {u:Pt} {many:Nat} (h:LisI u i now last many taken) (hi:i≤60):(Jb.run u.jt (now+200000)).2.2=0∧many+(run u (now+200000)).2.length=taken∧(run u (now+200000)).1.jt.played=(taken:Int):=by
 have h4:=h.n0
 have h5:=h.n1
 have h6:=h.n2
 have hr:Jb.run u.jt (now+200000)=(Jb.run0 u.jt (now+200000),Jb.due (now+200000) u.jt.q,0):=by
  unfold Jb.run;rw [Jb.chk_run h.sm.ok (by omega) (by omega),if_pos rfl]
 obtain ⟨q1,q2,B,D⟩:=(Jb.okQ_iff _ _ _).1 h.sm.ok.2.2.2.2
 have hl:Jb.left (now+200000) u.jt.q=[]:=by
  apply List.eq_nil_iff_forall_not_mem.2
  intro w hw
  have h1:=Jb.left_gt (now+200000) u.jt.q B w hw
  have h2:=h.near w ((Jb.left_sub _ u.jt.q).subset hw)
  omega
 have A:=congrArg List.length (Jb.due_left (now+200000) u.jt.q)
 rw [List.length_append,hl] at A
 have C:=h.tkn
 simp only [List.length_nil] at A
 refine ⟨by rw [hr],?_,?_⟩
 · unfold run
   rw [hr]
   show many+(sounds u.seed (Jb.due (now+200000) u.jt.q)).2.length=_
   rw [sounds_len];omega
 · unfold run
   rw [hr]
   show u.jt.played+((Jb.due (now+200000) u.jt.q).length:Int)=_
   rw [h.pl,C];push_cast;omega
theorem zna (s:Ev.Snd) (h:s.valid=true):(Ev.next s 160).s.valid=true:=by
 obtain ⟨h1,h2,h3,h4⟩:=zfn h
 cases ho:s.on
 · by_cases he:s.ends=0
   · unfold Ev.next
     rw [if_neg (by rw [h];decide),if_neg (by omega),if_neg (by rw [ho];decide),if_pos he]
     exact h
   · rw [zhk h ho he]
     by_cases A:s.ends=1
     · simp only [if_pos A];exact tn0
     · simp only [if_neg A]
       unfold Ev.Snd.valid
       simp only [Bool.and_eq_true,decide_eq_true_eq,Bool.or_eq_true,Bool.not_eq_true',beq_iff_eq]
       simp
       omega
 · rw [zjz h ho]
   have:=h4 ho
   unfold Ev.Snd.valid
   simp only [Bool.and_eq_true,decide_eq_true_eq,Bool.or_eq_true,Bool.not_eq_true',beq_iff_eq]
   simp
   omega
structure SpkE (c:Int) (p:Pt) (i sq:Nat):Prop where
 sp:speechB c=true
 codec:p.codec=c
 src:0≤p.src∧p.src≤4294967295
 seq:p.seq=(sq:Int)
 time:p.time=160*(i:Int)
 below:0≤p.below∧p.below≤10
 cod:Dlt.valid p.cv p.ci=true
 tv:p.tn.valid=true
 t1:0≤p.tn.vol∧p.tn.vol≤255
 t2:0≤p.tn.code∧p.tn.code≤255
 t3:0≤p.tn.start∧p.tn.start≤4294967295
 jv:Jb.valid p.jt=true
 jq:p.jt.q=[]
 tk:p.tk=Pk.Tr.zero
 ht:p.ht=0
 pk:0≤p.pk∧p.pk≤4294967295
 oc:0≤p.oc∧p.oc≤4294967295
 seed:0≤p.seed∧p.seed≤4294967295
 le:sq≤i
 i40:i≤40
section
variable {c:Int} {p:Pt} {i sq:Nat}
theorem SpkE.valid (h:SpkE c p i sq):p.valid=true:=by
 have hn:p.near:=by unfold Pt.near;rw [h.tk,h.ht];decide
 unfold Pt.valid
 rw [h.codec,h.sp,h.cod,h.jv,h.tv,decide_eq_true hn];rfl
theorem SpkE.wf (h:SpkE c p i sq):p.wf:=by
 have h1:=h.le
 have h2:=h.i40
 have h3:=h.below
 constructor
 · rw [h.codec];exact ztq h.sp
 · exact h.src
 · rw [h.seq];omega
 · rw [h.time];omega
 · omega
 · exact h.t1
 · exact h.t2
 · exact h.t3
 · exact h.seed
 · exact h.pk
 · exact h.oc
theorem SpkE.start {l:Int} (hs:speechB c=true) (hc:Jb.cfg l m):SpkE c (new c 7 l m).1 0 0:=by
 obtain ⟨h,_⟩:=SpkI.start hs hc
 exact ⟨h.sp,h.codec,h.src,h.seq,h.time,h.below,h.cod,by rw [h.tn];exact tn0,by rw [h.tn];decide,by rw [h.tn];decide,by rw [h.tn];decide,h.jv,h.jq,h.tk,h.ht,h.pk,h.oc,h.seed,Nat.le_refl _,by omega⟩
theorem SpkE.tone (h:SpkE c p i sq) (T:Ev.Snd) (hv:T.valid=true) (h1:0≤T.vol∧T.vol≤255) (h2:0≤T.code∧T.code≤255) (h3:0≤T.start∧T.start≤4294967295):SpkE c { p with tn:=T } i sq :=
 ⟨h.sp,h.codec,h.src,h.seq,h.time,h.below,h.cod,hv,h1,h2,h3,h.jv,h.jq,h.tk,h.ht,h.pk,h.oc,h.seed,h.le,h.i40⟩
theorem SpkE.press (h:SpkE c p i sq) (code:Int) (c0:0≤code) (c1:code≤15):Sb.press p code=(if (Ev.press p.tn code 10 p.time).2=0 then { p with tn:=(Ev.press p.tn code 10 p.time).1 } else Pt.zero,(Ev.press p.tn code 10 p.time).2) ∧
 ((Ev.press p.tn code 10 p.time).2=0→SpkE c { p with tn:=(Ev.press p.tn code 10 p.time).1 } i sq):=by
 constructor
 · unfold Sb.press
   rw [if_neg (by rw [h.valid];decide),if_neg (by omega)]
   split
   · rename_i h0;rw [h0]
   · rfl
 · intro h0
   have h2:=h.i40
   have ht:=h.time
   unfold Ev.press at h0 ⊢
   rw [if_neg (by rw [h.tv];decide)] at h0 ⊢
   by_cases hb:p.tn.on=true∨p.tn.ends≠0
   · rw [if_pos hb] at h0;cases h0
   · rw [if_neg hb,if_neg (by omega)]
     exact h.tone _ (by unfold Ev.Snd.valid;simp) (by simp) (by simp;omega) (by simp;omega)
theorem SpkE.release (h:SpkE c p i sq):Sb.release p=(if (Ev.release p.tn).2=0 then { p with tn:=(Ev.release p.tn).1 } else Pt.zero,(Ev.release p.tn).2) ∧
 ((Ev.release p.tn).2=0→SpkE c { p with tn:=(Ev.release p.tn).1 } i sq):=by
 constructor
 · unfold Sb.release
   rw [if_neg (by rw [h.valid];decide)]
   split
   · rename_i h0;rw [h0]
   · rfl
 · intro h0
   obtain ⟨v1,v2,A,v4⟩:=zfn h.tv
   unfold Ev.release at h0 ⊢
   rw [if_neg (by rw [h.tv];decide)] at h0 ⊢
   by_cases hb:p.tn.on=false
   · rw [if_pos hb] at h0;cases h0
   · rw [if_neg hb]
     exact h.tone _ (by unfold Ev.Snd.valid;simp;omega) h.t1 h.t2 h.t3
inductive SentK (c:Int) (p:Pt) (zs:List Int) (i sq:Nat) (q:Pt):List Pkt→Prop where
 | tone (k:Pkt) (h0:p.tn.on=true∨p.tn.ends≠0) (h1:q.tn=(Ev.next p.tn 160).s) (h2:q.cv=p.cv∧q.ci=p.ci) (h3:k.sq=(sq:Int)) (h4:k.ty=101) (h5:k.ti=(Ev.next p.tn 160).o.time)
  (h6:k.pl=(Ev.encT (Ev.next p.tn 160).o.tone.code (Ev.next p.tn 160).o.tone.fin (Ev.next p.tn 160).o.tone.vol (Ev.next p.tn 160).o.tone.dur).1):SentK c p zs i sq q [k]
 | noise (k:Pkt) (h0:¬(p.tn.on=true∨p.tn.ends≠0)) (h1:q.tn=p.tn) (h2:q.cv=p.cv∧q.ci=p.ci) (h3:k.sq=(sq:Int)) (h4:k.ty=13) (h5:k.ti=160*(i:Int)) (h6:∃ z,k.pl=[z]∧0≤z∧z≤255):SentK c p zs i sq q [k]
 | none (h0:¬(p.tn.on=true∨p.tn.ends≠0)) (h1:q.tn=p.tn) (h2:q.cv=p.cv∧q.ci=p.ci):SentK c p zs i sq q []
 | speech (k:Pkt) (h0:¬(p.tn.on=true∨p.tn.ends≠0)) (h1:q.tn=p.tn) (h2:q.cv=(enc c (p.cv,p.ci) zs).2.1∧q.ci=(enc c (p.cv,p.ci) zs).2.2) (h3:k.sq=(sq:Int)) (h4:k.ty=c) (h5:k.ti=160*(i:Int)) (h6:k.pl=(enc c (p.cv,p.ci) zs).1):SentK c p zs i sq q [k]
theorem SpkE.step (h:SpkE c p i sq) (zs:List Int) (hi:i<40) (hl:zs.length=160) (hz:∀ z∈zs, -32768≤z∧z≤32767) :
 (send0 p zs).2.length≤1∧SpkE c (send0 p zs).1 (i+1) (sq+(send0 p zs).2.length)∧SentK c p zs i sq (send0 p zs).1 (send0 p zs).2:=by
 have h1:=h.le
 have I:=h.below
 have hq:0≤Ev.quiet p.below zs∧Ev.quiet p.below zs≤10:=by unfold Ev.quiet;split<;>omega
 have a1:(p.seq+1) % 65536=((sq+1:Nat):Int):=by rw [h.seq];push_cast;omega
 have A:(p.time+160) % 4294967296=160*((i+1:Nat):Int):=by rw [h.time];push_cast;omega
 have B:0≤(p.pk+1) % 4294967296∧(p.pk+1) % 4294967296≤4294967295:=by omega
 by_cases ht:p.tn.on=true∨p.tn.ends≠0
 · obtain ⟨n1,n2,E⟩:=zws p.tn 160 h.t1 h.t2 h.t3
   have D:=zna p.tn h.tv
   unfold send0
   rw [if_pos ht]
   refine ⟨Nat.le_refl _,⟨h.sp,h.codec,h.src,a1,A,⟨(by decide:(0:Int)≤0),(by decide:(0:Int)≤10)⟩,h.cod,D,n1,n2,E,h.jv,h.jq,h.tk,h.ht,B,?_,h.seed,by show sq+1≤i+1;omega,by omega⟩, .tone _ ht rfl ⟨rfl,rfl⟩ h.seq rfl rfl rfl⟩
   show 0≤(p.oc+_) % 4294967296∧(p.oc+_) % 4294967296≤4294967295;omega
 by_cases C:Ev.quiet p.below zs=10
 · unfold send0
   rw [if_neg ht,if_pos C]
   by_cases hb:p.below<10
   · rw [if_pos hb]
     refine ⟨Nat.le_refl _,⟨h.sp,h.codec,h.src,a1,A,hq,h.cod,h.tv,h.t1,h.t2,h.t3,h.jv,h.jq,h.tk,h.ht,B,?_,h.seed,by show sq+1≤i+1;omega,by omega⟩, .noise _ ht rfl ⟨rfl,rfl⟩ h.seq rfl h.time ⟨_,rfl,?_⟩⟩
     · show 0≤(p.oc+_) % 4294967296∧(p.oc+_) % 4294967296≤4294967295;omega
     · have:=Ev.lev_bd zs hz
       omega
   · rw [if_neg hb]
     exact ⟨by simp,⟨h.sp,h.codec,h.src,h.seq,A,hq,h.cod,h.tv,h.t1,h.t2,h.t3,h.jv,h.jq,h.tk,h.ht,h.pk,h.oc,h.seed,by show sq+0≤i+1;omega,by omega⟩, .none ht rfl ⟨rfl,rfl⟩⟩
 · obtain ⟨H,G,F⟩:=enc_in p.codec (p.cv,p.ci) zs h.cod hl
   unfold send0
   rw [if_neg ht,if_neg C]
   refine ⟨Nat.le_refl _,⟨h.sp,h.codec,h.src,a1,A,hq,F,h.tv,h.t1,h.t2,h.t3,h.jv,h.jq,h.tk,h.ht,B,?_,h.seed,by show sq+1≤i+1;omega,by omega⟩, .speech _ ht rfl ?_ h.seq h.codec h.time ?_⟩
   · show 0≤(p.oc+_) % 4294967296∧(p.oc+_) % 4294967296≤4294967295;omega
   · rw [← h.codec];exact ⟨rfl,rfl⟩
   · rw [← h.codec];rfl
end
inductive F2 {α β : Type} (R : α → β → Prop):List α → List β → Prop where
 | nil:F2 R [] []
 | cons {a : α} {b : β} {l:List α} {m:List β} (h:R a b) (t:F2 R l m):F2 R (a::l) (b::m)
theorem F2.len {α β : Type} {R : α → β → Prop} {l:List α} {m:List β} (h:F2 R l m):l.length=m.length:=by
 induction h with
 | nil=>rfl
 | cons _ _ ih=>simp [ih]
theorem F2.append {α β : Type} {R : α → β → Prop} {l l':List α} {m A:List β} (h:F2 R l m) (B:F2 R l' A):F2 R (l++l') (m++A):=by
 induction h with
 | nil=>exact B
 | cons a _ ih=>exact .cons a ih
theorem F2.split {α β : Type} {R : α → β → Prop} : ∀ {l l':List α} {m:List β}, F2 R (l++l') m→∃ A m2,m=A++m2∧F2 R l A∧F2 R l' m2
 | [],l',m,h=>⟨[],m,rfl, .nil,h⟩
 | a :: l, l', m, h => by
   cases h with
   | cons hr ht =>
     obtain ⟨A,m2,rfl,h1,h2⟩:=F2.split ht
     exact ⟨_::A,m2,rfl, .cons hr h1,h2⟩
theorem F2.at_ {α β : Type} {R : α → β → Prop} {l:List α} {m:List β} (h:F2 R l m):∀ {k:Nat} {a : α}, l[k]? = some a→∃ b,m[k]? = some b∧R a b:=by
 induction h with
 | nil=>intro k a h;simp at h
 | cons hr ht ih =>
   intro k a h
   cases k with
   | zero=>exact ⟨_,rfl,by simp at h;rw [← h];exact hr⟩
   | succ k=>simpa using ih (by simpa using h)
def mQ (a:Jb.Wt) (w:Sd):Prop:=a.at_=w.at_∧((speechB a.m.ty=true∧w.zs=decS a.m.ty a.m.pl∧w.zs.length=160)∨(a.m.ty=13∧a.m.pl.length=1∧w.zs=[]))
def mG (d:Sd) (w:Sd):Prop:=d.at_=w.at_∧d.zs.length=160∧(w.zs=[]∨d.zs=w.zs)
theorem zis:∀ (l:List Jb.Wt) (s:Int) (m:List Sd),F2 mQ l m→F2 mG (sounds s l).2 m
 | [],s,m,h=>by cases h;exact .nil
 | a :: l, s, m, h => by
   cases h with
   | cons hr ht =>
     refine .cons ⟨hr.1,?_⟩ (zis l _ _ ht)
     show (dec a.m.ty a.m.pl s).1.length=160∧(_∨(dec a.m.ty a.m.pl s).1=_)
     rcases hr.2 with ⟨h1,h2,h3⟩|⟨h1,h2,h3⟩
     · have A:¬a.m.ty=13:=by rcases zal.1 h1 with e|e|e<;>omega
       unfold dec
       rw [if_neg A]
       exact ⟨by rw [← h2];exact h3, .inr h2.symm⟩
     · unfold dec
       rw [if_pos h1,if_pos h2]
       refine ⟨?_, .inl h3⟩
       unfold Ev.noise
       rw [if_neg (by omega)]
       simp
def nok (d:Sd):Bool:=d.ks.length==0
theorem znb (s:Int) (l:List Jb.Wt):(sounds s l).2.filter nok=(sounds s l).2:=by
 apply List.filter_eq_self.2
 intro d hd
 have h:=List.mem_map_of_mem (f:=fun d:Sd=>(d.at_,d.ks.length)) hd
 rw [zdf] at h
 obtain ⟨a,_,e⟩:=List.mem_map.1 h
 injection e with _ e
 unfold nok
 rw [← e];rfl
def keysL (l:List Sd):List Ev.Key:=l.flatMap fun d=>d.ks
structure LisE (ls mo trip:Int) (u:Pt) (i sq:Nat) (hi:Int):Prop where
 wf:u.wf
 sp:speechB u.codec=true
 cod:Dlt.valid u.cv u.ci=true
 tn:u.tn=Ev.Snd.zero
 tk:(sq=0∧u.tk=Pk.Tr.zero)∨(0<sq∧u.tk=⟨true,(sq:Int)-1, -1⟩)
 ht:0≤u.ht∧u.ht≤9600
 jt:Jb.EndJ ls mo trip u.jt i hi
 hi:hi≤(sq:Int)
 now:u.jt.now≤20*(i:Int)+trip
 hl:0≤u.hd.len∧u.hd.len≤65535
section
variable {ls mo trip:Int} {u:Pt} {i sq:Nat} {hi:Int}
theorem LisE.valid (h:LisE ls mo trip u i sq hi) (h6:sq≤60):u.valid=true:=by
 have h1:=h.ht
 have hn:u.near:=by
  unfold Pt.near
  rcases h.tk with ⟨_,e⟩|⟨x,e⟩
  · rw [e];show 0≤(0:Int)∧(0:Int)≤140737488355328 ∧ -1≤(0:Int)∧(0:Int)≤65535∧_;omega
  · rw [e];show 0≤(sq:Int)-1∧(sq:Int)-1≤140737488355328 ∧ -1≤(-1:Int)∧(-1:Int)≤65535∧_;omega
 have A:Jb.valid u.jt=true:=by unfold Jb.valid;rw [decide_eq_true_iff];exact h.jt.sm.ok
 unfold Pt.valid
 rw [h.sp,h.cod,A,h.tn,tn0,decide_eq_true hn];rfl
theorem LisE.chk (h:LisE ls mo trip u i sq hi) (h6:sq≤60) (t:Int) (h1:20*(i:Int)+trip≤t) (h2:t≤281474976710656):chkT u t=0:=by
 have:=h.now
 unfold chkT
 rw [if_neg (by rw [h.valid h6];rintro (e|e);cases e;omega),if_neg (by omega)]
theorem LisE.skip (h:LisE ls mo trip u i sq hi):LisE ls mo trip u (i+1) sq hi :=
 ⟨h.wf,h.sp,h.cod,h.tn,h.tk,h.ht,h.jt.skip (Int.le_refl _),h.hi,by have:=h.now;push_cast;omega,h.hl⟩
theorem LisE.follow (h:LisE ls mo trip u i sq hi) (h6:sq<60):Pk.follow u.tk (sq:Int)=(⟨true,(sq:Int), -1⟩,(sq:Int),true):=by
 rcases h.tk with ⟨A,e⟩|⟨A,e⟩
 · rw [e];unfold Pk.follow
   rw [if_neg (fun hn=>hn (by decide)),if_pos (show Pk.Tr.zero.on=false from rfl)]
 · rw [e];unfold Pk.follow
   have B:Pk.Tr.ok ⟨true,(sq:Int)-1, -1⟩:=by unfold Pk.Tr.ok;simp only;omega
   rw [if_neg (fun hn=>hn B),if_neg (by simp)]
   simp only [zqt ((sq:Int)-1) (sq:Int) (by omega) (by omega) (by omega) (by omega)]
   rw [if_pos (by omega),show max ((sq:Int)-1) (sq:Int)=(sq:Int) by omega]
theorem LisE.start {l:Int} (hs:speechB c=true) (hc:Jb.cfg l m) (t0:0≤trip):LisE l m trip (new c 7 l m).1 0 0 0:=by
 have h:=LisI.start hs hc
 have e:new c 7 l m=({ Pt.zero with codec:=c,src:=7,mrk:=true,jt:=(Jb.new l m).1,seed:=7 }, 0):=by
  unfold new
  rw [if_neg (by rw [hs];decide),if_pos hc]
 have h0:(new c 7 l m).1.hd.len=0:=by rw [e];rfl
 have h1:(new c 7 l m).1.tk=Pk.Tr.zero:=by rw [e];rfl
 have h2:(new c 7 l m).1.jt=(Jb.new l m).1:=by rw [e]
 have h3:(Jb.new l m).1.now=0:=by unfold Jb.new;rw [if_pos hc]
 exact ⟨h.wf,h.sp,h.cod,h.tn, .inl ⟨rfl,h1⟩,h.ht,by rw [h2];exact Jb.EndJ.start hc,by simp,by rw [h2,h3];simp;omega,by rw [h0];decide⟩
theorem LisE.media (h:LisE ls mo trip u i sq hi) (H:i<40) (hs:sq≤i) (hc:Jb.cfg ls mo) (t0:0≤trip) (t1:trip≤65535) (x:Arr) (A:x.sq=(sq:Int)) (G:x.ti=160*(i:Int)) (F:speechB x.ty=true∨x.ty=13) (L:x.pl.length≤1500) :
 ∃ (u':Pt) (sds:List Sd),(Pk.follow u.tk x.sq).2.2=true∧(Jb.put u.jt (20*(i:Int)+trip) ⟨(Pk.follow u.tk x.sq).2.1,time u x,x.mrk,x.ty,x.pl⟩).2.2.2=0∧recv0 u (20*(i:Int)+trip) x=(u',1,sds)∧u'.hd=u.hd ∧
  LisE ls mo trip u' (i+1) (sq+1) ((sq:Int)+1)∧sds=(sounds u.seed (Jb.due (20*(i:Int)+trip) u.jt.q)).2∧u'.jt.q=Jb.left (20*(i:Int)+trip) u.jt.q ++ [⟨20*(i:Int)+trip+ls,⟨x.sq,x.ti,x.mrk,x.ty,x.pl⟩⟩]:=by
 have hf:=h.follow (by omega)
 rw [← A] at hf
 have C:time u x=x.ti:=by
  unfold time
  split
  · exact zqu _ _ h.ht.1 h.ht.2 (by omega) (by omega)
  · rfl
 obtain ⟨m,hm⟩:∃ m:Jb.Md,m=⟨x.sq,x.ti,x.mrk,x.ty,x.pl⟩:=⟨_,rfl⟩
 have I:m.ok:=by rw [hm];unfold Jb.Md.ok;simp only;omega
 obtain ⟨s',E,hq,K,_,B⟩:=h.jt.put H hc t0 t1 h.now m I (by rw [hm];exact G) (by rw [hm];have:=h.hi;show hi≤x.sq;omega)
 have hk:known x≠false:=by
  unfold known
  rcases F with e|e
  · rw [e];simp
  · rw [e];simp
 have J:¬x.ty=101:=by
  rcases F with e|e
  · rcases zal.1 e with e|e|e<;>omega
  · omega
 refine ⟨{ u with tk:=⟨true,x.sq, -1⟩,ht:=if u.tk.on=false∨u.ht<x.ti then x.ti else u.ht,st:=Rep.arrive u.st x.sq (8*(20*(i:Int)+trip)) x.ti,jt:=s',seed:=(sounds u.seed (Jb.due (20*(i:Int)+trip) u.jt.q)).1 }, _,by rw [hf],by rw [hf,C,← hm,E],?_,rfl,⟨?_,h.sp,h.cod,h.tn, .inr ⟨by omega,?_⟩,?_,?_,by push_cast;omega,?_,h.hl⟩,rfl,?_⟩
 · unfold recv0
   rw [if_neg hk]
   simp only [hf,C]
   rw [if_neg (by decide),if_neg J,← hm,E]
 · exact ⟨h.wf.codec,h.wf.src,h.wf.seq,h.wf.time,h.wf.below,h.wf.tvol,h.wf.tcode,h.wf.tst,zay _ _ h.wf.seed,h.wf.pk,h.wf.oc⟩
 · show (⟨true,x.sq, -1⟩:Pk.Tr)=⟨true,((sq+1:Nat):Int)-1, -1⟩
   rw [A];congr 1;push_cast;omega
 · show 0≤(if u.tk.on=false∨u.ht<x.ti then x.ti else u.ht)∧(if u.tk.on=false∨u.ht<x.ti then x.ti else u.ht)≤9600
   have:=h.ht
   split<;>omega
 · have D:Jb.EndJ ls mo trip s' (i+1) (x.sq+1):=by rw [hm] at B;exact B
   rw [A] at D;exact D
 · show s'.now≤_
   rw [K];push_cast;omega
 · rw [hq,hm]
theorem LisE.tone (h:LisE ls mo trip u i sq hi) (F:i<40) (hs:sq≤i) (t0:0≤trip) (t1:trip≤65535) (x:Arr) (A:x.sq=(sq:Int)) (B:x.ty=101) (t:Ev.Tone) (hd:Ev.decT x.pl=(t,0)) (D:0≤t.dur) (E:t.dur≤65535) :
 ∃ (u':Pt) (sds:List Sd),(Pk.follow u.tk x.sq).2.2=true∧(Jb.run u.jt (20*(i:Int)+trip)).2.2=0∧recv0 u (20*(i:Int)+trip) x=(u',1,sds)∧u'.hd=(Ev.hear u.hd x.ti t).1 ∧
  LisE ls mo trip u' (i+1) (sq+1) hi∧sds=(sounds u.seed (Jb.due (20*(i:Int)+trip) u.jt.q)).2++(if (Ev.hear u.hd x.ti t).2=[] then [] else [⟨20*(i:Int)+trip,[],(Ev.hear u.hd x.ti t).2⟩])∧u'.jt.q=Jb.left (20*(i:Int)+trip) u.jt.q:=by
 have hf:=h.follow (by omega)
 rw [← A] at hf
 have hr:Jb.run u.jt (20*(i:Int)+trip)=(Jb.run0 u.jt (20*(i:Int)+trip),Jb.due (20*(i:Int)+trip) u.jt.q,0):=by
  unfold Jb.run;rw [Jb.chk_run h.jt.sm.ok h.now (by omega),if_pos rfl]
 have hk:known x≠false:=by
  unfold known
  rw [hd,B];simp
 have C:=(h.jt.run (by omega) (20*(i:Int)+trip) h.now (by omega))
 refine ⟨{ u with tk:=⟨true,x.sq, -1⟩,jt:=Jb.run0 u.jt (20*(i:Int)+trip),seed:=(sounds u.seed (Jb.due (20*(i:Int)+trip) u.jt.q)).1,hd:=(Ev.hear u.hd x.ti t).1 }, _,by rw [hf],by rw [hr],?_,rfl,⟨?_,h.sp,h.cod,h.tn, .inr ⟨by omega,?_⟩,h.ht,C,by have:=h.hi;push_cast;omega,?_,?_⟩,rfl,rfl⟩
 · unfold recv0
   rw [if_neg hk]
   simp only [hf]
   rw [if_neg (by decide),if_pos B,hd]
   unfold run
   simp only
   rw [hr]
 · exact ⟨h.wf.codec,h.wf.src,h.wf.seq,h.wf.time,h.wf.below,h.wf.tvol,h.wf.tcode,h.wf.tst,zay _ _ h.wf.seed,h.wf.pk,h.wf.oc⟩
 · show (⟨true,x.sq, -1⟩:Pk.Tr)=⟨true,((sq+1:Nat):Int)-1, -1⟩
   rw [A];congr 1;push_cast;omega
 · show (Jb.run0 u.jt (20*(i:Int)+trip)).now≤_
   show 20*(i:Int)+trip≤_
   push_cast;omega
 · show 0≤(Ev.hear u.hd x.ti t).1.len∧(Ev.hear u.hd x.ti t).1.len≤65535
   have hl:=h.hl
   unfold Ev.hear
   split
   · exact ⟨D,E⟩
   split
   · show 0≤max u.hd.len t.dur∧max u.hd.len t.dur≤65535;omega
   · exact hl
end
def MI (q:List Jb.Wt) (got want:List Sd):Prop:=∃ wg wq,want=wg++wq∧F2 mG (got.filter nok) wg∧F2 mQ q wq
theorem MI.nil:MI [] [] []:=⟨[],[],rfl, .nil, .nil⟩
theorem MI.due {q:List Jb.Wt} {got want:List Sd} (h:MI q got want) (now s:Int) (more:List Sd) (hm:more.filter nok=[]):MI (Jb.left now q) (got++((sounds s (Jb.due now q)).2++more)) want:=by
 obtain ⟨A,C,rfl,h1,h2⟩:=h
 rw [← Jb.due_left now q] at h2
 obtain ⟨B,m2,rfl,h3,h4⟩:=F2.split h2
 refine ⟨A++B,m2,by rw [List.append_assoc],?_,h4⟩
 rw [List.filter_append,List.filter_append,hm,List.append_nil,znb]
 exact h1.append (zis _ _ _ h3)
theorem MI.put {q:List Jb.Wt} {got want:List Sd} (h:MI q got want) (a:Jb.Wt) (w:Sd) (hw:mQ a w):MI (q ++ [a]) got (want ++ [w]):=by
 obtain ⟨B,A,rfl,h1,h2⟩:=h
 exact ⟨B,A ++ [w],by rw [List.append_assoc],h1,h2.append (.cons hw .nil)⟩
theorem MI.done {got want:List Sd} (h:MI [] got want):F2 mG (got.filter nok) want:=by
 obtain ⟨B,A,rfl,h1,h2⟩:=h
 cases h2
 rw [List.append_nil]
 exact h1
theorem encS_len (c:Int) (s:Int×Int) (zs:List Int) (hs:speechB c=true) (hv:Dlt.valid s.1 s.2=true) (hl:zs.length=160):(decS c (enc c s zs).1).length=160:=by
 rcases zal.1 hs with rfl|rfl|rfl
 · simp [decS,enc,hl]
 · simp [decS,enc,hl]
 · show (decS 96 (Dlt.packB s zs)).length=160
   unfold decS
   rw [if_neg (by decide),if_neg (by decide),if_pos rfl]
   have hf:Dlt.fits (Dlt.packB s zs) 160:=by
    have h : -32768≤s.1∧s.1≤32767∧0≤s.2∧s.2≤88:=by simpa [Dlt.valid,and_assoc] using hv
    refine ⟨by rw [Dlt.packB_len,hl],?_,?_,fun h=>by omega⟩
    · rw [Dlt.packB_at s zs 2 (by omega)];show s.2≤88;omega
    · rw [Dlt.packB_at s zs 3 (by omega)];rfl
   rw [if_pos hf]
   unfold Dlt.unpackL
   simp
end Sb
section
attribute [local go_sem ↓] zab zac
attribute [local go_sem] zaa zad
open Go.RowKit
def Ev.Snd.row (s:Ev.Snd):Array Value := #[.bool s.on, .int .u8 s.code, .int .u8 s.vol, .int .u32 s.start, .int .i64 s.len, .int .i64 s.ends]
section
variable (on:Bool) (code vol start len ends c v t n:Int) (w:World)
theorem zfo:
 Calls Tryz.prog 85 #[.agg #[.bool on, .int .u8 code, .int .u8 vol, .int .u32 start, .int .i64 len, .int .i64 ends]] w fun e w'=>e = .returned (.bool (Ev.Snd.valid ⟨on,code,vol,start,len,ends⟩))∧w.alloc (.cells #[.bool on, .int .u8 code, .int .u8 vol, .int .u32 start, .int .i64 len, .int .i64 ends] 32)=w':=by
 cases on
 all_goals
  go_enter Tryz.func85,Tryz.ntmps85
  go_wp2
  all_goals go_ret
  all_goals refine ⟨?_,rfl⟩
  all_goals (simp_all [Ev.Snd.valid])
  all_goals omega
theorem zka:
 Calls Tryz.prog 81 #[.agg #[.bool on, .int .u8 code, .int .u8 vol, .int .u32 start, .int .i64 len, .int .i64 ends]] w fun e w'=>e = .returned (.tuple #[.agg (Ev.release ⟨on,code,vol,start,len,ends⟩).1.row, .int .u8 (Ev.release ⟨on,code,vol,start,len,ends⟩).2])∧Below w.heap.size w w':=by
 have k1:=Z9 fun W=>zfo on code vol start len ends W
 obtain ⟨R,A⟩:=nm9 (Ev.release ⟨on,code,vol,start,len,ends⟩)
 rw [← A]
 obtain ⟨V,B⟩:=nm9 (Ev.Snd.valid ⟨on,code,vol,start,len,ends⟩)
 unfold Ev.release at A
 rw [← B] at k1 A
 have HR:=Z9 A
 clear B A
 cases V<;>cases on
 all_goals
  go_enter Tryz.func81,Tryz.ntmps81
  go_wp2_with (go_at_call 85;refine (k1.out _).mono ?_;rintro e w1 ⟨rfl,rfl⟩)
  all_goals
   refine bodyPost_ret (v := .tuple #[.agg R.1.row, .int .u8 R.2]) ?_ rfl ⟨rfl,?_⟩
   · have A:=HR.out
     first
      | (simp_all [results,Tryz.results81,go_sem,Ev.Snd.zero,Ev.Snd.row];done)
      | (simp_all [results,Tryz.results81,go_sem,Ev.Snd.zero,Ev.Snd.row];(repeat' split)<;>first|omega|(simp_all;done)|(simp_all;omega))
   · repeat (first|exact Below.refl _ _|refine Below.drew ?_|refine Below.setCell ?_ (by simp) _|refine Below.alloc ?_ (by simp;try omega) _)
end
section
variable {α : Type} {row : α → List Value} {w:World} {B size:Nat} {A:Option Addr} {l:List α}
theorem RowsAt.take (h:RowsAt w B size row A l) (n:Nat):RowsAt w B size row A (l.take n):=fun h0=>by
 obtain ⟨b,off,rfl,hb,hc⟩:=h (by simp at h0;omega)
 refine ⟨b,off,rfl,hb,fun i a C j v hv=>hc i a ?_ j v hv⟩
 rw [List.getElem?_take] at C
 split at C
 · exact C
 · cases C
theorem RowsAt.dropAt (h:RowsAt w B size row (some ⟨b,off,none⟩) l) (n:Nat):RowsAt w B size row (some ⟨b,off+n*size,none⟩) (l.drop n):=fun h0=>by
 obtain ⟨E,F,e,hb,hc⟩:=h (by simp at h0;omega)
 injection e with e
 injection e with D C
 subst D C
 refine ⟨b,off+n*size,rfl,hb,fun i a A j v hv => ?_⟩
 rw [List.getElem?_drop] at A
 have:=hc (n+i) a A j v hv
 rw [← this]
 congr 2
 rw [Nat.add_mul];omega
end
theorem Wts.take (h:Wts w B A l) (n:Nat):Wts w B A (l.take n):=⟨h.1.take n,fun a C=>h.2 a (List.mem_of_mem_take C)⟩
theorem Wts.dropAt (h:Wts w B (some ⟨b,off,none⟩) l) (n:Nat):Wts w B (some ⟨b,off+n*6,none⟩) (l.drop n):=⟨h.1.dropAt n,fun a A=>h.2 a (List.mem_of_mem_drop A)⟩
theorem Wts.form (h:Wts w B A l):l=[]∨∃ b off,A=some ⟨b,off,none⟩:=by
 rcases Nat.eq_zero_or_pos l.length with h0|h0
 · exact .inl (List.eq_nil_of_length_eq_zero h0)
 · obtain ⟨b,off,e,_⟩:=h.1 h0
   exact .inr ⟨b,off,e⟩
theorem Wts.empty: Wts w B A []:=⟨RowsAt.nil,fun _ h=>by cases h⟩
structure WtsIn (w:World) (lo hi:Nat) (A:Option Addr) (l:List TW):Prop where
 rows:Wts w hi A l
 low:0<l.length→∀ b off,A=some ⟨b,off,none⟩→lo≤b
 plow:∀ a∈l,0<a.w.m.pl.length→∀ b off,a.B=some ⟨b,off,none⟩→lo≤b
 cap:∀ a∈l,a.w.m.pl.length≤a.c
theorem WtsIn.keep (h:WtsIn w lo hi A l) (hk:∀ p:Addr,lo≤p.block→p.block<hi→w'.cell? p=w.cell? p):WtsIn w' lo hi A l:=by
 refine ⟨⟨fun h0 => ?_,fun a B h0 => ?_⟩,h.low,h.plow,h.cap⟩
 · obtain ⟨b,off,rfl,hb,hc⟩:=h.rows.1 h0
   have C:=h.low h0 b off rfl
   exact ⟨b,off,rfl,hb,fun i a B j v hv=>(hk _ C hb).trans (hc i a B j v hv)⟩
 · obtain ⟨b,off,e,hb,hc⟩:=h.rows.2 a B h0
   have C:=h.plow a B h0 b off e
   exact ⟨b,off,e,hb,fun i hi=>(hk _ C hb).trans (hc i hi)⟩
theorem WtsIn.more {hi':Nat} (h:WtsIn w lo hi A l) (hl:hi≤hi'):WtsIn w lo hi' A l:=⟨h.rows.more hl,h.low,h.plow,h.cap⟩
theorem WtsIn.empty: WtsIn w lo hi none []:=⟨Wts.nil,fun h=>absurd h (by simp),(fun _ h=>by cases h),fun _ h=>by cases h⟩
theorem WtsIn.less (h:WtsIn w lo hi A l) (hl:lo'≤lo):WtsIn w lo' hi A l :=
 ⟨h.rows,fun h0 b off e=>Nat.le_trans hl (h.low h0 b off e),fun a B h0 b off e=>Nat.le_trans hl (h.plow a B h0 b off e),h.cap⟩
theorem WtsIn.setCell (h:WtsIn w lo hi A l) (hp:p.block<lo) (u:Value):WtsIn (w.setCell p u) lo hi A l :=
 h.keep fun q hq _=>World.cell?_setCell_other w p q u (fun e=>by subst e;omega)
theorem WtsIn.below (h:WtsIn w lo hi A l) (hb:Below B w w') (hB:hi≤B):WtsIn w' lo hi A l:=h.keep fun q _ hq=>hb.cell (by omega)
theorem QOwn.wtsIn {c:Nat} (h:QOwn w base A n c l):WtsIn w base w.heap.size A l :=
 ⟨h.wts,fun h0 b off e=>(h.own.block b (by rw [e];rfl)).1,h.new,h.cap⟩
theorem QOwn.setCell {c:Nat} (h:QOwn w base A n c l) (hp:p.block<base) (u:Value):QOwn (w.setCell p u) base A n c l:=by
 refine ⟨h.len,h.own.setCell (fun g hg e => ?_) u,fun a B h0 => ?_,h.far,h.new,h.cap⟩
 · have:=(h.own.block g hg).1
   omega
 · obtain ⟨b,off,e,hb,hc⟩:=h.pay a B h0
   have C:=h.new a B h0 b off e
   exact ⟨b,off,e,by simpa [World.setCell] using hb,fun i hi=>(World.cell?_setCell_other w p _ u (fun e=>by subst e;simp at hp;omega)).trans (hc i hi)⟩
theorem QOwn.push {c:Nat} (h:QOwn w base A n c l) (o:Obj):QOwn (w.alloc o) base A n c l:=h.below ((Below.refl _ _).alloc (Nat.le_refl _) _)
theorem QOwn.setRow {base n c g:Nat} {A:Option Addr} {l:List TW} (hg:g<base):∀ (vs:List Value) (w:World) (i:Nat),QOwn w base A n c l→QOwn (Go.Proofs.YtbcgnddpkiemoaaGreat.setRow g w i vs) base A n c l
 | [],_,_,h=>h
 | v::vs,w,i,h=>QOwn.setRow hg vs _ (i+1) (QOwn.setCell h (by exact hg) v)
theorem WtsIn.setRow {lo hi g:Nat} {A:Option Addr} {l:List TW} (hg:g<lo):∀ (vs:List Value) (w:World) (i:Nat),WtsIn w lo hi A l→WtsIn (Go.Proofs.YtbcgnddpkiemoaaGreat.setRow g w i vs) lo hi A l
 | [],_,_,h=>h
 | v::vs,w,i,h=>WtsIn.setRow hg vs _ (i+1) (WtsIn.setCell h (by exact hg) v)
def QueueN (n:Nat) (q:List Jb.Wt) (w:World) (e:Ending) (w':World):Prop :=
 ∃ (A':Option Addr) (c':Nat) (l':List TW),e = .returned (.slice A' n c')∧l'.map TW.w=q∧QOwn w' w.heap.size A' n c' l'∧Below w.heap.size w w'
theorem zfp (A:Option Addr) (l:List TW) (n c:Nat) (w:World) (B:Nat) (hB:B≤w.heap.size) (hn:l.length=n) (hl:n≤100000) (C:Wts w B A l) (hp:∀ a∈l,a.w.m.pl.length≤1000000) (q:List Jb.Wt) (hq:l.map TW.w=q):Calls Tryz.prog 127 #[.slice A n c] w (QueueN n q w):=by
 refine (zgu A l n c w hn hl (C.more hB) hp).mono ?_
 rintro e w' ⟨A',c',l',rfl,h1,h2,h3⟩
 rw [hn] at h2
 exact ⟨A',c',l',by rw [hn],h1.trans hq,h2,h3⟩
def RunR (le mo:Int) (on:Bool) (ze fi hi dn sp tr:Int) (q:List Jb.Wt) (la tw pd now:Int) (w:World) (e:Ending) (w':World):Prop :=
 ∃ (A1:Option Addr) (c1:Nat) (l1:List TW) (A2:Option Addr) (c2:Nat) (l2:List TW) (B:Nat),
  e = .returned (.tuple #[.agg #[.int .i64 le, .int .i64 mo, .int .i64 now, .bool on, .int .i64 ze, .int .i64 fi, .int .i64 hi, .int .i64 (Jb.maxSq dn (Jb.due now q)), .int .i64 sp, .int .i64 tr, .slice A2 l2.length c2, .int .i64 la, .int .i64 tw, .int .i64 (pd+(Jb.due now q).length)], .slice A1 l1.length c1]) ∧
  l1.map TW.w=Jb.due now q∧l2.map TW.w=Jb.left now q∧WtsIn w' w.heap.size B A1 l1∧QOwn w' B A2 l2.length c2 l2∧w.heap.size≤B∧B≤w'.heap.size∧(l1.length≤c1∧c1≤maxLen)∧Below w.heap.size w w'
theorem ztr (now:Int) (q:List Jb.Wt):Jb.due now q=q.take (Jb.due now q).length∧Jb.left now q=q.drop (Jb.due now q).length:=by
 have h:=Jb.due_left now q
 constructor
 · conv=>rhs;arg 2;rw [← h]
   rw [List.take_left]
 · conv=>rhs;arg 2;rw [← h]
   rw [List.drop_left]
theorem znc (d:Int) (l:List Jb.Wt) (x:Jb.Wt):Jb.maxSq d (l ++ [x])=max (Jb.maxSq d l) x.m.sq:=by unfold Jb.maxSq;rw [List.foldl_append];rfl
end
section
open Go Go.RowKit
open Go.Maps (Keyed)
theorem zdg {H:Type} (he:P.underlying e=some .bool) {z:DataW H×List MemPlace} (h:plainElem P e v=some z):∃ x,v = .bool x∧z=(.lit (.bool x),[]):=by
 unfold plainElem at h
 rw [he] at h
 cases v<;>simp at h
 case bool x=>exact ⟨x,rfl,h.symm⟩
def sqMap (H:Type) (l:List Int):DataW H:=l.foldl (fun D s=>D.put (.int .i64 s) (.lit (.bool true))) (.map [])
theorem zdy (H:Type) (l:List Int) (s:Int):sqMap H (l ++ [s])=(sqMap H l).put (.int .i64 s) (.lit (.bool true)):=by simp [sqMap,List.foldl_append]
theorem zlj (H:Type):∀ (n:Nat) (l:List Int),l.length=n→Maps.IsMap (sqMap H l)
 | 0, l, h => by
   obtain rfl:=List.eq_nil_of_length_eq_zero h
   exact Maps.isMap_empty
 | n + 1, l0, h => by
   obtain ⟨l,s,rfl⟩:∃ a b,l0=a ++ [b]:=⟨l0.dropLast,l0.getLast (by intro e;rw [e] at h;simp at h),(List.dropLast_concat_getLast _).symm⟩
   rw [zdy]
   exact (zlj H n l (by simpa using h)).put _ _
theorem zlk (H:Type) (s:Int):∀ (n:Nat) (l:List Int),l.length=n→(sqMap H l).atKey (.int .i64 s) (.lit (.bool false)) = .lit (.bool (l.any fun x=>x==s))
 | 0, l, h => by
   obtain rfl:=List.eq_nil_of_length_eq_zero h
   rfl
 | n + 1, l0, h => by
   obtain ⟨l,x,rfl⟩:∃ a b,l0=a ++ [b]:=⟨l0.dropLast,l0.getLast (by intro e;rw [e] at h;simp at h),(List.dropLast_concat_getLast _).symm⟩
   have hl:l.length=n:=by simpa using h
   rw [zdy]
   by_cases hx:x=s
   · subst hx
     rw [Maps.atKey_put_same (k := .int .i64 x) (zlj H n l hl) (by unfold WideAt.IsKeyLit;trivial)]
     simp
   · rw [Maps.atKey_put_other (fun e=>hx (by injection e with _ e;exact e.symm)),zlk H s n l hl]
     simp [hx]
end
section
attribute [local go_sem ↓] zab zac
attribute [local go_sem] zaa zad
open Go.RowKit
theorem zdh {H:Type} {k:TypeId} {R:Value→Option (DataW H×List MemPlace)} {D:DataW H} (h:w.ownsMap P k R b n D) (hb:Below w.heap.size w w'):w'.ownsMap P k R b n D:=by
 have hlt:=h.lt
 obtain ⟨A,clock,h1,r⟩:=h
 exact ⟨A,clock,(hb.block b hlt).trans h1,r⟩
theorem zyj (h:I64 z):(Lit.int .i64 z).wf=true:=by
 obtain ⟨h1,h2⟩:=h
 have B:IntKind.i64.min = -9223372036854775808:=by decide
 have A:IntKind.i64.max=9223372036854775807:=by decide
 simp [Lit.wf,B,A,h1,h2]
theorem zit (w:World):(zeroValue 4).run Tryz.prog w = .ok (.bool false) w:=by kernel_rfl
theorem zkb:Maps.Keyed Tryz.prog 2:=Maps.int_keyed Tryz.underlying2
theorem ziu {H:Type} {k t:TypeId} {D:DataW H} (h:w.ownsMap P k (plainElem P e) b n D) (K:Maps.Keyed P k) (ht:P.underlying t=some (.map k e)) (he:P.underlying e=some .bool) (hz:(zeroValue e).run P w = .ok (.bool false) w)
 {B:Lit} (C:keyOf P k Pn=some B) (c:Bool) (hc:D.atKey B (.lit (.bool false)) = .lit (.bool c)):(Instr.lookup t (.map (some b)) Pn false).run P w = .ok (.bool c) w:=by
 obtain ⟨v,ps,E,hv⟩:=h.lookup K ht hz (plainElem_bool he false) C
 obtain ⟨c',rfl,A⟩:=zdg he hv
 injection A with A _
 rw [hc] at A
 injection A with A
 injection A with A
 rw [E,A]
def QTest (nw hi:Int) (a:Jb.Wt):Prop:=a.m.ok∧nw<a.at_∧a.at_≤562949953421312∧a.m.sq≤hi
theorem zwu (nw hi:Int) (q:List Jb.Wt) (k:Nat) (a:Jb.Wt) (h:q[k]? = some a):Jb.okAt nw hi q k↔(a.m.ok∧nw<a.at_∧a.at_≤562949953421312∧a.m.sq≤hi)∧(((q.take k).map fun x=>x.m.sq).any fun x=>x==a.m.sq)=false∧(0<k→Jb.bef (q.getD (k-1) Jb.Wt.zero) a):=by
 have hk:k<q.length:=(List.getElem?_eq_some_iff.1 h).1
 have e:q.getD k Jb.Wt.zero=a:=by simp [List.getD_eq_getElem?_getD,h]
 unfold Jb.okAt
 rw [e]
 constructor
 · rintro ⟨h1,h2,h3,h4,h5,h6⟩
   refine ⟨⟨h1,h2,h3,h4⟩,?_,h5⟩
   rw [List.any_eq_false]
   intro x hx
   obtain ⟨y,B,rfl⟩:=List.mem_map.1 hx
   obtain ⟨i,hi',rfl⟩:=List.getElem_of_mem B
   have A:i<k:=by simp at hi';omega
   have:=h6 i A
   rw [Jb.getD_eq (by omega)] at this
   rw [List.getElem_take]
   simpa using this
 · rintro ⟨⟨h1,h2,h3,h4⟩,h5,h6⟩
   refine ⟨h1,h2,h3,h4,h6,fun i A => ?_⟩
   rw [List.any_eq_false] at h5
   have:=h5 (q.getD i Jb.Wt.zero).m.sq (List.mem_map.2 ⟨q.getD i Jb.Wt.zero,?_,rfl⟩)
   · simpa using this
   · rw [Jb.getD_eq (by omega)]
     exact List.mem_take_iff_getElem.2 ⟨i,by omega,rfl⟩
theorem zct (le mo nw:Int) (on:Bool) (ze fi hi dn sp tr:Int) (A:Option Addr) (l:List TW) (n qc:Nat) (la tw pd:Int) (w:World) (hn:l.length=n) (hl:n≤100000) (hA:Wts w w.heap.size A l) (hK:∀ a∈l,I64 a.w.m.sq) (v:Bool) (hv:v=decide (Jb.okQ nw hi (l.map TW.w))):Calls Tryz.prog 119 #[.agg #[.int .i64 le, .int .i64 mo, .int .i64 nw, .bool on, .int .i64 ze, .int .i64 fi, .int .i64 hi, .int .i64 dn, .int .i64 sp, .int .i64 tr, .slice A n qc, .int .i64 la, .int .i64 tw, .int .i64 pd]] w fun e w'=>e = .returned (.bool v)∧Below w.heap.size w w':=by
 subst hn
 have HA:=Z9 hA
 have HK:=Z9 hK
 have HV:=Z9 hv
 have Cw:=@run_makeMap Tryz.prog
 clear hA hK hv
 by_cases gJ:l.length≤200
 rotate_left
 · have hv:v=false:=by rw [HV.out,decide_eq_false_iff_not];intro h;exact gJ (by simpa using h.1)
   subst hv
   have DN:(200:Int)<(l.length:Int):=by omega
   go_enter Tryz.func119,Tryz.ntmps119
   go_wp2_with fail
   go_ret
   exact ⟨rfl,(Below.refl _ _).alloc (Nat.le_refl _) _⟩
 have DN:(l.length:Int)≤(200:Int):=by omega
 go_enter Tryz.func119,Tryz.ntmps119
 go_wp2_with fail
 go_loopg [14] l.length (fun gk i wr => ∃ k:Nat,gk+k=l.length∧i = .int .i64 k∧Hid (∀ j,j<k→Jb.okAt nw hi (l.map TW.w) j)∧Hid (wr.ownsMap Tryz.prog 2 (plainElem (H:=Unit) Tryz.prog 4) (w.heap.size+1) k (sqMap Unit (((l.map TW.w).take k).map fun x=>x.m.sq)))∧Hid (Blk wr w.heap.size 37 #[.int .i64 le, .int .i64 mo, .int .i64 nw, .bool on, .int .i64 ze, .int .i64 fi, .int .i64 hi, .int .i64 dn, .int .i64 sp, .int .i64 tr, .slice A l.length qc, .int .i64 la, .int .i64 tw, .int .i64 pd])∧Hid (Bel w wr))
 case atStart =>
  refine ⟨0,rfl,rfl,Z9 (fun j h=>absurd h (by omega)),Z9 ?_,Z9 (Blk.push (Blk.new w _ _) _),Z9 (((Bel.refl w).push _).push _)⟩
  have:=World.ownsMap_made (w.alloc (.cells #[.int .i64 le, .int .i64 mo, .int .i64 nw, .bool on, .int .i64 ze, .int .i64 fi, .int .i64 hi, .int .i64 dn, .int .i64 sp, .int .i64 tr, .slice A l.length qc, .int .i64 la, .int .i64 tw, .int .i64 pd] 37)) Tryz.prog 2 (plainElem (H:=Unit) Tryz.prog 4)
  rw [zaq] at this
  exact this
 case round =>
  obtain ⟨k,Xf,rfl,HT,HM,E,U⟩:=hrel
  have Ct:(0:Int)≤(k:Int):=by omega
  by_cases hk:k<l.length
  rotate_left
  · obtain rfl:k=l.length:=by omega
    have Cn:(l.length:Int)≤(l.length:Int):=Int.le_refl _
    have hv:v=true:=by rw [HV.out,decide_eq_true_iff];exact ⟨by simpa using gJ,fun j hj=>HT.out j (by simpa using hj)⟩
    subst hv
    go_wp2_with fail
    go_ret
    exact ⟨rfl,U.out⟩
  have Cn:(k:Int)<(l.length:Int):=by omega
  obtain ⟨a,Y⟩:∃ a,l[k]? = some a:=⟨_,List.getElem?_eq_getElem hk⟩
  obtain ⟨b,off,rfl,Bb,e0,e1,e2,e3,e4,e5⟩:=zes (HA.out.1.keep (fun p hp=>U.out.cell hp)) Y
  have y:=HK.out a (List.mem_of_getElem? Y)
  have hm:(l.map TW.w)[k]? = some a.w:=by rw [List.getElem?_map,Y];rfl
  have O:Hid (¬Jb.okAt nw hi (l.map TW.w) k→v=false):=Z9 (fun yG=>by rw [HV.out,decide_eq_false_iff_not];intro h;exact yG (h.2 k (by simpa using hk)))
  have I:=Z9 (zwu nw hi (l.map TW.w) k a.w hm)
  have cC:=Z9 hm
  obtain ⟨⟨at0,⟨sq0,ti0,C,ty0,pl0⟩⟩,F,c0⟩:=a
  simp only at e0 e1 e2 e3 e4 e5 y I cC
  have Ro:=Maps.keyOf_int_mk (P:=Tryz.prog) Tryz.underlying2 (zyj y)
  have p2:=E.out.at 2 _ rfl
  have p6:=E.out.at 6 _ rfl
  have mI:=E.out.at 10 _ rfl
  have hlt:=E.out.lt
  clear Y hm y
  obtain ⟨fv,AA⟩:=nm9 (decide ((0≤sq0∧sq0≤281474976710656)∧(-281474976710656≤ti0∧ti0≤281474976710656)∧pl0.length≤1500))
  have k1:=Z9 fun W=>zfy sq0 ti0 C ty0 F pl0.length c0 W fv AA
  have HF:Hid (fv=decide (Jb.Md.ok ⟨sq0,ti0,C,ty0,pl0⟩)):=Z9 AA
  clear AA
  cases fv
  · have hv:v=false:=O.out (fun h=>by have:=(I.out.1 h).1.1;have hf:=HF.out;rw [eq_comm,decide_eq_false_iff_not] at hf;exact hf this)
    subst hv
    go_wp2_with fail
    refine (k1.out _).mono ?_
    rintro e w1 ⟨rfl,B⟩
    have G:=Z9 ((U.out.push (.cells #[.int .i64 at0, .int .i64 sq0, .int .i64 ti0, .bool C, .int .u8 ty0, .slice F pl0.length c0] 220)).later B)
    clear B
    go_wp2_with fail
    go_ret
    exact ⟨rfl,G.out⟩
  have hW:Blk (wr.alloc (.cells #[.int .i64 at0, .int .i64 sq0, .int .i64 ti0, .bool C, .int .u8 ty0, .slice F pl0.length c0] 220)) wr.heap.size 220 #[.int .i64 at0, .int .i64 sq0, .int .i64 ti0, .bool C, .int .u8 ty0, .slice F pl0.length c0]:=Blk.new wr _ _
  have L:=Z9 hW
  have As:Jb.Md.ok ⟨sq0,ti0,C,ty0,pl0⟩:=by have hf:=HF.out;rw [eq_comm,decide_eq_true_iff] at hf;exact hf
  have Pw:=Z9 As
  clear hW As HF
  by_cases c1:at0≤nw
  · have hv:v=false:=O.out (fun h=>by have M:nw<at0:=(I.out.1 h).1.2.1;omega)
    subst hv
    go_wp2_with fail
    refine (k1.out _).mono ?_
    rintro e w1 ⟨rfl,B⟩
    have G:=Z9 ((U.out.push (.cells #[.int .i64 at0, .int .i64 sq0, .int .i64 ti0, .bool C, .int .u8 ty0, .slice F pl0.length c0] 220)).later B)
    have f0:=(L.out.later B).at 0 _ rfl
    have g2:=((E.out.push _).later B).at 2 _ rfl
    clear B
    go_wp2_with fail
    go_ret
    exact ⟨rfl,G.out⟩
  have Ra:nw<at0:=by omega
  by_cases c2:562949953421312<at0
  · have hv:v=false:=O.out (fun h=>by have M:at0≤562949953421312:=(I.out.1 h).1.2.2.1;omega)
    subst hv
    go_wp2_with fail
    refine (k1.out _).mono ?_
    rintro e w1 ⟨rfl,B⟩
    have G:=Z9 ((U.out.push (.cells #[.int .i64 at0, .int .i64 sq0, .int .i64 ti0, .bool C, .int .u8 ty0, .slice F pl0.length c0] 220)).later B)
    have f0:=(L.out.later B).at 0 _ rfl
    have g2:=((E.out.push _).later B).at 2 _ rfl
    clear B
    go_wp2_with fail
    go_ret
    exact ⟨rfl,G.out⟩
  have Od:at0≤562949953421312:=by omega
  by_cases c3:hi<sq0
  · have hv:v=false:=O.out (fun h=>by have M:sq0≤hi:=(I.out.1 h).1.2.2.2;omega)
    subst hv
    go_wp2_with fail
    refine (k1.out _).mono ?_
    rintro e w1 ⟨rfl,B⟩
    have G:=Z9 ((U.out.push (.cells #[.int .i64 at0, .int .i64 sq0, .int .i64 ti0, .bool C, .int .u8 ty0, .slice F pl0.length c0] 220)).later B)
    have f0:=(L.out.later B).at 0 _ rfl
    have f1:=(L.out.later B).at 1 _ rfl
    have g2:=((E.out.push _).later B).at 2 _ rfl
    have g6:=((E.out.push _).later B).at 6 _ rfl
    clear B
    go_wp2_with fail
    go_ret
    exact ⟨rfl,G.out⟩
  have kY:sq0≤hi:=by omega
  go_wp2_with fail
  refine (k1.out _).mono ?_
  rintro e w1 ⟨rfl,B⟩
  have G:=Z9 ((U.out.push (.cells #[.int .i64 at0, .int .i64 sq0, .int .i64 ti0, .bool C, .int .u8 ty0, .slice F pl0.length c0] 220)).later B)
  have f0:=(L.out.later B).at 0 _ rfl
  have f1:=(L.out.later B).at 1 _ rfl
  have g2:=((E.out.push _).later B).at 2 _ rfl
  have g6:=((E.out.push _).later B).at 6 _ rfl
  have o:=Z9 (zdh (HM.out.alloc (.cells #[.int .i64 at0, .int .i64 sq0, .int .i64 ti0, .bool C, .int .u8 ty0, .slice F pl0.length c0] 220)) B)
  have Yd:=Z9 (L.out.later B)
  have Bt:=Z9 ((E.out.push (.cells #[.int .i64 at0, .int .i64 sq0, .int .i64 ti0, .bool C, .int .u8 ty0, .slice F pl0.length c0] 220)).later B)
  have Ar:(sqMap Unit (((l.map TW.w).take k).map fun x=>x.m.sq)).atKey (.int .i64 sq0) (.lit (.bool false)) = .lit (.bool ((((l.map TW.w).take k).map fun x=>x.m.sq).any fun x=>x==sq0)):=zlk Unit sq0 _ _ rfl
  have Tz:=Z9 Ar
  clear Ar
  have NV:wr.heap.size<w1.heap.size:=Yd.out.lt
  clear B e0 e1 e2 e3 e4 e5 p2 p6
  cases T:((((l.map TW.w).take k).map fun x=>x.m.sq).any fun x=>x==sq0)
  rotate_left
  · have hv:v=false:=O.out (fun h=>by have:=(I.out.1 h).2.1;rw [T] at this;cases this)
    subst hv
    have HS:=Z9 T
    clear T
    have By:=ziu o.out zkb Tryz.underlying279 Tryz.underlying4 (zit _) Ro true (by rw [Tz.out,HS.out])
    go_wp2_with fail
    go_ret
    exact ⟨rfl,G.out⟩
  have HS:=Z9 T
  clear T
  have By:=ziu o.out zkb Tryz.underlying279 Tryz.underlying4 (zit _) Ro false (by rw [Tz.out,HS.out])
  go_wp2_with (at_mapUpdate;refine wpList_mapUpdate_own _ rfl _ _ _ 279 rfl 2 4 zkb Tryz.underlying279 (plainElem (H:=Unit) Tryz.prog 4) (w.heap.size+1) k _ rfl o.out (by unfold maxLen;omega) _ _ _ rfl rfl Ro _ [] (plainElem_bool Tryz.underlying4 true) ?_;intro w2 Kf V)
  simp only [Act.put]
  have Bu:=V.size
  have yS:=HM.out.lt
  have hwl:=E.out.lt
  have K:=Z9 (Yd.out.grown V (by intro e;injection e with e;omega))
  have u:=Z9 (Bt.out.grown V (by intro e;injection e with e;omega))
  have U2:Hid (Bel w w2):=Z9 (G.out.grown V G.out.size (fun g e=>by injection e with e;omega))
  have cA:Hid (w2.ownsMap Tryz.prog 2 (plainElem (H:=Unit) Tryz.prog 4) (w.heap.size+1) (k+1) (sqMap Unit (((l.map TW.w).take (k+1)).map fun x=>x.m.sq))):=Z9 (by
   rw [List.take_add_one,cC.out]
   simp only [Option.toList_some,List.map_append,List.map_cons,List.map_nil]
   rw [zdy]
   exact Kf)
  have Sr:w.heap.size<w2.heap.size:=u.out.lt
  have Sq:wr.heap.size<w2.heap.size:=K.out.lt
  clear Kf V By o Bt Yd f0 f1 g2 g6
  have f0:=K.out.at 0 _ rfl
  have f1:=K.out.at 1 _ rfl
  have f2:=K.out.at 2 _ rfl
  have f3:=K.out.at 3 _ rfl
  have f4:=K.out.at 4 _ rfl
  have f5:=K.out.at 5 _ rfl
  have Sy:=u.out.at 10 _ rfl
  by_cases X:k=0
  · have Iw:decide (0<k)=false:=by rw [decide_eq_false_iff_not];omega
    have Id:decide ((0:Int)<(k:Int))=false:=by rw [decide_eq_false_iff_not];omega
    have Ss:(k:Int)≤0:=by omega
    have X6:=Z9 X
    clear X
    go_quiet (fail)
    go_wp2_with fail
    go_roundg (gk-1)
    case measure=>omega
    case rel =>
     have X:=X6.out
     subst X
     refine ⟨1,by omega,by go_num,Z9 (fun j hj => ?_),cA,Z9 (u.out.drewN _),Z9 (U2.out.drewN _)⟩
     obtain rfl:j=0:=by omega
     exact I.out.2 ⟨⟨Pw.out,Ra,Od,kY⟩,HS.out,fun h=>absurd h (by omega)⟩
  obtain ⟨m,rfl⟩:∃ m,k=m+1:=⟨k-1,by omega⟩
  clear X
  obtain ⟨a9,Xm⟩:∃ a,l[m]? = some a:=⟨_,List.getElem?_eq_getElem (by omega)⟩
  obtain ⟨b9,wV,AH,C6,q0,q1,q2,q3,q4,Q⟩:=zes (HA.out.1.keep (fun p hp=>U2.out.cell hp)) Xm
  injection AH with AH
  injection AH with AG AF
  subst AG AF
  have Jr:(l.map TW.w)[m]? = some a9.w:=by rw [List.getElem?_map,Xm];rfl
  have aG:=Z9 Jr
  obtain ⟨⟨N,⟨J,d,Z,f,c⟩⟩,B9,c9⟩:=a9
  simp only at q0 q1 q2 q3 q4 Q aG
  clear Xm Jr
  obtain ⟨R,hR⟩:∃ R:Int,R=if N<at0 then -1 else if at0<N then 1 else if J<sq0 then -1 else if sq0<J then 1 else 0:=⟨_,rfl⟩
  have k2:=Z9 fun W=>zet N J d f at0 sq0 ti0 ty0 Z C B9 F c.length c9 pl0.length c0 W
  rw [← hR] at k2
  have HR:=Z9 hR
  clear hR
  have Sn:IntKind.i64.wrap ((m:Int)+1-1)=(m:Int):=by rw [zaz _ (by omega) (by omega)];omega
  have Be:(m:Int)<(l.length:Int):=by omega
  have eE:(0:Int)≤(m:Int):=by omega
  have Ua:IntKind.i64.wrap (((m+1:Nat):Int)-1)=(m:Int):=by rw [zaz _ (by omega) (by omega)];omega
  have xE:((m+1:Nat):Int)-1=(m:Int):=by omega
  have MR:IntKind.i64.wrap (m:Int)=(m:Int):=zaz _ (by omega) (by omega)
  have Ay:m<l.length:=by omega
  have hU:Below w2.heap.size w2 w2:=Below.refl _ _
  go_region_held3 (fun w'=>Below w2.heap.size w2 w'∧w'.cell? ⟨wr.heap.size,0,none⟩=some (.int .i64 at0)∧w'.cell? ⟨wr.heap.size,1,none⟩=some (.int .i64 sq0)∧w'.cell? ⟨wr.heap.size,2,none⟩=some (.int .i64 ti0)∧w'.cell? ⟨wr.heap.size,3,none⟩=some (.bool C)∧w'.cell? ⟨wr.heap.size,4,none⟩=some (.int .u8 ty0)∧w'.cell? ⟨wr.heap.size,5,none⟩=some (.slice F pl0.length c0)∧w'.cell? ⟨w.heap.size,10,none⟩=some (.slice (some ⟨b,off,none⟩) l.length qc)∧w'.cell? ⟨b,off+m*6,none⟩=some (.int .i64 N)∧w'.cell? ⟨b,off+m*6+1,none⟩=some (.int .i64 J)∧w'.cell? ⟨b,off+m*6+2,none⟩=some (.int .i64 d)∧w'.cell? ⟨b,off+m*6+3,none⟩=some (.bool Z)∧w'.cell? ⟨b,off+m*6+4,none⟩=some (.int .u8 f)∧w'.cell? ⟨b,off+m*6+5,none⟩=some (.slice B9 c.length c9))
   (first|assumption|((try go_split_ands);refine zcv ?_ (fun D=>⟨zae D f0,zae D f1,zae D f2,zae D f3,zae D f4,zae D f5,zae D Sy,zae D q0,zae D q1,zae D q2,zae D q3,zae D q4,zae D Q⟩);(with_reducible repeat first|assumption|exact zak (by assumption) (by assumption)|refine Below.drew ?_|refine zaj ?_ _)))
   (first|(go_at_call 100;refine (k2.out _).mono ?_;rintro e w' ⟨rfl,z⟩;have t:Below w2.heap.size w2 w':=zak z (by (try go_split_ands);assumption);obtain ⟨De,Rr⟩:=zul z))
  all_goals
   have UZ:=Z9 (U2.out.later t)
   have HZ:=Z9 (zdh cA.out t)
   have BSZ:=Z9 (u.out.later t)
   have Nd:(l.map TW.w).getD (m+1-1) Jb.Wt.zero=⟨N,⟨J,d,Z,f,c⟩⟩:=by rw [Nat.add_sub_cancel];simp [List.getD_eq_getElem?_getD,aG.out]
   have UI:=Z9 Nd
   clear Nd De Rr t z q0 q1 q2 q3 q4 Q f0 f1 f2 f3 f4 f5 Sy
   by_cases Xo:0<R
   · have hv:v=false:=O.out (fun h=>by
      have M:=(I.out.1 h).2.2 (by omega)
      rw [UI.out] at M
      unfold Jb.bef at M
      simp only at M
      have h8:=HR.out
      repeat (first|(split at h8)|omega))
     subst hv
     go_wp2_with fail
     go_ret
     exact ⟨rfl,UZ.out⟩
   · have Qn:R≤0:=by omega
     go_wp2_with fail
     go_roundg (gk-1)
     case measure=>omega
     case rel =>
      refine ⟨m+1+1,by omega,by go_num,Z9 (fun j hj => ?_),HZ,BSZ,UZ⟩
      by_cases Tj:j<m+1
      · exact HT.out j Tj
      · obtain rfl:j=m+1:=by omega
        refine I.out.2 ⟨⟨Pw.out,Ra,Od,kY⟩,HS.out,fun _ => ?_⟩
        rw [UI.out]
        unfold Jb.bef
        simp only
        have Ao:J≠sq0:=by
         have h7:=HS.out
         rw [List.any_eq_false] at h7
         have:=h7 J (List.mem_map.2 ⟨⟨N,⟨J,d,Z,f,c⟩⟩,List.mem_of_getElem? (i:=m) (by rw [List.getElem?_take,if_pos (by omega)];exact aG.out),rfl⟩)
         simpa using this
        have h8:=HR.out
        repeat (first|(split at h8)|omega)
end
end Go.Proofs.YtbcgnddpkiemoaaGreat
