/- The top of layer 32: small functions: waves, the codecs by number, equal samples. -/
import Derived.Test.YtbcgnddpkiemoaaGreatSs9Q
import Derived.Test.YtbcgnddpkiemoaaGreatJtCopyQ
import Derived.Test.YtbcgnddpkiemoaaGreatSbDecsQ
import Derived.Deep.QuietTactic
import Derived.BigQuiet
import Derived.RegionTactic
import Derived.Deep.RegionHeld3
import Derived.Maps.OwnOps
import Derived.Maps.Views
set_option linter.unusedVariables false
set_option linter.unusedSimpArgs false
set_option maxRecDepth 100000
set_option maxHeartbeats 12800000
namespace Go.Proofs.YtbcgnddpkiemoaaGreat
attribute [local go_sem ↓] zab zac
attribute [local go_sem] zaa zad
open Go.RowKit
def cod3 (x:Int):Int:=if x % 3=0 then 0 else if x % 3=1 then 8 else 96
theorem zhh (x:Int):speechB (cod3 x)=true:=by
 unfold cod3
 split
 · rfl
 split
 · rfl
 · rfl
theorem zcz (x:Int) (h0:0≤x) (h1:x≤255) (w:World):Calls Tryz.prog 6 #[.int .u8 x] w fun e w'=>e = .returned (.int .u8 (cod3 x))∧w'=w:=by
 have h3:x % 3=0∨x % 3=1∨x % 3=2:=by omega
 unfold cod3
 have i0:∀ W:World,(Instr.index 103 (.agg #[.int .u8 0, .int .u8 8, .int .u8 96]) (.int .u8 0)).run Tryz.prog W = .ok (.int .u8 0) W:=fun W=>by kernel_rfl
 have i1:∀ W:World,(Instr.index 103 (.agg #[.int .u8 0, .int .u8 8, .int .u8 96]) (.int .u8 1)).run Tryz.prog W = .ok (.int .u8 8) W:=fun W=>by kernel_rfl
 have i2:∀ W:World,(Instr.index 103 (.agg #[.int .u8 0, .int .u8 8, .int .u8 96]) (.int .u8 2)).run Tryz.prog W = .ok (.int .u8 96) W:=fun W=>by kernel_rfl
 rcases h3 with h3|h3|h3
 all_goals
  rw [h3]
  go_enter Tryz.func6,Tryz.ntmps6
  go_wp2
  go_ret
  exact ⟨rfl,rfl⟩
theorem zxp (x:Int) : -32768≤IntKind.i16.wrap x∧IntKind.i16.wrap x≤32767:=by simp only [IntKind.wrap,IntKind.bits,IntKind.signed];simp;omega
theorem zsn {w wr:World} {g0 k:Nat} {g:Nat→Int} {v:Int} (hk:k<160) (HG:∀ j, -32768≤g j∧g j≤32767) (HR:wr.rowIs g0 104 160 (fun j => .int .i16 (if j<k then g j else 0))) (hb:Below g0 w wr) (hv : -32768≤v∧v≤32767) :
 ∃ (k':Nat) (g':Nat→Int),k'≤160∧Value.int .i64 ((k:Int)+1) = .int .i64 k'∧Hid (∀ j, -32768≤g' j∧g' j≤32767)∧(wr.setCell ⟨g0,k,none⟩ (.int .i16 v)).rowIs g0 104 160 (fun j => .int .i16 (if j<k' then g' j else 0))∧Below g0 w (wr.setCell ⟨g0,k,none⟩ (.int .i16 v)):=by
 refine ⟨k+1,fun j=>if j=k then v else g j,by omega,by push_cast;rfl,Z9 (fun j => ?_),?_,hb.setCell (Nat.le_refl _) _⟩
 · show _≤(if j=k then v else g j)∧(if j=k then v else g j)≤_
   split
   · exact hv
   · exact HG j
 · have hr2:=HR.congr (g:=fun j => .int .i16 (if j<k then (if j=k then v else g j) else 0)) (fun j hj=>by by_cases h:j<k<;>simp [h,Nat.ne_of_lt])
   have h3:=zav (g:=fun j=>if j=k then v else g j) hr2
   simp only [if_true] at h3
   exact h3
def WaveV (w:World) (e:Ending) (w':World):Prop:=∃ (zs:List Int) (A:Option Addr),zs.length=160∧Within (-32768) 32767 zs∧e = .returned (.slice A 160 160)∧IntsNew w.heap.size w' .i16 A zs∧Below w.heap.size w w'
theorem zgi (ld tn:Int) (h0:0≤ld) (h1:ld≤65535) (t0:0≤tn) (t1:tn≤1000) (w:World):Calls Tryz.prog 7 #[.int .u16 ld, .int .i64 tn] w (WaveV w):=by
 have hmk:=run_make_row' (P:=Tryz.prog) 51 104 (.int .i16 0) 2 Tryz.underlying51 zdj rfl .i64 .i64 160 (by omega) (by omega) w
 obtain ⟨W1,hW1⟩:∃ W1,W1=w.alloc (.cells (madeCells #[.int .i16 0] 160) 104):=⟨_,rfl⟩
 have hrow:W1.rowIs w.heap.size 104 160 (fun _ => .int .i16 0):=by rw [hW1];exact World.rowIs_made w _ _ _
 have qb:Below w.heap.size w W1:=by rw [hW1];exact (Below.refl _ _).alloc (Nat.le_refl _) _
 rw [← hW1] at hmk
 change (Instr.makeSlice 51 (.int .i64 160) (.int .i64 160)).run Tryz.prog _=_ at hmk
 clear hW1
 go_enter Tryz.func7,Tryz.ntmps7
 go_wp2
 go_loopw [7] (fun i wr => ∃ (k:Nat) (g:Nat→Int),k≤160∧i = .int .i64 k∧Hid (∀ j, -32768≤g j∧g j≤32767)∧wr.rowIs w.heap.size 104 160 (fun j => .int .i16 (if j<k then g j else 0))∧Below w.heap.size w wr)
  (fun i _=>160-(intOf i).toNat)
 case atStart=>exact ⟨0,fun _=>0,Nat.zero_le _,rfl,Z9 (fun _=>⟨(by show (-32768:Int)≤0;decide),(by show (0:Int)≤32767;decide)⟩),hrow.congr (by simp),qb⟩
 case round =>
  obtain ⟨k,g,hk,rfl,HG,hr,hb⟩:=hrel
  have HB:=Z9 hb
  by_cases hlt:k<160
  · have hcr:wr.cell? ⟨w.heap.size,k,none⟩=some (.int .i16 0):=by rw [hr.cell hlt];simp
    have hfr:=hr.frozen k
    have hrl:=hr.lt
    have HR:=Z9 hr
    have hbs:=hb.size
    clear hr hrow qb hmk hb
    have hi0:(0:Int)≤(k:Int):=by omega
    have hi1:(k:Int)<(160:Int):=by omega
    go_wp2
    go_roundw
    case rel =>
     exact zsn hlt HG.out HR.out HB.out (by first|exact zxp _|(simp;omega))
    case measure=>simp [intOf];omega
  · obtain rfl:k=160:=by omega
    have HR:=Z9 hr
    clear hr hrow qb hmk hb
    go_wp2
    go_ret
    refine ⟨(List.range 160).map g,_,by simp,?_,rfl,⟨IntsAt.of_row (zs:=(List.range 160).map g) HR.out (by simp) (fun i hi => ?_),fun _ b' o' e=>by cases e;exact Nat.le_refl _⟩,HB.out⟩
    · intro z hz
      obtain ⟨j,_,rfl⟩:=List.mem_map.1 hz
      exact HG.out j
    · have h2:i<160:=by simpa using hi
      rw [if_pos h2,List.getD_eq_getElem?_getD]
      simp [h2]
theorem zck (A B:Option Addr) (zs:List Int) (n c d:Nat) (hn:zs.length=n) (w:World) (hA:IntsAt w w.heap.size .i16 A zs) (hB:IntsAt w w.heap.size .i16 B zs) (h63:n≤140737488355328) :
 Calls Tryz.prog 11 #[.slice A n c, .slice B n d] w fun e w'=>e = .returned (.bool true)∧Below w.heap.size w w':=by
 subst hn
 go_enter Tryz.func11,Tryz.ntmps11
 go_wp2
 go_loopw [5] (fun i wr => ∃ k:Nat,k≤zs.length∧i = .int .i64 k∧Below w.heap.size w wr) (fun i _=>zs.length-(intOf i).toNat)
 case atStart=>exact ⟨0,Nat.zero_le _,rfl,Below.refl _ _⟩
 case round =>
  obtain ⟨k,hk,rfl,hb⟩:=hrel
  by_cases hlt:k<zs.length
  · obtain ⟨b,off,rfl,hbB,qc⟩:=hA (by omega)
    obtain ⟨b2,off2,rfl,hbB2,hcell2⟩:=hB (by omega)
    have hck:wr.cell? ⟨b,off+k,none⟩=some (.int .i16 (zs.getD k 0)):=(hb.cell (p:=⟨b,off+k,none⟩) hbB).trans (qc k hlt)
    have hck2:wr.cell? ⟨b2,off2+k,none⟩=some (.int .i16 (zs.getD k 0)):=(hb.cell (p:=⟨b2,off2+k,none⟩) hbB2).trans (hcell2 k hlt)
    clear qc hcell2
    generalize zs.getD k 0=z at hck hck2
    have hi0:(0:Int)≤(k:Int):=by omega
    have hi1:(k:Int)<(zs.length:Int):=by omega
    go_wp2
    go_quiet (fail)
    go_wp2
    go_roundw
    case rel=>exact ⟨k+1,by omega,by go_num,Bel.drewN hb _⟩
    case measure=>simp [intOf];omega
  · go_wp2
    go_ret
    exact ⟨rfl,hb⟩
def Enc32R (bs:List Int) (s:Int×Int) (w:World) (e:Ending) (w':World):Prop:=∃ (A':Option Addr) (c':Nat),e = .returned (.tuple #[.slice A' bs.length c', .agg #[.int .i64 s.1, .int .i64 s.2]])∧bs.length≤c'∧IntsNew w.heap.size w' .u8 A' bs∧Below w.heap.size w w'
def Dec32R (zs:List Int) (w:World) (e:Ending) (w':World):Prop:=∃ (A':Option Addr) (c':Nat),e = .returned (.slice A' zs.length c')∧IntsNew w.heap.size w' .i16 A' zs∧Below w.heap.size w w'
theorem zcg (k:Int) (hk:speechB k=true) (A:Option Addr) (bs:List Int) (n c:Nat) (hn:bs.length=n) (w:World) (hA:IntsAt w w.heap.size .u8 A bs) (hz:Within 0 255 bs) (h8:n≤8000) (hc:n≤c):Calls Tryz.prog 14 #[.int .u8 k, .slice A n c] w (Dec32R (Sb.decS k bs) w):=by
 subst hn
 have HA:=Z9 hA
 clear hA
 rcases zam.1 hk with rfl|rfl|rfl
 · go_enter Tryz.func14,Tryz.ntmps14
   go_wp2_with fail
   refine (zdq A bs c _ HA.out hz h8).mono ?_
   rintro e w2 ⟨A1,rfl,hI,hb⟩
   go_wp2_with fail
   go_ret
   exact ⟨A1,bs.length,by simp [Sb.decS],hI,hb⟩
 · go_enter Tryz.func14,Tryz.ntmps14
   go_wp2_with fail
   refine (zfg A bs c _ HA.out hz h8).mono ?_
   rintro e w2 ⟨A1,rfl,hI,hb⟩
   go_wp2_with fail
   go_ret
   exact ⟨A1,bs.length,by simp [Sb.decS],hI,hb⟩
 · have hmx:bs.length≤maxLen:=by unfold maxLen;omega
   have hd:(Dlt.unpR bs 160).1=Sb.decS 96 bs:=by
    have e:Sb.decS 96 bs=if Sb.Dlt.fits bs 160 then Dlt.unpackL bs 160 else []:=by unfold Sb.decS;rw [if_neg (by decide),if_neg (by decide),if_pos rfl]
    rw [e]
    unfold Dlt.unpR
    rw [if_neg (by decide),show (160:Int).toNat=160 from rfl]
    by_cases h1:bs.length<4+(160+1) / 2
    · rw [if_pos h1,if_neg (fun h=>by have:=h.1;omega)]
    rw [if_neg h1]
    by_cases h2:Dlt.okB bs 160
    · rw [if_pos h2,if_pos (show Sb.Dlt.fits bs 160 from h2)]
    · rw [if_neg h2,if_neg (show ¬Sb.Dlt.fits bs 160 from h2)]
   have kD:=Z9 fun (V:World) hV=>zfh A bs c 160 V hV hz hc hmx
   rw [hd] at kD
   generalize (Dlt.unpR bs 160).2.1=e1 at kD
   generalize (Dlt.unpR bs 160).2.2.1=e2 at kD
   generalize (Dlt.unpR bs 160).2.2.2=e3 at kD
   generalize Sb.decS 96 bs=zs at kD ⊢
   clear hd
   go_enter Tryz.func14,Tryz.ntmps14
   go_wp2_with fail
   refine (kD.out _ HA.out).mono ?_
   rintro e w2 ⟨A1,c1,rfl,hI,hb⟩
   have HI:=Z9 hI
   have HB:=Z9 hb
   clear hI hb
   go_wp2_with fail
   go_ret
   refine ⟨A1,c1,rfl,?_,?_⟩
   · exact HI.out.push _
   · exact Bel.push HB.out _
theorem zpy {P:Program} {fn:Func} {w:World} {tmps:Array Value} {u0:Tmp} {v0:Value} {p1:Tmp} {y1:TypeId} {a1:Addr} {v1:Value} (h:fn.results = #[.tmp u0, .cell p1 y1]) (ht0:tmps.getD u0 undef=v0) (ha1:tmps.getD p1 undef = .pointer (some a1)) (hl1:(loadVar y1 a1).run P w = .ok v1 w) :
 (results fn tmps).run P w = .ok (.tuple #[v0,v1]) w:=by
 simp only [Array.getD_eq_getD_getElem?] at ht0 ha1
 simp only [results,h]
 first|(simp [asAddr,ht0,ha1,hl1];done)|(simp [Result.andThen,asAddr,ht0,ha1,hl1];done)|(simp [Sem.run_bind,Result.andThen,asAddr,ht0,ha1,hl1];done)
theorem zjt (v i:Int) (A:Option Addr) (zs:List Int) (c:Nat) (w:World) (hA:IntsAt w w.heap.size .i16 A zs) (hz:Within (-32768) 32767 zs) (h8:zs.length≤8000):Calls Tryz.prog 13 #[.int .u8 0, .slice A zs.length c, .agg #[.int .i64 v, .int .i64 i]] w (Enc32R (zs.map Cmp.muZ) (v,i) w):=by
 have k1:=Z9 fun (W:World) hW=>zkw A zs c W hW hz h8
 have U0:=Z9 (((Bel.refl w).push (.cells #[.int .i64 v, .int .i64 i] 30)).push (.cells #[.int .i64 0, .int .i64 0] 30))
 have BS:=Z9 ((Blk.new w 30 #[.int .i64 v, .int .i64 i]).push (.cells #[.int .i64 0, .int .i64 0] 30))
 have BR:=Z9 (Blk.new1 w (.cells #[.int .i64 v, .int .i64 i] 30) 30 #[.int .i64 0, .int .i64 0])
 have IA:=Z9 ((hA.push (.cells #[.int .i64 v, .int .i64 i] 30)).push (.cells #[.int .i64 0, .int .i64 0] 30))
 clear hA hz
 go_enter Tryz.func13,Tryz.ntmps13
 go_wp2_with fail
 refine (k1.out _ IA.out).mono ?_
 rintro e w1 ⟨A1,rfl,hI,hb1⟩
 have U1:=Z9 (U0.out.later hb1)
 have BS1:=Z9 (BS.out.later hb1)
 have BR1:=Z9 (BR.out.later hb1)
 have HI:=Z9 hI
 clear hb1 hI
 have c0:=BS1.out.at 0 _ rfl
 have c1:=BS1.out.at 1 _ rfl
 have r0:=BR1.out.at 0 _ rfl
 have r1:=BR1.out.at 1 _ rfl
 have rz:=BR1.out.frozen
 go_upto_region 4 with fail
 go_region
 have RF:=BR1.out.set_ 0 (.int .i64 v)
 have RG:=RF.set_ 1 (.int .i64 i)
 have RI:IntsNew w.heap.size ((w1.setCell ⟨w.heap.size+1,0,none⟩ (.int .i64 v)).setCell ⟨w.heap.size+1,1,none⟩ (.int .i64 i)) .u8 A1 _:=((HI.out.setCell (p:=⟨w.heap.size+1,0,none⟩) (by simp) (.int .i64 v)).setCell (p:=⟨w.heap.size+1,1,none⟩) (by simp) (.int .i64 i)).less (by simp;omega)
 have UF:Bel w ((w1.setCell ⟨w.heap.size+1,0,none⟩ (.int .i64 v)).setCell ⟨w.heap.size+1,1,none⟩ (.int .i64 i)):=zaj (zaj U1.out (by simp) _) (by simp) _
 go_wp2_with fail
 refine bodyPost_ret (v := .tuple #[.slice A1 zs.length zs.length, .agg #[.int .i64 v, .int .i64 i]]) (zpy Tryz.results13 rfl rfl (run_loadVar_row (P:=Tryz.prog) _ _ _ _ _ _ _ RG.drew Tryz.underlying30 rfl (by kernel_rfl))) rfl ⟨A1,zs.length,by rw [List.length_map],by rw [List.length_map];exact Nat.le_refl _,?_,UF.drew⟩
 exact RI
theorem zms (v i:Int) (A:Option Addr) (zs:List Int) (c:Nat) (w:World) (hA:IntsAt w w.heap.size .i16 A zs) (hz:Within (-32768) 32767 zs) (h8:zs.length≤8000):Calls Tryz.prog 13 #[.int .u8 8, .slice A zs.length c, .agg #[.int .i64 v, .int .i64 i]] w (Enc32R (zs.map Cmp.aZ) (v,i) w):=by
 have k1:=Z9 fun (W:World) hW=>zpv A zs c W hW hz h8
 have U0:=Z9 (((Bel.refl w).push (.cells #[.int .i64 v, .int .i64 i] 30)).push (.cells #[.int .i64 0, .int .i64 0] 30))
 have BS:=Z9 ((Blk.new w 30 #[.int .i64 v, .int .i64 i]).push (.cells #[.int .i64 0, .int .i64 0] 30))
 have BR:=Z9 (Blk.new1 w (.cells #[.int .i64 v, .int .i64 i] 30) 30 #[.int .i64 0, .int .i64 0])
 have IA:=Z9 ((hA.push (.cells #[.int .i64 v, .int .i64 i] 30)).push (.cells #[.int .i64 0, .int .i64 0] 30))
 clear hA hz
 go_enter Tryz.func13,Tryz.ntmps13
 go_wp2_with fail
 refine (k1.out _ IA.out).mono ?_
 rintro e w1 ⟨A1,rfl,hI,hb1⟩
 have U1:=Z9 (U0.out.later hb1)
 have BS1:=Z9 (BS.out.later hb1)
 have BR1:=Z9 (BR.out.later hb1)
 have HI:=Z9 hI
 clear hb1 hI
 have c0:=BS1.out.at 0 _ rfl
 have c1:=BS1.out.at 1 _ rfl
 have r0:=BR1.out.at 0 _ rfl
 have r1:=BR1.out.at 1 _ rfl
 have rz:=BR1.out.frozen
 go_upto_region 7 with fail
 go_region
 have RF:=BR1.out.set_ 0 (.int .i64 v)
 have RG:=RF.set_ 1 (.int .i64 i)
 have RI:IntsNew w.heap.size ((w1.setCell ⟨w.heap.size+1,0,none⟩ (.int .i64 v)).setCell ⟨w.heap.size+1,1,none⟩ (.int .i64 i)) .u8 A1 _:=((HI.out.setCell (p:=⟨w.heap.size+1,0,none⟩) (by simp) (.int .i64 v)).setCell (p:=⟨w.heap.size+1,1,none⟩) (by simp) (.int .i64 i)).less (by simp;omega)
 have UF:Bel w ((w1.setCell ⟨w.heap.size+1,0,none⟩ (.int .i64 v)).setCell ⟨w.heap.size+1,1,none⟩ (.int .i64 i)):=zaj (zaj U1.out (by simp) _) (by simp) _
 go_wp2_with fail
 refine bodyPost_ret (v := .tuple #[.slice A1 zs.length zs.length, .agg #[.int .i64 v, .int .i64 i]]) (zpy Tryz.results13 rfl rfl (run_loadVar_row (P:=Tryz.prog) _ _ _ _ _ _ _ RG.drew Tryz.underlying30 rfl (by kernel_rfl))) rfl ⟨A1,zs.length,by rw [List.length_map],by rw [List.length_map];exact Nat.le_refl _,?_,UF.drew⟩
 exact RI
theorem zih (v i:Int) (A:Option Addr) (zs:List Int) (c:Nat) (w:World) (hv:Dlt.valid v i=true) (hA:IntsAt w w.heap.size .i16 A zs) (hz:Within (-32768) 32767 zs) (h8:zs.length≤8000) (h0:0<zs.length):Calls Tryz.prog 13 #[.int .u8 96, .slice A zs.length c, .agg #[.int .i64 v, .int .i64 i]] w (Enc32R (Dlt.packB (v,i) zs) (Dlt.stAt (v,i) zs zs.length) w):=by
 have k1:=Z9 fun (W:World) hW=>zhg v i A zs c W hv hW hz h8 h0
 have hpl:=Dlt.packB_len (v,i) zs
 generalize Dlt.stAt (v,i) zs zs.length=e at *
 obtain ⟨v2,i2⟩:=e
 have U0:=Z9 (((Bel.refl w).push (.cells #[.int .i64 v, .int .i64 i] 30)).push (.cells #[.int .i64 0, .int .i64 0] 30))
 have BS:=Z9 ((Blk.new w 30 #[.int .i64 v, .int .i64 i]).push (.cells #[.int .i64 0, .int .i64 0] 30))
 have BR:=Z9 (Blk.new1 w (.cells #[.int .i64 v, .int .i64 i] 30) 30 #[.int .i64 0, .int .i64 0])
 have IA:=Z9 ((hA.push (.cells #[.int .i64 v, .int .i64 i] 30)).push (.cells #[.int .i64 0, .int .i64 0] 30))
 clear hA hz
 have s0:=BS.out.at 0 _ rfl
 have s1:=BS.out.at 1 _ rfl
 generalize Dlt.packB (v,i) zs=bs at *
 simp only at k1
 go_enter Tryz.func13,Tryz.ntmps13
 go_wp2_with fail
 refine (k1.out _ IA.out).mono ?_
 rintro e w1 ⟨A1,c2,rfl,hc2,hI,hb1⟩
 have U1:=Z9 (U0.out.later hb1)
 have BS1:=Z9 (BS.out.later hb1)
 have BR1:=Z9 (BR.out.later hb1)
 have HI:=Z9 hI
 clear hb1 hI s0 s1
 have rz:=BS1.out.frozen
 have rz2:=BR1.out.frozen
 have b0:=BS1.out.at 0 _ rfl
 have b1:=BS1.out.at 1 _ rfl
 have r0:=BR1.out.at 0 _ rfl
 have r1:=BR1.out.at 1 _ rfl
 go_upto_region 9 with fail
 have hsz:((w.alloc (.cells #[.int .i64 v, .int .i64 i] 30)).alloc (.cells #[.int .i64 0, .int .i64 0] 30)).heap.size=w.heap.size+1+1:=zcc _ _ _
 have BF:=Z9 ((BS1.out.set_ 0 (.int .i64 v2)).set_ 1 (.int .i64 i2))
 have BG:=Z9 ((BR1.out.far (p:=⟨w.heap.size,0,none⟩) (by simp) (.int .i64 v2)).far (p:=⟨w.heap.size,1,none⟩) (by simp) (.int .i64 i2))
 have RI:=Z9 (((HI.out.setCell (p:=⟨w.heap.size,0,none⟩) (by rw [hsz];simp only;omega) (.int .i64 v2)).setCell (p:=⟨w.heap.size,1,none⟩) (by rw [hsz];simp only;omega) (.int .i64 i2)))
 have UF:=Z9 (show Bel w ((w1.setCell ⟨w.heap.size,0,none⟩ (.int .i64 v2)).setCell ⟨w.heap.size,1,none⟩ (.int .i64 i2)) from zaj (zaj U1.out (by simp) _) (by simp) _)
 rw [hsz] at RI
 clear b0 b1 r0 r1 rz rz2 BS1 BR1 HI U1
 generalize (w1.setCell ⟨w.heap.size,0,none⟩ (.int .i64 v2)).setCell ⟨w.heap.size,1,none⟩ (.int .i64 i2)=W at BF BG RI UF ⊢
 have c0:W.cell? ⟨w.heap.size,0,none⟩=some (.int .i64 v2):=BF.out.at 0 _ rfl
 have c1:W.cell? ⟨w.heap.size,1,none⟩=some (.int .i64 i2):=BF.out.at 1 _ rfl
 have r0:W.cell? ⟨w.heap.size+1,0,none⟩=some (.int .i64 0):=BG.out.at 0 _ rfl
 have r1:W.cell? ⟨w.heap.size+1,1,none⟩=some (.int .i64 0):=BG.out.at 1 _ rfl
 have rz:=BG.out.frozen
 go_region
 have RG:=(BG.out.set_ 0 (.int .i64 v2)).set_ 1 (.int .i64 i2)
 have RJ:IntsNew w.heap.size ((W.setCell ⟨w.heap.size+1,0,none⟩ (.int .i64 v2)).setCell ⟨w.heap.size+1,1,none⟩ (.int .i64 i2)) .u8 A1 bs:=((RI.out.setCell (p:=⟨w.heap.size+1,0,none⟩) (by simp) (.int .i64 v2)).setCell (p:=⟨w.heap.size+1,1,none⟩) (by simp) (.int .i64 i2)).less (by omega)
 have UG:Bel w ((W.setCell ⟨w.heap.size+1,0,none⟩ (.int .i64 v2)).setCell ⟨w.heap.size+1,1,none⟩ (.int .i64 i2)):=zaj (zaj UF.out (by simp) _) (by simp) _
 go_wp2_with fail
 refine bodyPost_ret (v := .tuple #[.slice A1 (4+(zs.length+1) / 2) c2, .agg #[.int .i64 v2, .int .i64 i2]]) (zpy Tryz.results13 rfl rfl (run_loadVar_row (P:=Tryz.prog) _ _ _ _ _ _ _ RG.drew Tryz.underlying30 rfl (by kernel_rfl))) rfl ⟨A1,c2,by rw [hpl],by rw [hpl];exact hc2,?_,UG.drew⟩
 exact RJ
theorem zdx (k v i:Int) (hk:speechB k=true) (A:Option Addr) (zs:List Int) (n c:Nat) (hn:zs.length=n) (w:World) (hv:Dlt.valid v i=true) (hA:IntsAt w w.heap.size .i16 A zs) (hz:Within (-32768) 32767 zs) (h8:n≤8000) (h0:0<n):Calls Tryz.prog 13 #[.int .u8 k, .slice A n c, .agg #[.int .i64 v, .int .i64 i]] w (Enc32R (Sb.enc k (v,i) zs).1 (Sb.enc k (v,i) zs).2 w):=by
 subst hn
 unfold Sb.enc
 rcases zam.1 hk with rfl|rfl|rfl
 · exact zjt v i A zs c w hA hz h8
 · exact zms v i A zs c w hA hz h8
 · exact zih v i A zs c w hv hA hz h8 h0
end Go.Proofs.YtbcgnddpkiemoaaGreat
namespace Go.Proofs.YtbcgnddpkiemoaaGreat.Jb
open Go.RowKit
def Fine (now high:Int) (w:Wt):Prop:=w.m.ok∧now<w.at_∧w.at_≤562949953421312∧w.m.sq≤high
theorem getD_eq {q:List Wt} {k:Nat} (h:k<q.length):q.getD k Wt.zero=q[k]:=by simp [List.getD_eq_getElem?_getD,h]
theorem okQ_iff (now high:Int) (q:List Wt):okQ now high q↔q.length≤200∧(∀ w∈q,Fine now high w)∧q.Pairwise bef∧q.Pairwise (fun a b=>a.m.sq≠b.m.sq):=by
 constructor
 · intro h
   refine ⟨h.1,fun w hw => ?_,?_,?_⟩
   · obtain ⟨k,hk,rfl⟩:=List.getElem_of_mem hw
     obtain ⟨a,b,c,d,_⟩:=h.2 k hk
     rw [getD_eq hk] at a b c d
     exact ⟨a,b,c,d⟩
   · refine List.pairwise_iff_getElem.2 fun i j hi hj hij => ?_
     have:=h.asc i j hij hj
     rwa [getD_eq hi,getD_eq hj] at this
   · refine List.pairwise_iff_getElem.2 fun i j hi hj hij => ?_
     have:=(h.2 j hj).2.2.2.2.2 i hij
     rwa [getD_eq hi,getD_eq hj] at this
 · rintro ⟨h1,h2,h3,h4⟩
   refine ⟨h1,fun k hk => ?_⟩
   obtain ⟨a,b,c,d⟩:=h2 _ (List.getElem_mem hk)
   unfold okAt
   rw [getD_eq hk]
   refine ⟨a,b,c,d,fun h0 => ?_,fun i hi => ?_⟩
   · rw [getD_eq (show k-1<q.length by omega)]
     exact List.pairwise_iff_getElem.1 h3 (k-1) k (by omega) hk (by omega)
   · rw [getD_eq (show i<q.length by omega)]
     exact List.pairwise_iff_getElem.1 h4 i k (by omega) hk hi
theorem left_gt (now:Int):∀ q:List Wt,q.Pairwise bef→∀ w∈left now q,now<w.at_
 | [],_,w,hw=>by cases hw
 | a :: q, h, w, hw => by
   unfold left at hw
   rw [List.dropWhile_cons] at hw
   by_cases ha:a.at_≤now
   · rw [if_pos (by simpa using ha)] at hw
     exact left_gt now q (List.pairwise_cons.1 h).2 w hw
   · rw [if_neg (by simpa using ha)] at hw
     rcases List.mem_cons.1 hw with rfl|hw
     · omega
     · have:=bef_at ((List.pairwise_cons.1 h).1 w hw)
       omega
theorem left_sub (now:Int) (q:List Wt):List.Sublist (left now q) q:=List.dropWhile_sublist _
theorem due_sub (now:Int) (q:List Wt):List.Sublist (due now q) q:=List.takeWhile_sublist _
theorem zkx (hi:Int):∀ (l:List Wt) (d:Int),(∀ w∈l,w.m.sq≤hi)→d≤hi→d≤maxSq d l∧maxSq d l≤hi
 | [],d,_,h=>⟨Int.le_refl _,h⟩
 | a :: l, d, h, hd => by
   have h1:=h a List.mem_cons_self
   obtain ⟨e1,e2⟩:=zkx hi l (max d a.m.sq) (fun w hw=>h w (List.mem_cons_of_mem _ hw)) (by omega)
   show d≤maxSq (max d a.m.sq) l∧maxSq (max d a.m.sq) l≤hi
   omega
theorem run0_ok (s:Jt) (now:Int) (h:s.ok) (h1:s.now≤now) (h2:now≤281474976710656) (h3:s.played+(due now s.q).length≤281474976710656):(run0 s now).ok:=by
 obtain ⟨⟨a1,a2,a3,a4,a5,a6,a7⟩,hc,⟨b1,b2,b3⟩,hr,hq⟩:=h
 obtain ⟨q1,q2,q3,q4⟩:=(okQ_iff _ _ _).1 hq
 have hm:=zkx (max s.done s.high) (due now s.q) s.done (fun w hw=>by have:=(q2 w ((due_sub now s.q).subset hw)).2.2.2;omega) (by omega)
 have hl:(left now s.q).length≤s.q.length:=(left_sub now s.q).length_le
 refine ⟨⟨⟨by show 0≤now;omega,h2⟩,a2,a3,a4,a5,⟨by show -1≤maxSq _ _;omega,by show maxSq _ _≤_;omega⟩,a7⟩,hc,⟨b1,b2,⟨by show 0≤s.played+_;omega,h3⟩⟩,?_,?_⟩
 · rcases hr with hr|⟨r1,r2,r3⟩
   · exact Or.inl hr
   · right
     have e:s.q=[]:=List.eq_nil_of_length_eq_zero r1
     show (left now s.q).length=0∧s.high = -1∧maxSq s.done (due now s.q) = -1
     rw [e]
     exact ⟨rfl,r2,r3⟩
 · refine (okQ_iff _ _ _).2 ⟨by show (left now s.q).length≤200;omega,fun w hw => ?_,q3.sublist (left_sub now s.q),q4.sublist (left_sub now s.q)⟩
   obtain ⟨f1,f2,f3,f4⟩:=q2 w ((left_sub now s.q).subset hw)
   exact ⟨f1,left_gt now s.q q3 w hw,f3,f4⟩
theorem zda (q:List Wt) (w:Wt):List.Perm (ins q w) (w::q):=by
 unfold ins
 have h:=List.perm_middle (a:=w) (l₁ := q.takeWhile fun x=>decide (bef x w)) (l₂ := q.dropWhile fun x=>decide (bef x w))
 rwa [List.takeWhile_append_dropWhile] at h
theorem zvt (a b:Wt) (h:a.m.sq≠b.m.sq):bef a b∨bef b a:=by unfold bef;omega
theorem zpz (w:Wt):∀ q:List Wt,q.Pairwise bef→(∀ x∈q,x.m.sq≠w.m.sq)→(ins q w).Pairwise bef
 | [],_,_=>by simp [ins]
 | a :: q, h, hd => by
   obtain ⟨h1,h2⟩:=List.pairwise_cons.1 h
   by_cases ha:bef a w
   · have e:ins (a::q) w=a::ins q w:=by simp [ins,ha]
     rw [e]
     refine List.pairwise_cons.2 ⟨fun b hb => ?_,zpz w q h2 (fun x hx=>hd x (List.mem_cons_of_mem _ hx))⟩
     have hb':=(zda q w).subset hb
     rcases List.mem_cons.1 hb' with rfl|hb'
     · exact ha
     · exact h1 b hb'
   · have e:ins (a::q) w=w::a::q:=by simp [ins,ha]
     rw [e]
     have hwa:bef w a:=(zvt a w (hd a List.mem_cons_self)).resolve_left ha
     refine List.pairwise_cons.2 ⟨fun b hb => ?_,h⟩
     rcases List.mem_cons.1 hb with rfl|hb
     · exact hwa
     · exact bef_trans hwa (h1 b hb)
theorem ins_len (q:List Wt) (w:Wt):(ins q w).length=q.length+1:=(zda q w).length_eq
theorem zvu (now high:Int) (q:List Wt) (w:Wt) (h:okQ now high q) (hl:q.length<200) (hw:Fine now high w) (hd:∀ x∈q,x.m.sq≠w.m.sq):okQ now high (ins q w):=by
 obtain ⟨q1,q2,q3,q4⟩:=(okQ_iff _ _ _).1 h
 refine (okQ_iff _ _ _).2 ⟨by rw [ins_len];omega,fun x hx => ?_,zpz w q q3 hd,?_⟩
 · rcases List.mem_cons.1 ((zda q w).subset hx) with rfl|hx
   · exact hw
   · exact q2 x hx
 · refine (zda q w).symm.pairwise (List.pairwise_cons.2 ⟨fun x hx=>(hd x hx).symm,q4⟩) (fun hab e=>hab e.symm)
theorem zqa (z now high:Int) (q:List Wt) (h:okQ now high q) (z0:0≤z) (z1:z≤562949953421313):z≤lastAt z q∧lastAt z q≤562949953421313:=by
 unfold lastAt
 by_cases h0:q.length=0
 · rw [if_pos h0];omega
 · rw [if_neg h0]
   have:=(h.2 (q.length-1) (by omega)).2.2.1
   omega
theorem zqb (sp d:Int) (h0:0≤sp) (h1:sp≤72057594037927936) (d0:0≤d) (d1:d≤2251799813685248):0≤sp+d-(sp+8) / 16∧sp+d-(sp+8) / 16≤72057594037927936:=by omega
theorem meas_ok (s:Jt) (m:Md) (h:s.ok) (hm:m.ok):(meas s m).ok:=by
 obtain ⟨⟨a1,a2,a3,a4,a5,a6,a7⟩,hc,hk,hr,hq⟩:=h
 obtain ⟨m1,m2,m3⟩:=hm
 obtain ⟨c1,c2,c3⟩:=hc
 have hsp:∀ (on:Bool),0≤(if on then s.spread+max (s.now-m.ti / 8-s.trans) (s.trans-(s.now-m.ti / 8))-(s.spread+8) / 16 else s.spread)∧(if on then s.spread+max (s.now-m.ti / 8-s.trans) (s.trans-(s.now-m.ti / 8))-(s.spread+8) / 16 else s.spread)≤72057594037927936:=fun on=>by
  cases on
  · exact a7
  · exact zqb s.spread _ a7.1 a7.2 (by omega) (by omega)
 have hs:=hsp s.on
 have hz:=zqa (s.now+min (s.least+(if s.on then s.spread+max (s.now-m.ti / 8-s.trans) (s.trans-(s.now-m.ti / 8))-(s.spread+8) / 16 else s.spread) / 4) s.most) s.now s.high s.q hq (by omega) (by omega)
 unfold meas
 refine ⟨⟨a1,?_,⟨by show -1125899906842624≤s.now-m.ti / 8;omega,by show s.now-m.ti / 8≤1125899906842624;omega⟩,?_,⟨by show -1≤max s.high m.sq;omega,by show max s.high m.sq≤281474976710656;omega⟩,a6,hs⟩,⟨c1,c2,c3⟩,hk,Or.inl rfl,?_⟩
 · show -1125899906842624≤(if _ then _ else s.zero)∧(if _ then _ else s.zero)≤1125899906842624
   split
   · exact ⟨Int.le_trans (by omega) hz.1,Int.le_trans hz.2 (by omega)⟩
   · exact a2
 · show -281474976710656≤(if _ then m.ti else s.first)∧(if _ then m.ti else s.first)≤281474976710656
   split
   · exact m2
   · exact a4
 · obtain ⟨q1,q2,q3,q4⟩:=(okQ_iff _ _ _).1 hq
   refine (okQ_iff _ _ _).2 ⟨q1,fun w hw => ?_,q3,q4⟩
   obtain ⟨f1,f2,f3,f4⟩:=q2 w hw
   exact ⟨f1,f2,f3,by show w.m.sq≤max s.high m.sq;omega⟩
theorem meas_q (s:Jt) (m:Md):(meas s m).q=s.q∧(meas s m).now=s.now∧(meas s m).late=s.late∧(meas s m).twice=s.twice∧(meas s m).played=s.played∧(meas s m).high=max s.high m.sq∧(meas s m).on=true∧(meas s m).done=s.done∧(meas s m).least=s.least∧(meas s m).most=s.most:=⟨rfl,rfl,rfl,rfl,rfl,rfl,rfl,rfl,rfl,rfl⟩
theorem cnt_ok (s:Jt) (h:s.ok) (l t p:Int) (hl:0≤l∧l≤281474976710656) (ht:0≤t∧t≤281474976710656) (hp:0≤p∧p≤281474976710656):({ s with late:=l,twice:=t,played:=p } : Jt).ok :=
 ⟨h.1,h.2.1,⟨hl,ht,hp⟩,h.2.2.2.1,h.2.2.2.2⟩
theorem zqc (s:Jt) (m:Md) (h:s.ok) (hm:m.ok) (hl:s.late<281474976710656) (ht:s.twice<281474976710656):(put0 s m).1.ok:=by
 have hk:=h.2.2.1
 obtain ⟨k1,k2,k3⟩:=hk
 have hM:=meas_ok s m h hm
 unfold put0
 split
 · exact cnt_ok s h _ _ _ k1 ⟨by omega,by omega⟩ k3
 rename_i hany
 split
 · exact cnt_ok s h _ _ _ ⟨by omega,by omega⟩ k2 k3
 split
 · exact h
 rename_i hlen
 dsimp only
 split
 · exact cnt_ok _ hM _ _ _ ⟨by show 0≤s.late+1;omega,by show s.late+1≤_;omega⟩ k2 k3
 rename_i ha
 split
 · exact hM
 rename_i hb
 refine ⟨hM.1,hM.2.1,hM.2.2.1,Or.inl rfl,?_⟩
 have hn:s.now≤281474976710656:=h.1.1.2
 refine zvu s.now (max s.high m.sq) s.q _ hM.2.2.2.2 (by omega) ⟨hm,by show s.now<ptime (meas s m) m.ti;omega,by show ptime (meas s m) m.ti≤562949953421312;omega,by show m.sq≤max s.high m.sq;omega⟩ (fun x hx e=>hany ?_)
 exact List.any_eq_true.2 ⟨x,hx,by simpa using e⟩
theorem new_ok (l m:Int) (h:cfg l m):(new l m).1.ok:=by
 unfold new
 rw [if_pos h]
 refine ⟨⟨by simp,by simp,by simp,by simp,by simp,by simp,by simp⟩,h,⟨by simp,by simp,by simp⟩,Or.inr ⟨rfl,rfl,rfl⟩,?_⟩
 exact ⟨by simp,fun k hk=>absurd hk (by simp)⟩
theorem zvv (s:Jt) (t:Int) (h:s.ok) (h1 : -281474976710656≤t) (h2:t≤281474976710656):play s t=ptime s t:=by
 unfold play
 rw [if_pos ⟨h,h1,h2⟩]
theorem put0_cases (s:Jt) (m:Md) (h:s.ok) (hm:m.ok) (hl:s.late<281474976710656) (ht:s.twice<281474976710656) :
 ((put0 s m).2=1∧s.now<play (put0 s m).1 m.ti∧play (put0 s m).1 m.ti≤s.now+120000∧(put0 s m).1.q=ins s.q ⟨play (put0 s m).1 m.ti,m⟩∧(s.q.any fun w=>w.m.sq==m.sq)=false) ∨
 ((put0 s m).2≠1∧(put0 s m).2≠0∧(put0 s m).1.q=s.q∧(s.now<play (put0 s m).1 m.ti→play (put0 s m).1 m.ti≤s.now+120000→(put0 s m).1.done<m.sq→(s.q.any fun w=>w.m.sq==m.sq)=false→¬s.q.length<200)):=by
 have hok:=zqc s m h hm hl ht
 have hp:=zvv _ m.ti hok hm.2.1.1 hm.2.1.2
 rw [hp]
 clear hp hok
 by_cases h1:(s.q.any fun w=>w.m.sq==m.sq)=true
 · right
   have e:put0 s m=({ s with twice:=s.twice+1 }, 3):=by unfold put0;rw [if_pos h1]
   rw [e]
   exact ⟨by simp,by simp,rfl,fun _ _ _ h2=>by rw [h1] at h2;cases h2⟩
 by_cases h2:s.on=true∧m.sq≤s.done
 · right
   have e:put0 s m=({ s with late:=s.late+1 }, 2):=by unfold put0;rw [if_neg h1,if_pos h2]
   rw [e]
   exact ⟨by simp,by simp,rfl,fun _ _ h3=>by have h4:s.done<m.sq:=h3;omega⟩
 by_cases h3:200≤s.q.length
 · right
   have e:put0 s m=(s,4):=by unfold put0;rw [if_neg h1,if_neg h2,if_pos h3]
   rw [e]
   exact ⟨by simp,by simp,rfl,fun _ _ _ _=>by show ¬s.q.length<200;omega⟩
 by_cases h4:ptime (meas s m) m.ti≤s.now
 · right
   have e:put0 s m=({ (meas s m) with late:=(meas s m).late+1 }, 2):=by unfold put0;rw [if_neg h1,if_neg h2,if_neg h3];dsimp only;rw [if_pos h4]
   rw [e]
   exact ⟨by simp,by simp,rfl,fun h5=>by have h6:s.now<ptime (meas s m) m.ti:=h5;omega⟩
 by_cases h5:s.now+120000<ptime (meas s m) m.ti
 · right
   have e:put0 s m=(meas s m,5):=by unfold put0;rw [if_neg h1,if_neg h2,if_neg h3];dsimp only;rw [if_neg h4,if_pos h5]
   rw [e]
   exact ⟨by simp,by simp,rfl,fun _ h6=>by have h7:ptime (meas s m) m.ti≤s.now+120000:=h6;omega⟩
 · left
   have e:put0 s m=({ (meas s m) with q:=ins (meas s m).q ⟨ptime (meas s m) m.ti,m⟩ }, 1):=by unfold put0;rw [if_neg h1,if_neg h2,if_neg h3];dsimp only;rw [if_neg h4,if_neg h5]
   rw [e]
   exact ⟨rfl,by show s.now<ptime (meas s m) m.ti;omega,by show ptime (meas s m) m.ti≤s.now+120000;omega,rfl,by simpa using h1⟩
def ins' (q:List Wt) (w:Wt):List Wt:=q.takeWhile (fun x => !decide (bef w x))++w::q.dropWhile (fun x => !decide (bef w x))
def Near (now:Int) (q:List Wt):Prop:=∀ w∈q,w.at_≤now+120000
theorem near_left {now now':Int} {q:List Wt} (h:Near now q) (hn:now≤now'):Near now' (left now' q):=fun w hw=>by
 have:=h w ((left_sub now' q).subset hw)
 omega
theorem near_ins {now:Int} {q:List Wt} {w:Wt} (h:Near now q) (hw:w.at_≤now+120000):Near now (ins q w):=fun x hx=>by
 rcases List.mem_cons.1 ((zda q w).subset hx) with rfl|hx
 · exact hw
 · exact h x hx
theorem put0_cnt (s:Jt) (m:Md):(put0 s m).1.late≤s.late+1∧(put0 s m).1.twice≤s.twice+1∧(put0 s m).1.played=s.played∧(put0 s m).1.now=s.now∧(put0 s m).1.least=s.least∧(put0 s m).1.most=s.most:=by
 unfold put0
 split
 · exact ⟨by show s.late≤_;omega,Int.le_refl _,rfl,rfl,rfl,rfl⟩
 split
 · exact ⟨Int.le_refl _,by show s.twice≤_;omega,rfl,rfl,rfl,rfl⟩
 split
 · exact ⟨by show s.late≤_;omega,by show s.twice≤_;omega,rfl,rfl,rfl,rfl⟩
 dsimp only
 split
 · exact ⟨Int.le_refl _,by show s.twice≤_;omega,rfl,rfl,rfl,rfl⟩
 split
 · exact ⟨by show s.late≤_;omega,by show s.twice≤_;omega,rfl,rfl,rfl,rfl⟩
 · exact ⟨by show s.late≤_;omega,by show s.twice≤_;omega,rfl,rfl,rfl,rfl⟩
structure Small (n:Int) (s:Jt):Prop where
 ok:s.ok
 late:s.late≤n
 twice:s.twice≤n
 played:s.played≤200*n
theorem small_new (l m:Int) (h:cfg l m):Small 0 (new l m).1:=by
 refine ⟨new_ok l m h,?_,?_,?_⟩<;>(unfold new;rw [if_pos h];exact Int.le_refl _)
theorem small_run {n:Int} {s:Jt} (h:Small n s) (hn:n≤1000) (now:Int) (h1:s.now≤now) (h2:now≤281474976710656):Small (n+1) (run0 s now):=by
 have hl:(due now s.q).length≤s.q.length:=(due_sub now s.q).length_le
 have h200:s.q.length≤200:=h.ok.2.2.2.2.1
 have hp:=h.played
 have h0:=h.late
 have h3:=h.twice
 exact ⟨run0_ok s now h.ok h1 h2 (by omega),by show s.late≤_;omega,by show s.twice≤_;omega,by show s.played+((due now s.q).length:Int)≤_;omega⟩
theorem small_put {n:Int} {s:Jt} (h:Small n s) (hn:n≤1000) (now:Int) (h1:s.now≤now) (h2:now≤281474976710656) (m:Md) (hm:m.ok):Small (n+1) (put0 (run0 s now) m).1:=by
 have hr:=small_run h hn now h1 h2
 obtain ⟨c1,c2,c3,_⟩:=put0_cnt (run0 s now) m
 have e1:(run0 s now).late=s.late:=rfl
 have e2:(run0 s now).twice=s.twice:=rfl
 have h3:=h.late
 have h4:=h.twice
 have h5:=hr.played
 exact ⟨zqc _ m hr.ok hm (by omega) (by omega),by omega,by omega,by omega⟩
theorem chk_run {s:Jt} {now:Int} (h:s.ok) (h1:s.now≤now) (h2:now≤281474976710656):chk s now true=0:=by
 unfold chk
 rw [if_neg (fun hc => ?_),if_neg (by omega)]
 rcases hc with hc|hc|hc
 · exact hc h
 · omega
 · cases hc
theorem chk_put {s:Jt} {now:Int} {m:Md} (h:s.ok) (h1:s.now≤now) (h2:now≤281474976710656) (hm:m.ok):chk s now (decide m.ok)=0:=by
 rw [decide_eq_true hm]
 exact chk_run h h1 h2
theorem zhd {s:Jt} {now:Int} {m:Md} (hm:¬m.ok):chk s now (decide m.ok)=2:=by
 unfold chk
 rw [if_pos (Or.inr (Or.inr (decide_eq_false hm)))]
section
variable (l m seq time:Int)
def smd (i:Nat):Md:=⟨seq+i,time+160*i,false,0,[]⟩
def swt (i:Nat):Wt:=⟨5000+l+20*i,smd seq time i⟩
def stq (a n:Nat):List Wt:=(List.range' a n).map (swt l seq time)
def cnt (i:Nat):Nat:=((20*(i:Int)-l+20) / 20).toNat
def sst (i:Nat):Jt:=⟨l,m,5000+20*i,true,5000+l,time,seq+i,if cnt l i=0 then -1 else seq+cnt l i-1,0,5000-time / 8,stq l seq time (cnt l i) (i+1-cnt l i),0,0,cnt l i⟩
theorem while_all {α : Type} (p : α → Bool):∀ l:List α, (∀ x∈l,p x=true)→l.takeWhile p=l∧l.dropWhile p=[]
 | [],_=>⟨rfl,rfl⟩
 | a :: l, h => by
   obtain ⟨h1,h2⟩:=while_all p l (fun x hx=>h x (List.mem_cons_of_mem _ hx))
   have ha:=h a List.mem_cons_self
   rw [List.takeWhile_cons,List.dropWhile_cons,if_pos ha,if_pos ha,h1]
   exact ⟨rfl,h2⟩
variable (hc:cfg l m) (hs:0≤seq∧seq≤65535) (ht : -2147483648≤time∧time≤2147483647)
end
structure EndJ (ls mo trip:Int) (s:Jt) (i:Nat) (hi:Int):Prop where
 sm:Small i s
 least:s.least=ls
 most:s.most=mo
 spread:s.spread=0
 trans:s.on=true→s.trans=trip
 base:s.on=true→∃ j:Nat,s.first=160*(j:Int)∧s.zero=20*(j:Int)+trip+ls
 qat:∀ a∈s.q,a.at_<20*(i:Int)+trip+ls
 qsq:∀ a∈s.q,a.m.sq<hi
 high:s.high<hi
 done:s.done<hi
 len:s.q.length≤i
theorem zhi {hi:Int} : ∀ (l:List Wt) (d:Int),(∀ w∈l,w.m.sq<hi)→d<hi→maxSq d l<hi
 | [],d,_,h=>h
 | a :: l, d, h, hd => by
   have h1:=h a List.mem_cons_self
   exact zhi l (max d a.m.sq) (fun w hw=>h w (List.mem_cons_of_mem _ hw)) (by omega)
theorem zqd (z:Int) (q:List Wt) (h:∀ a∈q,a.at_<z):lastAt z q=z:=by
 unfold lastAt
 split
 · rfl
 · rename_i h0
   have hlt:q.length-1<q.length:=by omega
   have h1:=h (q.getD (q.length-1) Wt.zero) (by rw [List.getD_eq_getElem?_getD,List.getElem?_eq_getElem hlt];exact List.getElem_mem hlt)
   omega
theorem zso {q:List Wt} {w:Wt} (h:∀ a∈q,a.at_<w.at_):ins q w=q ++ [w]:=by
 have h1:=while_all (fun x=>decide (bef x w)) q (fun x hx=>decide_eq_true (Or.inl (h x hx)))
 unfold ins
 rw [h1.1,h1.2]
theorem EndJ.skip {ls mo trip:Int} {s:Jt} {i:Nat} {hi hi':Int} (h:EndJ ls mo trip s i hi) (hh:hi≤hi'):EndJ ls mo trip s (i+1) hi' :=
 ⟨⟨h.sm.ok,by have:=h.sm.late;push_cast;omega,by have:=h.sm.twice;push_cast;omega,by have:=h.sm.played;push_cast;omega⟩,h.least,h.most,h.spread,h.trans,h.base,fun a ha=>by have:=h.qat a ha;push_cast;omega,fun a ha=>by have:=h.qsq a ha;omega,by have:=h.high;omega,by have:=h.done;omega,by have:=h.len;omega⟩
theorem EndJ.run {ls mo trip:Int} {s:Jt} {i:Nat} {hi:Int} (h:EndJ ls mo trip s i hi) (hi40:i≤40) (now:Int) (h1:s.now≤now) (h2:now≤281474976710656):EndJ ls mo trip (run0 s now) (i+1) hi:=by
 have hs:=small_run h.sm (by omega) now h1 h2
 refine ⟨by push_cast;exact hs,h.least,h.most,h.spread,h.trans,h.base,fun a ha => ?_,fun a ha=>h.qsq a ((left_sub now s.q).subset ha),h.high,zhi _ _ (fun w hw=>h.qsq w ((due_sub now s.q).subset hw)) h.done,?_⟩
 · have:=h.qat a ((left_sub now s.q).subset ha)
   push_cast;omega
 · have h3:=(left_sub now s.q).length_le
   have h4:=h.len
   show (left now s.q).length≤i+1
   omega
theorem EndJ.put {ls mo trip:Int} {s:Jt} {i:Nat} {hi:Int} (h:EndJ ls mo trip s i hi) (hi40:i<40) (hc:cfg ls mo) (t0:0≤trip) (t1:trip≤65535) (h1:s.now≤20*(i:Int)+trip) (m:Md) (hm:m.ok) (hti:m.ti=160*(i:Int)) (hsq:hi≤m.sq) :
 ∃ s':Jt,put s (20*(i:Int)+trip) m=(s',due (20*(i:Int)+trip) s.q,1,0)∧s'.q=left (20*(i:Int)+trip) s.q ++ [⟨20*(i:Int)+trip+ls,m⟩]∧s'.now=20*(i:Int)+trip∧s'.played=s.played+(due (20*(i:Int)+trip) s.q).length∧EndJ ls mo trip s' (i+1) (m.sq+1):=by
 obtain ⟨now,hnow⟩:∃ n,n=20*(i:Int)+trip:=⟨_,rfl⟩
 rw [← hnow] at h1 ⊢
 have h2:now≤281474976710656:=by omega
 have hck:=chk_put h.sm.ok h1 h2 hm
 have hsr:=small_run h.sm (by omega) now h1 h2
 have hsp:=small_put h.sm (by omega) now h1 h2 m hm
 have hql:∀ a∈left now s.q,a.at_<now+ls:=fun a ha=>by
  have:=h.qat a ((left_sub now s.q).subset ha)
  omega
 have hdn:maxSq s.done (due now s.q)<hi:=zhi _ _ (fun w hw=>h.qsq w ((due_sub now s.q).subset hw)) h.done
 have hlen:(left now s.q).length≤i:=Nat.le_trans (left_sub now s.q).length_le h.len
 obtain ⟨c1,c2,c3⟩:=hc
 have hany:((run0 s now).q.any fun w=>w.m.sq==m.sq)=false:=by
  rw [List.any_eq_false]
  intro a ha
  have:=h.qsq a ((left_sub now s.q).subset ha)
  simp;omega
 have ht8:m.ti / 8=20*(i:Int):=by omega
 have hsp0:(if s.on=true then s.spread+max (now-m.ti / 8-s.trans) (s.trans-(now-m.ti / 8))-(s.spread+8) / 16 else s.spread)=0:=by
  split
  · rename_i ho
    rw [h.spread,h.trans ho,ht8];omega
  · exact h.spread
 obtain ⟨r,hr⟩:∃ r,r=meas (run0 s now) m:=⟨_,rfl⟩
 have r1:r.spread=0:=by rw [hr];exact hsp0
 have r2:r.trans=trip:=by rw [hr];show now-m.ti / 8=trip;omega
 have r3:r.q=left now s.q:=by rw [hr];rfl
 have r4:r.high=max s.high m.sq:=by rw [hr];rfl
 have r5:r.done=maxSq s.done (due now s.q):=by rw [hr];rfl
 have r6:∃ j:Nat,r.first=160*(j:Int)∧r.zero=20*(j:Int)+trip+ls:=by
  rw [hr]
  unfold meas
  simp only
  by_cases hb:(run0 s now).on=false∨(m.mrk=true∧(run0 s now).high<m.sq)
  · rw [if_pos hb,if_pos hb]
    refine ⟨i,hti,?_⟩
    show lastAt (now+min (s.least+(if s.on=true then s.spread+max (now-m.ti / 8-s.trans) (s.trans-(now-m.ti / 8))-(s.spread+8) / 16 else s.spread) / 4) s.most) (left now s.q)=_
    rw [hsp0,h.least,h.most,zqd _ _ (fun a ha=>by have:=hql a ha;omega)]
    omega
  · rw [if_neg hb,if_neg hb]
    have ho:s.on=true:=by
     cases hx:s.on
     · exact absurd (Or.inl hx) hb
     · rfl
    exact h.base ho
 have hat:ptime r m.ti=now+ls:=by
  obtain ⟨j,e1,e2⟩:=r6
  unfold ptime
  rw [e1,e2,hti];omega
 have hp0:put0 (run0 s now) m=({ r with q:=ins r.q ⟨now+ls,m⟩ }, 1):=by
  unfold put0
  rw [if_neg (by rw [hany];decide),if_neg (by rintro ⟨_,hx⟩;have:m.sq≤maxSq s.done (due now s.q):=hx;omega),if_neg (by show ¬200≤(left now s.q).length;omega)]
  simp only
  rw [← hr,hat,if_neg (by show ¬now+ls≤now;omega),if_neg (by show ¬now+120000<now+ls;omega)]
 rw [hp0] at hsp
 have hins:ins r.q ⟨now+ls,m⟩=left now s.q ++ [⟨now+ls,m⟩]:=by rw [r3];exact zso hql
 refine ⟨{ r with q:=ins r.q ⟨now+ls,m⟩ }, ?_,hins,?_,?_,⟨by push_cast;exact hsp,by rw [hr];exact h.least,by rw [hr];exact h.most,r1,fun _=>r2,fun _=>r6,fun a ha => ?_,fun a ha => ?_,?_,?_,?_⟩⟩
 · unfold Jb.put
   rw [hck,if_pos rfl,hp0]
 · rw [hr];rfl
 · rw [hr];rfl
 · replace ha:a∈ins r.q ⟨now+ls,m⟩:=ha
   rw [hins] at ha
   rcases List.mem_append.1 ha with ha|ha
   · have:=hql a ha;push_cast;omega
   · obtain rfl:=List.mem_singleton.1 ha
     show now+ls<_
     push_cast;omega
 · replace ha:a∈ins r.q ⟨now+ls,m⟩:=ha
   rw [hins] at ha
   rcases List.mem_append.1 ha with ha|ha
   · have:=h.qsq a ((left_sub now s.q).subset ha);omega
   · obtain rfl:=List.mem_singleton.1 ha
     show m.sq<m.sq+1
     omega
 · show r.high<m.sq+1
   have:=h.high
   rw [r4];omega
 · show r.done<m.sq+1
   rw [r5];omega
 · show (ins r.q ⟨now+ls,m⟩).length≤i+1
   rw [hins];simp;omega
theorem EndJ.start {ls mo trip:Int} (hc:cfg ls mo):EndJ ls mo trip (new ls mo).1 0 0:=by
 have hs:=small_new ls mo hc
 have e:(new ls mo).1=⟨ls,mo,0,false,0,0, -1, -1,0,0,[],0,0,0⟩:=by unfold new;rw [if_pos hc]
 rw [e] at hs ⊢
 exact ⟨by simpa using hs,rfl,rfl,rfl,(fun h=>by cases h),(fun h=>by cases h),(fun _ h=>by cases h),(fun _ h=>by cases h),(show (-1:Int)<0 by decide),(show (-1:Int)<0 by decide),by simp⟩
end Go.Proofs.YtbcgnddpkiemoaaGreat.Jb
namespace Go.Proofs.YtbcgnddpkiemoaaGreat
open Go.RowKit
namespace Sb
theorem zfi {s:Ev.Snd} (h:s.valid=true):s.vol≤63∧(0≤s.len∧s.len≤65535)∧(0≤s.ends∧s.ends≤3)∧(s.on=true→s.ends=0):=by
 unfold Ev.Snd.valid at h
 cases ho:s.on<;>simp [ho] at h ⊢ <;> omega
theorem zvw (s:Ev.Snd) (n:Int) (hv:0≤s.vol∧s.vol≤255) (hc:0≤s.code∧s.code≤255) (hs:0≤s.start∧s.start≤4294967295):(0≤(Ev.next s n).s.vol∧(Ev.next s n).s.vol≤255)∧(0≤(Ev.next s n).s.code∧(Ev.next s n).s.code≤255)∧(0≤(Ev.next s n).s.start∧(Ev.next s n).s.start≤4294967295):=by
 have z:(0≤Ev.Snd.zero.vol∧Ev.Snd.zero.vol≤255)∧(0≤Ev.Snd.zero.code∧Ev.Snd.zero.code≤255)∧(0≤Ev.Snd.zero.start∧Ev.Snd.zero.start≤4294967295):=by decide
 unfold Ev.next
 split
 · exact z
 split
 · exact z
 split
 · exact ⟨hv,hc,hs⟩
 split
 · exact ⟨hv,hc,hs⟩
 · show (0≤(if s.ends=1 then Ev.Snd.zero else _:Ev.Snd).vol∧_)∧_
   split
   · exact z
   · exact ⟨hv,hc,hs⟩
end Sb
end Go.Proofs.YtbcgnddpkiemoaaGreat
namespace Go.Proofs.YtbcgnddpkiemoaaGreat.Sb
open Go.RowKit
def downs (ks:List Ev.Key):Nat:=(ks.filter fun k=>k.down).length
def KQ (hd:Ev.Rcv) (i:Nat):Prop:=hd.on=false∨(hd.ended=true∧0≤hd.time∧hd.time<160*(i:Int))
def KS (tn:Ev.Snd) (hd:Ev.Rcv) (i:Nat) (b:Bool):Prop:=hd.on=true∧hd.time=tn.start∧hd.code=tn.code∧hd.ended=b∧0≤tn.start∧tn.start<160*(i:Int)
inductive KI (tn:Ev.Snd) (hd:Ev.Rcv) (i:Nat):Nat→Prop where
 | idle (h1:tn.on=false) (h2:tn.ends=0) (h3:KQ hd i):KI tn hd i 0
 | fresh (h1:tn.on=true) (h2:tn.start=160*(i:Int)) (h3:KQ hd i):KI tn hd i 1
 | held (h1:tn.on=true) (h3:KS tn hd i false):KI tn hd i 0
 | rel (h1:tn.on=false) (h2:tn.ends=3) (h3:KS tn hd i false):KI tn hd i 0
 | ending (h1:tn.on=false) (h2:tn.ends=1∨tn.ends=2) (h3:KS tn hd i true):KI tn hd i 0
theorem KQ.next {hd:Ev.Rcv} {i:Nat} (h:KQ hd i):KQ hd (i+1):=by
 rcases h with h|⟨h1,h2,h3⟩
 · exact .inl h
 · exact .inr ⟨h1,h2,by push_cast;omega⟩
theorem zju {s:Ev.Snd} (hv:s.valid=true) (ho:s.on=true):Ev.next s 160=⟨⟨true,s.code,s.vol,s.start,min (s.len+160) 65535,s.ends⟩,⟨s.start,s.len==0,⟨s.code,false,s.vol,min (s.len+160) 65535⟩⟩,true,0⟩:=by
 unfold Ev.next
 rw [if_neg (by rw [hv];decide),if_neg (by omega),if_pos ho]
theorem zhj {s:Ev.Snd} (hv:s.valid=true) (ho:s.on=false) (he:s.ends≠0):Ev.next s 160=⟨if s.ends=1 then Ev.Snd.zero else ⟨false,s.code,s.vol,s.start,s.len,s.ends-1⟩,⟨s.start,false,⟨s.code,true,s.vol,s.len⟩⟩,true,0⟩:=by
 unfold Ev.next
 rw [if_neg (by rw [hv];decide),if_neg (by omega),if_neg (by rw [ho];decide),if_neg he]
theorem zsp {r:Ev.Rcv} {time:Int} {t:Ev.Tone} (h:r.on=false∨1≤(time-r.time) % 4294967296∧(time-r.time) % 4294967296<2147483648) :
 Ev.hear r time t=(⟨true,time,t.code,t.dur,t.fin⟩,(if r.on=true∧r.ended=false then [⟨r.code,false,r.time,r.len⟩] else []) ++ [⟨t.code,true,time,0⟩]++(if t.fin=true then [⟨t.code,false,time,t.dur⟩] else [])):=by
 unfold Ev.hear
 rw [if_pos h]
theorem zii {r:Ev.Rcv} {time:Int} {t:Ev.Tone} (h:¬(r.on=false∨1≤(time-r.time) % 4294967296∧(time-r.time) % 4294967296<2147483648)) (h':(time-r.time) % 4294967296=0∧t.code=r.code∧r.ended=false) :
 Ev.hear r time t=(⟨r.on,r.time,r.code,max r.len t.dur,t.fin⟩,if t.fin=true then [⟨r.code,false,r.time,max r.len t.dur⟩] else []):=by
 unfold Ev.hear
 rw [if_neg h,if_pos h']
theorem zqe {r:Ev.Rcv} {time:Int} {t:Ev.Tone} (h:¬(r.on=false∨1≤(time-r.time) % 4294967296∧(time-r.time) % 4294967296<2147483648)) (h':¬((time-r.time) % 4294967296=0∧t.code=r.code∧r.ended=false)) :
 Ev.hear r time t=(r,[]):=by
 unfold Ev.hear
 rw [if_neg h,if_neg h']
theorem KI.hear {tn:Ev.Snd} {hd:Ev.Rcv} {i f:Nat} (h:KI tn hd i f) (hi:i≤40) (hv:tn.valid=true) (hto:tn.on=true∨tn.ends≠0) :
 KI (Ev.next tn 160).s (Ev.hear hd (Ev.next tn 160).o.time (Ev.next tn 160).o.tone).1 (i+1) 0∧downs (Ev.hear hd (Ev.next tn 160).o.time (Ev.next tn 160).o.tone).2=f:=by
 obtain ⟨v1,v2,v3,v4⟩:=zfi hv
 cases h with
 | idle h1 h2 h3=>rcases hto with h|h;rw [h1] at h;cases h;exact absurd h2 h
 | fresh h1 h2 h3 =>
   rw [zju hv h1]
   have hc:hd.on=false∨1≤(tn.start-hd.time) % 4294967296∧(tn.start-hd.time) % 4294967296<2147483648:=by
    rcases h3 with h|⟨h,h4,h5⟩
    · exact .inl h
    · right;rw [h2];omega
   have hn:¬(hd.on=true∧hd.ended=false):=by
    rintro ⟨ha,hb⟩
    rcases h3 with h|⟨h,_,_⟩
    · rw [h] at ha;cases ha
    · rw [h] at hb;cases hb
   rw [zsp hc,if_neg hn]
   refine ⟨.held rfl ⟨rfl,rfl,rfl,rfl,by show 0≤tn.start;omega,by show tn.start<160*((i+1:Nat):Int);push_cast;omega⟩,rfl⟩
 | held h1 h3 =>
   obtain ⟨a1,a2,a3,a4,a5,a6⟩:=h3
   rw [zju hv h1]
   have e0:(tn.start-hd.time) % 4294967296=0:=by rw [a2];omega
   rw [zii (by show ¬(_∨1≤(tn.start-hd.time) % 4294967296∧_);rw [a1,e0];rintro (h|h);cases h;omega) ⟨e0,a3.symm,a4⟩]
   exact ⟨.held rfl ⟨a1,a2,a3,rfl,a5,by show tn.start<160*((i+1:Nat):Int);push_cast;omega⟩,rfl⟩
 | rel h1 h2 h3 =>
   obtain ⟨a1,a2,a3,a4,a5,a6⟩:=h3
   rw [zhj hv h1 (by omega)]
   have e0:(tn.start-hd.time) % 4294967296=0:=by rw [a2];omega
   rw [zii (by show ¬(_∨1≤(tn.start-hd.time) % 4294967296∧_);rw [a1,e0];rintro (h|h);cases h;omega) ⟨e0,a3.symm,a4⟩,if_neg (show ¬tn.ends=1 by omega)]
   exact ⟨.ending rfl (.inr (by show tn.ends-1=2;omega)) ⟨a1,a2,a3,rfl,a5,by show tn.start<160*((i+1:Nat):Int);push_cast;omega⟩,rfl⟩
 | ending h1 h2 h3 =>
   obtain ⟨a1,a2,a3,a4,a5,a6⟩:=h3
   rw [zhj hv h1 (by omega)]
   have e0:(tn.start-hd.time) % 4294967296=0:=by rw [a2];omega
   rw [zqe (by show ¬(_∨1≤(tn.start-hd.time) % 4294967296∧_);rw [a1,e0];rintro (h|h);cases h;omega) (by rintro ⟨_,_,h⟩;rw [a4] at h;cases h)]
   refine ⟨?_,rfl⟩
   by_cases h9:tn.ends=1
   · rw [if_pos h9]
     exact .idle rfl rfl (.inr ⟨a4,by rw [a2];exact a5,by rw [a2];push_cast;omega⟩)
   · rw [if_neg h9]
     exact .ending rfl (.inl (by show tn.ends-1=1;omega)) ⟨a1,a2,a3,a4,a5,by show tn.start<160*((i+1:Nat):Int);push_cast;omega⟩
theorem KI.press {tn:Ev.Snd} {hd:Ev.Rcv} {i:Nat} (h:KI tn hd i 0) (hv:tn.valid=true) (code:Int) (he:(Ev.press tn code 10 (160*(i:Int))).2=0):KI (Ev.press tn code 10 (160*(i:Int))).1 hd i 1:=by
 unfold Ev.press at he ⊢
 rw [if_neg (by rw [hv];decide)] at he ⊢
 by_cases hb:tn.on=true∨tn.ends≠0
 · rw [if_pos hb] at he;cases he
 · rw [if_neg hb,if_neg (by omega)] at he ⊢
   cases h with
   | idle h1 h2 h3=>exact .fresh rfl rfl h3
   | held h1 h3=>exact absurd (Or.inl h1) hb
   | rel h1 h2 h3=>exact absurd (Or.inr (by omega)) hb
   | ending h1 h2 h3=>exact absurd (Or.inr (by omega)) hb
theorem KI.release {tn:Ev.Snd} {hd:Ev.Rcv} {i:Nat} (h:KI tn hd i 0) (hv:tn.valid=true) (he:(Ev.release tn).2=0):KI (Ev.release tn).1 hd i 0:=by
 unfold Ev.release at he ⊢
 rw [if_neg (by rw [hv];decide)] at he ⊢
 by_cases hb:tn.on=false
 · rw [if_pos hb] at he;cases he
 · rw [if_neg hb] at he ⊢
   cases h with
   | idle h1 h2 h3=>exact absurd h1 hb
   | held h1 h3=>exact .rel rfl rfl h3
   | rel h1 h2 h3=>exact absurd h1 hb
   | ending h1 h2 h3=>exact absurd h1 hb
theorem enc_in (c:Int) (s:Int×Int) (zs:List Int) (hs:Dlt.valid s.1 s.2=true) (hl:zs.length=160):(∀ z∈(enc c s zs).1,0≤z∧z≤255)∧(enc c s zs).1.length≤160∧Dlt.valid (enc c s zs).2.1 (enc c s zs).2.2=true:=by
 unfold enc
 split
 · refine ⟨fun z hz => ?_,by rw [List.length_map];omega,hs⟩
   obtain ⟨x,_,rfl⟩:=List.mem_map.1 hz
   have:=Cmp.mu_lt x
   unfold Cmp.muZ;omega
 split
 · refine ⟨fun z hz => ?_,by rw [List.length_map];omega,hs⟩
   obtain ⟨x,_,rfl⟩:=List.mem_map.1 hz
   have:=Cmp.aCode_lt x
   unfold Cmp.aZ;omega
 · refine ⟨fun z hz => ?_,by rw [Dlt.packB_len];omega,Dlt.stAt_valid s hs zs _⟩
   obtain ⟨j,_,rfl⟩:=List.mem_map.1 hz
   exact Dlt.packAt_bd s hs zs _ j
theorem zdy {α : Type} {p : α → Bool} : ∀ (l:List α) (a : α),a∈l.takeWhile p→p a=true
 | [],a,h=>by cases h
 | b :: l, a, h => by
   rw [List.takeWhile_cons] at h
   split at h
   · rename_i hb
     rcases List.mem_cons.1 h with e|h
     · rw [e];exact hb
     · exact zdy l a h
   · cases h
structure SpkI (c:Int) (p:Pt) (i many:Nat):Prop where
 sp:speechB c=true
 codec:p.codec=c
 src:0≤p.src∧p.src≤4294967295
 seq:p.seq=(many:Int)
 time:p.time=160*(i:Int)
 below:0≤p.below∧p.below≤10
 cod:Dlt.valid p.cv p.ci=true
 tn:p.tn=Ev.Snd.zero
 jv:Jb.valid p.jt=true
 jq:p.jt.q=[]
 tk:p.tk=Pk.Tr.zero
 ht:p.ht=0
 pk:0≤p.pk∧p.pk≤4294967295
 oc:0≤p.oc∧p.oc≤4294967295
 seed:0≤p.seed∧p.seed≤4294967295
 le:many≤i
 i60:i≤60
theorem zsq {c:Int} (h:speechB c=true):0≤c∧c≤255:=by
 rcases zam.1 h with rfl|rfl|rfl<;>decide
theorem SpkI.valid {c:Int} {p:Pt} {i many:Nat} (h:SpkI c p i many):p.valid=true:=by
 have hn:p.near:=by unfold Pt.near;rw [h.tk,h.ht];decide
 unfold Pt.valid
 rw [h.codec,h.sp,h.cod,h.jv,h.tn,tn0,decide_eq_true hn];rfl
theorem SpkI.wf {c:Int} {p:Pt} {i many:Nat} (h:SpkI c p i many):p.wf:=by
 have h1:=h.le
 have h2:=h.i60
 have h3:=h.below
 constructor
 · rw [h.codec];exact zsq h.sp
 · exact h.src
 · rw [h.seq];omega
 · rw [h.time];omega
 · omega
 · rw [h.tn];decide
 · rw [h.tn];decide
 · rw [h.tn];decide
 · exact h.seed
 · exact h.pk
 · exact h.oc
theorem SpkI.step {c:Int} {p:Pt} {i many:Nat} (h:SpkI c p i many) (zs:List Int) (hi:i<60) (hl:zs.length=160) (hz:∀ z∈zs, -32768≤z∧z≤32767) :
 ∃ more:Nat,(send0 p zs).2.length=more∧more≤1∧SpkI c (send0 p zs).1 (i+1) (many+more) ∧
  ∀ k∈(send0 p zs).2,k.sq=(many:Int)∧k.ti=160*(i:Int)∧(speechB k.ty=true∨k.ty=13)∧k.pl.length≤1500∧∀ z∈k.pl,0≤z∧z≤255:=by
 have h1:=h.le
 have hb0:=h.below
 have hq:0≤Ev.quiet p.below zs∧Ev.quiet p.below zs≤10:=by unfold Ev.quiet;split<;>omega
 have ht:¬(p.tn.on=true∨p.tn.ends≠0):=by rw [h.tn];decide
 unfold send0
 rw [if_neg ht]
 split
 · split
   · refine ⟨1,rfl,Nat.le_refl _,⟨h.sp,h.codec,h.src,?_,?_,hq,h.cod,h.tn,h.jv,h.jq,h.tk,h.ht,?_,?_,h.seed,by omega,by omega⟩,?_⟩
     · show (p.seq+1) % 65536=_;rw [h.seq];omega
     · show (p.time+160) % 4294967296=_;rw [h.time];omega
     · show 0≤(p.pk+1) % 4294967296∧(p.pk+1) % 4294967296≤4294967295;omega
     · show 0≤(p.oc+_) % 4294967296∧(p.oc+_) % 4294967296≤4294967295;omega
     · intro k hk
       obtain rfl:=List.mem_singleton.1 hk
       refine ⟨h.seq,h.time, .inr rfl,by show 1≤1500;omega,fun z hz2 => ?_⟩
       obtain rfl:=List.mem_singleton.1 hz2
       have:=Ev.lev_bd zs hz
       omega
   · refine ⟨0,rfl,by omega,⟨h.sp,h.codec,h.src,h.seq,?_,hq,h.cod,h.tn,h.jv,h.jq,h.tk,h.ht,h.pk,h.oc,h.seed,by omega,by omega⟩,?_⟩
     · show (p.time+160) % 4294967296=_;rw [h.time];omega
     · intro k hk;cases hk
 · obtain ⟨e1,e2,e3⟩:=enc_in p.codec (p.cv,p.ci) zs h.cod hl
   refine ⟨1,rfl,Nat.le_refl _,⟨h.sp,h.codec,h.src,?_,?_,hq,e3,h.tn,h.jv,h.jq,h.tk,h.ht,?_,?_,h.seed,by omega,by omega⟩,?_⟩
   · show (p.seq+1) % 65536=_;rw [h.seq];omega
   · show (p.time+160) % 4294967296=_;rw [h.time];omega
   · show 0≤(p.pk+1) % 4294967296∧(p.pk+1) % 4294967296≤4294967295;omega
   · show 0≤(p.oc+_) % 4294967296∧(p.oc+_) % 4294967296≤4294967295;omega
   · intro k hk
     obtain rfl:=List.mem_singleton.1 hk
     refine ⟨h.seq,h.time, .inl ?_,?_,e1⟩
     · show speechB p.codec=true;rw [h.codec];exact h.sp
     · show (enc p.codec (p.cv,p.ci) zs).1.length≤1500;omega
theorem SpkI.startS {c l m s:Int} (hs:speechB c=true) (hc:Jb.cfg l m) (s0:0≤s) (s1:s≤4294967295):SpkI c (new c s l m).1 0 0∧(new c s l m).2=0:=by
 have e:new c s l m=({ Pt.zero with codec:=c,src:=s,mrk:=true,jt:=(Jb.new l m).1,seed:=s }, 0):=by
  unfold new
  rw [if_neg (by rw [hs];decide),if_pos hc]
 have hv:Jb.valid (Jb.new l m).1=true:=by unfold Jb.valid;rw [decide_eq_true_iff];exact Jb.new_ok l m hc
 have hq:(Jb.new l m).1.q=[]:=by unfold Jb.new;rw [if_pos hc]
 rw [e]
 exact ⟨⟨hs,rfl,⟨s0,s1⟩,rfl,rfl,(⟨(by decide:(0:Int)≤0),(by decide:(0:Int)≤10)⟩),by show Dlt.valid 0 0=true;decide,rfl,hv,hq,rfl,rfl,(⟨(by decide:(0:Int)≤0),(by decide:(0:Int)≤4294967295)⟩),(⟨(by decide:(0:Int)≤0),(by decide:(0:Int)≤4294967295)⟩),⟨s0,s1⟩,Nat.le_refl _,by omega⟩,rfl⟩
theorem SpkI.start {c l m:Int} (hs:speechB c=true) (hc:Jb.cfg l m):SpkI c (new c 7 l m).1 0 0∧(new c 7 l m).2=0:=SpkI.startS hs hc (by decide) (by decide)
theorem zeb (c:Int) (pl:List Int) (s:Int) (h:0≤s∧s≤4294967295):0≤(dec c pl s).2∧(dec c pl s).2≤4294967295:=by
 unfold dec
 split
 · split
   · have e:(Ev.noise (pl.getD 0 0) s 160).2.1=(Ev.seed s 159*1103515245+12345) % 4294967296:=by
      unfold Ev.noise
      rw [if_neg (by omega)];rfl
     rw [e];omega
   · exact h
 · exact h
theorem zbb:∀ (l:List Jb.Wt) (s:Int),0≤s∧s≤4294967295→0≤(sounds s l).1∧(sounds s l).1≤4294967295
 | [],s,h=>h
 | a :: l, s, h => by
   show 0≤(sounds (dec a.m.ty a.m.pl s).2 l).1∧(sounds (dec a.m.ty a.m.pl s).2 l).1≤4294967295
   exact zbb l _ (zeb _ _ _ h)
theorem zdb:∀ (l:List Jb.Wt) (s:Int),(sounds s l).2.map (fun d=>(d.at_,d.ks.length))=l.map (fun a=>(a.at_,0))
 | [],s=>rfl
 | a :: l, s => by
   show _::(sounds (dec a.m.ty a.m.pl s).2 l).2.map _=_::l.map _
   rw [zdb l];rfl
theorem zgj (l:List Jb.Wt) (s:Int):(sounds s l).2.length=l.length:=by
 have:=congrArg List.length (zdb l s)
 simpa using this
def lastS (z:Int) (l:List Sd):Int:=l.foldl (fun _ d=>d.at_) z
structure LisI (u:Pt) (i:Nat) (now last:Int) (many taken:Nat):Prop where
 wf:u.wf
 sp:speechB u.codec=true
 cod:Dlt.valid u.cv u.ci=true
 tn:u.tn=Ev.Snd.zero
 tk:u.tk=Pk.Tr.zero∨∃ h:Int,u.tk=⟨true,h, -1⟩∧0≤h∧h<60
 ht:0≤u.ht∧u.ht≤9600
 sm:Jb.Small i u.jt
 near:Jb.Near u.jt.now u.jt.q
 n0:u.jt.now≤now
 n1:1000≤now
 n2:now≤1000+255*(i:Int)
 l0:0≤last
 l1:last≤u.jt.now
 pl:u.jt.played=(many:Int)
 tkn:taken=many+u.jt.q.length
theorem LisI.valid {u:Pt} {i many taken:Nat} {now last:Int} (h:LisI u i now last many taken):u.valid=true:=by
 have h1:=h.ht
 have hn:u.near:=by
  unfold Pt.near
  rcases h.tk with e|⟨x,e,x0,x1⟩
  · rw [e];show 0≤(0:Int)∧(0:Int)≤140737488355328 ∧ -1≤(0:Int)∧(0:Int)≤65535∧_;omega
  · rw [e];show 0≤x∧x≤140737488355328 ∧ -1≤(-1:Int)∧(-1:Int)≤65535∧_;omega
 have hj:Jb.valid u.jt=true:=by unfold Jb.valid;rw [decide_eq_true_iff];exact h.sm.ok
 unfold Pt.valid
 rw [h.sp,h.cod,hj,h.tn,tn0,decide_eq_true hn];rfl
theorem LisI.chk {u:Pt} {i many taken:Nat} {now last:Int} (h:LisI u i now last many taken) (t:Int) (h1:now≤t) (h2:t≤281474976710656):chkT u t=0:=by
 have:=h.n0
 unfold chkT
 rw [if_neg (by rw [h.valid];rintro (e|e);cases e;omega),if_neg (by omega)]
theorem LisI.skip {u:Pt} {i many taken:Nat} {now last:Int} (h:LisI u i now last many taken) (late:Int) (t0:0≤late) (t1:late≤255):LisI u (i+1) (now+late) last many taken:=by
 have h1:=h.sm.late
 have h2:=h.sm.twice
 have h3:=h.sm.played
 have h4:=h.n0
 have h5:=h.n1
 have h6:=h.n2
 exact ⟨h.wf,h.sp,h.cod,h.tn,h.tk,h.ht,⟨h.sm.ok,by push_cast;omega,by push_cast;omega,by push_cast;omega⟩,h.near,by omega,by omega,by push_cast;omega,h.l0,h.l1,h.pl,h.tkn⟩
theorem LisI.start {c l m:Int} (hs:speechB c=true) (hc:Jb.cfg l m):LisI (new c 7 l m).1 0 1000 0 0 0:=by
 have e:new c 7 l m=({ Pt.zero with codec:=c,src:=7,mrk:=true,jt:=(Jb.new l m).1,seed:=7 }, 0):=by
  unfold new
  rw [if_neg (by rw [hs];decide),if_pos hc]
 have hw:=(SpkI.start hs hc).1.wf
 have hq:(Jb.new l m).1.q=[]∧(Jb.new l m).1.now=0∧(Jb.new l m).1.played=0:=by unfold Jb.new;rw [if_pos hc];exact ⟨rfl,rfl,rfl⟩
 have hsm:=Jb.small_new l m hc
 rw [e] at hw ⊢
 refine ⟨hw,hs,by show Dlt.valid 0 0=true;decide,rfl, .inl rfl,by show 0≤(0:Int)∧(0:Int)≤9600;omega,by simpa using hsm,?_,?_,by omega,by simp,by omega,?_,?_,?_⟩
 · show Jb.Near (Jb.new l m).1.now (Jb.new l m).1.q
   rw [hq.1];intro w hw2;cases hw2
 · show (Jb.new l m).1.now≤1000
   rw [hq.2.1];omega
 · show 0≤(Jb.new l m).1.now
   rw [hq.2.1];omega
 · show (Jb.new l m).1.played=_
   rw [hq.2.2];rfl
 · show 0=0+(Jb.new l m).1.q.length
   rw [hq.1];rfl
theorem ztf (h s:Int) (h0:0≤h) (h1:h<60) (s0:0≤s) (s1:s<60):Pk.near h s 65536=s:=by
 unfold Pk.near
 rw [if_neg (by omega)]
 split<;>omega
theorem ztg (h s:Int) (h0:0≤h) (h1:h≤9600) (s0:0≤s) (s1:s≤9600):Pk.near h s 4294967296=s:=by
 unfold Pk.near
 rw [if_neg (by omega)]
 split<;>omega
theorem LisI.follow {u:Pt} {i many taken:Nat} {now last:Int} (h:LisI u i now last many taken) (s:Int) (s0:0≤s) (s1:s<60):∃ x:Int,Pk.follow u.tk s=(⟨true,x, -1⟩,s,true)∧0≤x∧x<60:=by
 rcases h.tk with e|⟨x,e,x0,x1⟩
 · refine ⟨s,?_,s0,s1⟩
   rw [e];unfold Pk.follow
   rw [if_neg (fun hn=>hn (by decide)),if_pos (show Pk.Tr.zero.on=false from rfl)]
 · refine ⟨max x s,?_,by omega,by omega⟩
   rw [e];unfold Pk.follow
   have hok:Pk.Tr.ok ⟨true,x, -1⟩:=by unfold Pk.Tr.ok;simp only;omega
   rw [if_neg (fun hn=>hn hok),if_neg (by simp)]
   simp only [ztf x s x0 x1 s0 s1]
   rw [if_pos (by omega)]
theorem zvx {l:List Jb.Wt} (h:l.Pairwise Jb.bef):l.Pairwise fun a b=>a.at_≤b.at_:=h.imp fun hb=>Jb.bef_at hb
theorem LisI.recv {u:Pt} {i many taken:Nat} {now last:Int} (h:LisI u i now last many taken) (hi:i<60) (x:Arr) (late:Int) (t0:0≤late) (t1:late≤255) (s0:0≤x.sq) (s1:x.sq<60) (i0:0≤x.ti) (i1:x.ti≤9600) (hty:speechB x.ty=true∨x.ty=13) (hpl:x.pl.length≤1500) :
 ∃ (m:Jb.Md) (u':Pt) (v:Int) (sds:List Sd) (tr:Pk.Tr),Pk.follow u.tk x.sq=(tr,x.sq,true)∧time u x=x.ti∧m=⟨x.sq,x.ti,x.mrk,x.ty,x.pl⟩∧(Jb.put u.jt (now+late) m).2.2.2=0∧recv0 u (now+late) x=(u',v,sds) ∧
  LisI u' (i+1) (now+late) (lastS last sds) (many+sds.length) (taken+if v=1 then 1 else 0)∧(∀ d∈sds,d.ks=[]∧last≤d.at_∧d.at_≤now+late)∧sds.Pairwise (fun a b=>a.at_≤b.at_):=by
 have h4:=h.n0
 have h5:=h.n1
 have h6:=h.n2
 have hl0:=h.l0
 have hl1:=h.l1
 obtain ⟨y,hf,y0,y1⟩:=h.follow x.sq s0 s1
 have hti:time u x=x.ti:=by
  unfold time
  split
  · exact ztg _ _ h.ht.1 h.ht.2 i0 i1
  · rfl
 obtain ⟨m,hm⟩:∃ m:Jb.Md,m=⟨x.sq,x.ti,x.mrk,x.ty,x.pl⟩:=⟨_,rfl⟩
 have hmo:m.ok:=by rw [hm];unfold Jb.Md.ok;simp only;omega
 have hmt:m.ti=x.ti:=by rw [hm]
 have n1:u.jt.now≤now+late:=by omega
 have n2:now+late≤281474976710656:=by omega
 obtain ⟨s',v,hp0⟩:∃ s' v,Jb.put0 (Jb.run0 u.jt (now+late)) m=(s',v):=⟨_,_,rfl⟩
 have hput:Jb.put u.jt (now+late) m=(s',Jb.due (now+late) u.jt.q,v,0):=by
  unfold Jb.put
  rw [Jb.chk_put h.sm.ok n1 n2 hmo,if_pos rfl,hp0]
 have hsr:=Jb.small_run h.sm (by omega) (now+late) n1 n2
 have hsp:=Jb.small_put h.sm (by omega) (now+late) n1 n2 m hmo
 have hpc:=Jb.put0_cnt (Jb.run0 u.jt (now+late)) m
 have hcs:=Jb.put0_cases (Jb.run0 u.jt (now+late)) m hsr.ok hmo (by have:=hsr.late;omega) (by have:=hsr.twice;omega)
 rw [hp0] at hsp hpc hcs
 simp only at hsp hpc hcs
 have hnl:=Jb.near_left h.near n1
 have hdl:=congrArg List.length (Jb.due_left (now+late) u.jt.q)
 rw [List.length_append] at hdl
 obtain ⟨q1,q2,q3,q4⟩:=(Jb.okQ_iff _ _ _).1 h.sm.ok.2.2.2.2
 have hlen:=zgj (Jb.due (now+late) u.jt.q) u.seed
 have hats:=zdb (Jb.due (now+late) u.jt.q) u.seed
 obtain ⟨sds,hsds⟩:∃ l,l=(sounds u.seed (Jb.due (now+late) u.jt.q)).2:=⟨_,rfl⟩
 rw [← hsds] at hlen hats
 have hdue:∀ a∈Jb.due (now+late) u.jt.q,last≤a.at_∧a.at_≤now+late:=fun a ha=>by
  have h1:=(q2 a ((Jb.due_sub _ _).subset ha)).2.1
  have h2:a.at_≤now+late:=by
   have:=zdy _ _ ha
   simpa using this
  omega
 have hall:∀ d∈sds,d.ks=[]∧last≤d.at_∧d.at_≤now+late:=fun d hd=>by
  have h1:(d.at_,d.ks.length)∈(Jb.due (now+late) u.jt.q).map (fun a=>(a.at_,0)):=by rw [← hats];exact List.mem_map.2 ⟨d,hd,rfl⟩
  obtain ⟨a,ha,e⟩:=List.mem_map.1 h1
  injection e with e1 e2
  have:=hdue a ha
  exact ⟨List.eq_nil_of_length_eq_zero e2.symm,by omega,by omega⟩
 have hpw:sds.Pairwise (fun a b=>a.at_≤b.at_):=by
  have h1:=zvx (q3.sublist (Jb.due_sub (now+late) u.jt.q))
  have h2:(sds.map (fun d=>(d.at_,d.ks.length))).Pairwise (fun a b=>a.1≤b.1):=by rw [hats,List.pairwise_map];exact h1
  rw [List.pairwise_map] at h2
  exact h2
 have hls:∀ (l:List Sd) (z:Int),(∀ d∈l,last≤d.at_∧d.at_≤now+late)→last≤z∧z≤now+late→last≤lastS z l∧lastS z l≤now+late:=by
  intro l
  induction l with
  | nil=>intro z _ hz;exact hz
  | cons a l ih=>intro z hd hz;exact ih a.at_ (fun d hd2=>hd d (List.mem_cons_of_mem _ hd2)) (hd a (List.mem_cons_self ..))
 have hlast:=hls sds last (fun d hd=>(hall d hd).2) ⟨Int.le_refl _,by omega⟩
 have hk:known x≠false:=by
  unfold known
  rcases hty with e|e
  · rw [e];simp
  · rw [e];simp
 have h101:¬x.ty=101:=by
  rcases hty with e|e
  · rcases zam.1 e with e|e|e<;>omega
  · omega
 refine ⟨m, { u with tk:=⟨true,y, -1⟩,ht:=if u.tk.on=false∨u.ht<x.ti then x.ti else u.ht,st:=Rep.arrive u.st x.sq (8*(now+late)) x.ti,jt:=s',seed:=(sounds u.seed (Jb.due (now+late) u.jt.q)).1 }, v,sds,_,hf,hti,hm,by rw [hput],?_,⟨?_,h.sp,h.cod,h.tn, .inr ⟨y,rfl,y0,y1⟩,?_,?_,?_,?_,by omega,by push_cast;omega,by omega,?_,?_,?_⟩,hall,hpw⟩
 · unfold recv0
   rw [if_neg hk]
   simp only [hf,hti]
   rw [if_neg (by decide),if_neg h101,← hm,hput,hsds]
 · exact ⟨h.wf.codec,h.wf.src,h.wf.seq,h.wf.time,h.wf.below,h.wf.tvol,h.wf.tcode,h.wf.tst,zbb _ _ h.wf.seed,h.wf.pk,h.wf.oc⟩
 · show 0≤(if u.tk.on=false∨u.ht<x.ti then x.ti else u.ht)∧(if u.tk.on=false∨u.ht<x.ti then x.ti else u.ht)≤9600
   have:=h.ht
   split<;>omega
 · exact hsp
 · show Jb.Near s'.now s'.q
   rw [hpc.2.2.2.1]
   rcases hcs with ⟨c1,c2,c3,c4,c5⟩|⟨c1,c2,c3,c4⟩
   · rw [c4];exact Jb.near_ins hnl c3
   · rw [c3];exact hnl
 · show s'.now≤_
   rw [hpc.2.2.2.1];exact Int.le_refl _
 · show lastS last sds≤s'.now
   rw [hpc.2.2.2.1];exact hlast.2
 · show s'.played=_
   rw [hpc.2.2.1,hlen]
   show u.jt.played+((Jb.due (now+late) u.jt.q).length:Int)=_
   rw [h.pl];push_cast;omega
 · show taken+(if v=1 then 1 else 0)=many+sds.length+s'.q.length
   have htk:=h.tkn
   rcases hcs with ⟨c1,c2,c3,c4,c5⟩|⟨c1,c2,c3,c4⟩
   · rw [if_pos c1,c4,Jb.ins_len]
     show _=_+((Jb.left (now+late) u.jt.q).length+1)
     omega
   · rw [if_neg c1,c3]
     show _=_+(Jb.left (now+late) u.jt.q).length
     omega
theorem LisI.done {u:Pt} {i many taken:Nat} {now last:Int} (h:LisI u i now last many taken) (hi:i≤60):(Jb.run u.jt (now+200000)).2.2=0∧many+(run u (now+200000)).2.length=taken∧(run u (now+200000)).1.jt.played=(taken:Int):=by
 have h4:=h.n0
 have h5:=h.n1
 have h6:=h.n2
 have hr:Jb.run u.jt (now+200000)=(Jb.run0 u.jt (now+200000),Jb.due (now+200000) u.jt.q,0):=by
  unfold Jb.run;rw [Jb.chk_run h.sm.ok (by omega) (by omega),if_pos rfl]
 obtain ⟨q1,q2,q3,q4⟩:=(Jb.okQ_iff _ _ _).1 h.sm.ok.2.2.2.2
 have hl:Jb.left (now+200000) u.jt.q=[]:=by
  apply List.eq_nil_iff_forall_not_mem.2
  intro w hw
  have h1:=Jb.left_gt (now+200000) u.jt.q q3 w hw
  have h2:=h.near w ((Jb.left_sub _ u.jt.q).subset hw)
  omega
 have hdl:=congrArg List.length (Jb.due_left (now+200000) u.jt.q)
 rw [List.length_append,hl] at hdl
 have htk:=h.tkn
 simp only [List.length_nil] at hdl
 refine ⟨by rw [hr],?_,?_⟩
 · unfold run
   rw [hr]
   show many+(sounds u.seed (Jb.due (now+200000) u.jt.q)).2.length=_
   rw [zgj];omega
 · unfold run
   rw [hr]
   show u.jt.played+((Jb.due (now+200000) u.jt.q).length:Int)=_
   rw [h.pl,htk];push_cast;omega
theorem zmt (s:Ev.Snd) (h:s.valid=true):(Ev.next s 160).s.valid=true:=by
 obtain ⟨h1,h2,h3,h4⟩:=zfi h
 cases ho:s.on
 · by_cases he:s.ends=0
   · unfold Ev.next
     rw [if_neg (by rw [h];decide),if_neg (by omega),if_neg (by rw [ho];decide),if_pos he]
     exact h
   · rw [zhj h ho he]
     by_cases h9:s.ends=1
     · simp only [if_pos h9];exact tn0
     · simp only [if_neg h9]
       unfold Ev.Snd.valid
       simp only [Bool.and_eq_true,decide_eq_true_eq,Bool.or_eq_true,Bool.not_eq_true',beq_iff_eq]
       simp
       omega
 · rw [zju h ho]
   have:=h4 ho
   unfold Ev.Snd.valid
   simp only [Bool.and_eq_true,decide_eq_true_eq,Bool.or_eq_true,Bool.not_eq_true',beq_iff_eq]
   simp
   omega
structure SpkE (c:Int) (p:Pt) (i sq:Nat):Prop where
 sp:speechB c=true
 codec:p.codec=c
 src:0≤p.src∧p.src≤4294967295
 seq:p.seq=(sq:Int)
 time:p.time=160*(i:Int)
 below:0≤p.below∧p.below≤10
 cod:Dlt.valid p.cv p.ci=true
 tv:p.tn.valid=true
 t1:0≤p.tn.vol∧p.tn.vol≤255
 t2:0≤p.tn.code∧p.tn.code≤255
 t3:0≤p.tn.start∧p.tn.start≤4294967295
 jv:Jb.valid p.jt=true
 jq:p.jt.q=[]
 tk:p.tk=Pk.Tr.zero
 ht:p.ht=0
 pk:0≤p.pk∧p.pk≤4294967295
 oc:0≤p.oc∧p.oc≤4294967295
 seed:0≤p.seed∧p.seed≤4294967295
 le:sq≤i
 i40:i≤40
section
variable {c:Int} {p:Pt} {i sq:Nat}
theorem SpkE.valid (h:SpkE c p i sq):p.valid=true:=by
 have hn:p.near:=by unfold Pt.near;rw [h.tk,h.ht];decide
 unfold Pt.valid
 rw [h.codec,h.sp,h.cod,h.jv,h.tv,decide_eq_true hn];rfl
theorem SpkE.wf (h:SpkE c p i sq):p.wf:=by
 have h1:=h.le
 have h2:=h.i40
 have h3:=h.below
 constructor
 · rw [h.codec];exact zsq h.sp
 · exact h.src
 · rw [h.seq];omega
 · rw [h.time];omega
 · omega
 · exact h.t1
 · exact h.t2
 · exact h.t3
 · exact h.seed
 · exact h.pk
 · exact h.oc
theorem SpkE.start {l m:Int} (hs:speechB c=true) (hc:Jb.cfg l m):SpkE c (new c 7 l m).1 0 0:=by
 obtain ⟨h,_⟩:=SpkI.start hs hc
 exact ⟨h.sp,h.codec,h.src,h.seq,h.time,h.below,h.cod,by rw [h.tn];exact tn0,by rw [h.tn];decide,by rw [h.tn];decide,by rw [h.tn];decide,h.jv,h.jq,h.tk,h.ht,h.pk,h.oc,h.seed,Nat.le_refl _,by omega⟩
theorem SpkE.tone (h:SpkE c p i sq) (T:Ev.Snd) (hv:T.valid=true) (h1:0≤T.vol∧T.vol≤255) (h2:0≤T.code∧T.code≤255) (h3:0≤T.start∧T.start≤4294967295):SpkE c { p with tn:=T } i sq :=
 ⟨h.sp,h.codec,h.src,h.seq,h.time,h.below,h.cod,hv,h1,h2,h3,h.jv,h.jq,h.tk,h.ht,h.pk,h.oc,h.seed,h.le,h.i40⟩
theorem SpkE.press (h:SpkE c p i sq) (code:Int) (c0:0≤code) (c1:code≤15):Sb.press p code=(if (Ev.press p.tn code 10 p.time).2=0 then { p with tn:=(Ev.press p.tn code 10 p.time).1 } else Pt.zero,(Ev.press p.tn code 10 p.time).2) ∧
 ((Ev.press p.tn code 10 p.time).2=0→SpkE c { p with tn:=(Ev.press p.tn code 10 p.time).1 } i sq):=by
 constructor
 · unfold Sb.press
   rw [if_neg (by rw [h.valid];decide),if_neg (by omega)]
   split
   · rename_i h0;rw [h0]
   · rfl
 · intro h0
   have h2:=h.i40
   have ht:=h.time
   unfold Ev.press at h0 ⊢
   rw [if_neg (by rw [h.tv];decide)] at h0 ⊢
   by_cases hb:p.tn.on=true∨p.tn.ends≠0
   · rw [if_pos hb] at h0;cases h0
   · rw [if_neg hb,if_neg (by omega)]
     exact h.tone _ (by unfold Ev.Snd.valid;simp) (by simp) (by simp;omega) (by simp;omega)
theorem SpkE.release (h:SpkE c p i sq):Sb.release p=(if (Ev.release p.tn).2=0 then { p with tn:=(Ev.release p.tn).1 } else Pt.zero,(Ev.release p.tn).2) ∧
 ((Ev.release p.tn).2=0→SpkE c { p with tn:=(Ev.release p.tn).1 } i sq):=by
 constructor
 · unfold Sb.release
   rw [if_neg (by rw [h.valid];decide)]
   split
   · rename_i h0;rw [h0]
   · rfl
 · intro h0
   obtain ⟨v1,v2,v3,v4⟩:=zfi h.tv
   unfold Ev.release at h0 ⊢
   rw [if_neg (by rw [h.tv];decide)] at h0 ⊢
   by_cases hb:p.tn.on=false
   · rw [if_pos hb] at h0;cases h0
   · rw [if_neg hb]
     exact h.tone _ (by unfold Ev.Snd.valid;simp;omega) h.t1 h.t2 h.t3
inductive SentK (c:Int) (p:Pt) (zs:List Int) (i sq:Nat) (q:Pt):List Pkt→Prop where
 | tone (k:Pkt) (h0:p.tn.on=true∨p.tn.ends≠0) (h1:q.tn=(Ev.next p.tn 160).s) (h2:q.cv=p.cv∧q.ci=p.ci) (h3:k.sq=(sq:Int)) (h4:k.ty=101) (h5:k.ti=(Ev.next p.tn 160).o.time)
  (h6:k.pl=(Ev.encT (Ev.next p.tn 160).o.tone.code (Ev.next p.tn 160).o.tone.fin (Ev.next p.tn 160).o.tone.vol (Ev.next p.tn 160).o.tone.dur).1):SentK c p zs i sq q [k]
 | noise (k:Pkt) (h0:¬(p.tn.on=true∨p.tn.ends≠0)) (h1:q.tn=p.tn) (h2:q.cv=p.cv∧q.ci=p.ci) (h3:k.sq=(sq:Int)) (h4:k.ty=13) (h5:k.ti=160*(i:Int)) (h6:∃ z,k.pl=[z]∧0≤z∧z≤255):SentK c p zs i sq q [k]
 | none (h0:¬(p.tn.on=true∨p.tn.ends≠0)) (h1:q.tn=p.tn) (h2:q.cv=p.cv∧q.ci=p.ci):SentK c p zs i sq q []
 | speech (k:Pkt) (h0:¬(p.tn.on=true∨p.tn.ends≠0)) (h1:q.tn=p.tn) (h2:q.cv=(enc c (p.cv,p.ci) zs).2.1∧q.ci=(enc c (p.cv,p.ci) zs).2.2) (h3:k.sq=(sq:Int)) (h4:k.ty=c) (h5:k.ti=160*(i:Int)) (h6:k.pl=(enc c (p.cv,p.ci) zs).1):SentK c p zs i sq q [k]
theorem SpkE.step (h:SpkE c p i sq) (zs:List Int) (hi:i<40) (hl:zs.length=160) (hz:∀ z∈zs, -32768≤z∧z≤32767) :
 (send0 p zs).2.length≤1∧SpkE c (send0 p zs).1 (i+1) (sq+(send0 p zs).2.length)∧SentK c p zs i sq (send0 p zs).1 (send0 p zs).2:=by
 have h1:=h.le
 have hb0:=h.below
 have hq:0≤Ev.quiet p.below zs∧Ev.quiet p.below zs≤10:=by unfold Ev.quiet;split<;>omega
 have a1:(p.seq+1) % 65536=((sq+1:Nat):Int):=by rw [h.seq];push_cast;omega
 have a2:(p.time+160) % 4294967296=160*((i+1:Nat):Int):=by rw [h.time];push_cast;omega
 have a3:0≤(p.pk+1) % 4294967296∧(p.pk+1) % 4294967296≤4294967295:=by omega
 by_cases ht:p.tn.on=true∨p.tn.ends≠0
 · obtain ⟨n1,n2,n3⟩:=zvw p.tn 160 h.t1 h.t2 h.t3
   have nv:=zmt p.tn h.tv
   unfold send0
   rw [if_pos ht]
   refine ⟨Nat.le_refl _,⟨h.sp,h.codec,h.src,a1,a2,⟨(by decide:(0:Int)≤0),(by decide:(0:Int)≤10)⟩,h.cod,nv,n1,n2,n3,h.jv,h.jq,h.tk,h.ht,a3,?_,h.seed,by show sq+1≤i+1;omega,by omega⟩, .tone _ ht rfl ⟨rfl,rfl⟩ h.seq rfl rfl rfl⟩
   show 0≤(p.oc+_) % 4294967296∧(p.oc+_) % 4294967296≤4294967295;omega
 by_cases h10:Ev.quiet p.below zs=10
 · unfold send0
   rw [if_neg ht,if_pos h10]
   by_cases hb:p.below<10
   · rw [if_pos hb]
     refine ⟨Nat.le_refl _,⟨h.sp,h.codec,h.src,a1,a2,hq,h.cod,h.tv,h.t1,h.t2,h.t3,h.jv,h.jq,h.tk,h.ht,a3,?_,h.seed,by show sq+1≤i+1;omega,by omega⟩, .noise _ ht rfl ⟨rfl,rfl⟩ h.seq rfl h.time ⟨_,rfl,?_⟩⟩
     · show 0≤(p.oc+_) % 4294967296∧(p.oc+_) % 4294967296≤4294967295;omega
     · have:=Ev.lev_bd zs hz
       omega
   · rw [if_neg hb]
     exact ⟨by simp,⟨h.sp,h.codec,h.src,h.seq,a2,hq,h.cod,h.tv,h.t1,h.t2,h.t3,h.jv,h.jq,h.tk,h.ht,h.pk,h.oc,h.seed,by show sq+0≤i+1;omega,by omega⟩, .none ht rfl ⟨rfl,rfl⟩⟩
 · obtain ⟨e1,e2,e3⟩:=enc_in p.codec (p.cv,p.ci) zs h.cod hl
   unfold send0
   rw [if_neg ht,if_neg h10]
   refine ⟨Nat.le_refl _,⟨h.sp,h.codec,h.src,a1,a2,hq,e3,h.tv,h.t1,h.t2,h.t3,h.jv,h.jq,h.tk,h.ht,a3,?_,h.seed,by show sq+1≤i+1;omega,by omega⟩, .speech _ ht rfl ?_ h.seq h.codec h.time ?_⟩
   · show 0≤(p.oc+_) % 4294967296∧(p.oc+_) % 4294967296≤4294967295;omega
   · rw [← h.codec];exact ⟨rfl,rfl⟩
   · rw [← h.codec];rfl
end
inductive F2 {α β : Type} (R : α → β → Prop):List α → List β → Prop where
 | nil:F2 R [] []
 | cons {a : α} {b : β} {l:List α} {m:List β} (h:R a b) (t:F2 R l m):F2 R (a::l) (b::m)
theorem F2.len {α β : Type} {R : α → β → Prop} {l:List α} {m:List β} (h:F2 R l m):l.length=m.length:=by
 induction h with
 | nil=>rfl
 | cons _ _ ih=>simp [ih]
theorem F2.append {α β : Type} {R : α → β → Prop} {l l':List α} {m m':List β} (h:F2 R l m) (h':F2 R l' m'):F2 R (l++l') (m++m'):=by
 induction h with
 | nil=>exact h'
 | cons a _ ih=>exact .cons a ih
theorem F2.split {α β : Type} {R : α → β → Prop} : ∀ {l l':List α} {m:List β}, F2 R (l++l') m→∃ m1 m2,m=m1++m2∧F2 R l m1∧F2 R l' m2
 | [],l',m,h=>⟨[],m,rfl, .nil,h⟩
 | a :: l, l', m, h => by
   cases h with
   | cons hr ht =>
     obtain ⟨m1,m2,rfl,h1,h2⟩:=F2.split ht
     exact ⟨_::m1,m2,rfl, .cons hr h1,h2⟩
theorem F2.at_ {α β : Type} {R : α → β → Prop} {l:List α} {m:List β} (h:F2 R l m):∀ {k:Nat} {a : α}, l[k]? = some a→∃ b,m[k]? = some b∧R a b:=by
 induction h with
 | nil=>intro k a h;simp at h
 | cons hr ht ih =>
   intro k a h
   cases k with
   | zero=>exact ⟨_,rfl,by simp at h;rw [← h];exact hr⟩
   | succ k=>simpa using ih (by simpa using h)
def mQ (a:Jb.Wt) (w:Sd):Prop:=a.at_=w.at_∧((speechB a.m.ty=true∧w.zs=decS a.m.ty a.m.pl∧w.zs.length=160)∨(a.m.ty=13∧a.m.pl.length=1∧w.zs=[]))
def mG (d:Sd) (w:Sd):Prop:=d.at_=w.at_∧d.zs.length=160∧(w.zs=[]∨d.zs=w.zs)
theorem zdc:∀ (l:List Jb.Wt) (s:Int) (m:List Sd),F2 mQ l m→F2 mG (sounds s l).2 m
 | [],s,m,h=>by cases h;exact .nil
 | a :: l, s, m, h => by
   cases h with
   | cons hr ht =>
     refine .cons ⟨hr.1,?_⟩ (zdc l _ _ ht)
     show (dec a.m.ty a.m.pl s).1.length=160∧(_∨(dec a.m.ty a.m.pl s).1=_)
     rcases hr.2 with ⟨h1,h2,h3⟩|⟨h1,h2,h3⟩
     · have h13:¬a.m.ty=13:=by rcases zam.1 h1 with e|e|e<;>omega
       unfold dec
       rw [if_neg h13]
       exact ⟨by rw [← h2];exact h3, .inr h2.symm⟩
     · unfold dec
       rw [if_pos h1,if_pos h2]
       refine ⟨?_, .inl h3⟩
       unfold Ev.noise
       rw [if_neg (by omega)]
       simp
def nok (d:Sd):Bool:=d.ks.length==0
theorem zmu (s:Int) (l:List Jb.Wt):(sounds s l).2.filter nok=(sounds s l).2:=by
 apply List.filter_eq_self.2
 intro d hd
 have h:=List.mem_map_of_mem (f:=fun d:Sd=>(d.at_,d.ks.length)) hd
 rw [zdb] at h
 obtain ⟨a,_,e⟩:=List.mem_map.1 h
 injection e with _ e
 unfold nok
 rw [← e];rfl
def keysL (l:List Sd):List Ev.Key:=l.flatMap fun d=>d.ks
structure LisE (ls mo trip:Int) (u:Pt) (i sq:Nat) (hi:Int):Prop where
 wf:u.wf
 sp:speechB u.codec=true
 cod:Dlt.valid u.cv u.ci=true
 tn:u.tn=Ev.Snd.zero
 tk:(sq=0∧u.tk=Pk.Tr.zero)∨(0<sq∧u.tk=⟨true,(sq:Int)-1, -1⟩)
 ht:0≤u.ht∧u.ht≤9600
 jt:Jb.EndJ ls mo trip u.jt i hi
 hi:hi≤(sq:Int)
 now:u.jt.now≤20*(i:Int)+trip
 hl:0≤u.hd.len∧u.hd.len≤65535
section
variable {ls mo trip:Int} {u:Pt} {i sq:Nat} {hi:Int}
theorem LisE.valid (h:LisE ls mo trip u i sq hi) (h6:sq≤60):u.valid=true:=by
 have h1:=h.ht
 have hn:u.near:=by
  unfold Pt.near
  rcases h.tk with ⟨_,e⟩|⟨x,e⟩
  · rw [e];show 0≤(0:Int)∧(0:Int)≤140737488355328 ∧ -1≤(0:Int)∧(0:Int)≤65535∧_;omega
  · rw [e];show 0≤(sq:Int)-1∧(sq:Int)-1≤140737488355328 ∧ -1≤(-1:Int)∧(-1:Int)≤65535∧_;omega
 have hj:Jb.valid u.jt=true:=by unfold Jb.valid;rw [decide_eq_true_iff];exact h.jt.sm.ok
 unfold Pt.valid
 rw [h.sp,h.cod,hj,h.tn,tn0,decide_eq_true hn];rfl
theorem LisE.chk (h:LisE ls mo trip u i sq hi) (h6:sq≤60) (t:Int) (h1:20*(i:Int)+trip≤t) (h2:t≤281474976710656):chkT u t=0:=by
 have:=h.now
 unfold chkT
 rw [if_neg (by rw [h.valid h6];rintro (e|e);cases e;omega),if_neg (by omega)]
theorem LisE.skip (h:LisE ls mo trip u i sq hi):LisE ls mo trip u (i+1) sq hi :=
 ⟨h.wf,h.sp,h.cod,h.tn,h.tk,h.ht,h.jt.skip (Int.le_refl _),h.hi,by have:=h.now;push_cast;omega,h.hl⟩
theorem LisE.follow (h:LisE ls mo trip u i sq hi) (h6:sq<60):Pk.follow u.tk (sq:Int)=(⟨true,(sq:Int), -1⟩,(sq:Int),true):=by
 rcases h.tk with ⟨e0,e⟩|⟨e0,e⟩
 · rw [e];unfold Pk.follow
   rw [if_neg (fun hn=>hn (by decide)),if_pos (show Pk.Tr.zero.on=false from rfl)]
 · rw [e];unfold Pk.follow
   have hok:Pk.Tr.ok ⟨true,(sq:Int)-1, -1⟩:=by unfold Pk.Tr.ok;simp only;omega
   rw [if_neg (fun hn=>hn hok),if_neg (by simp)]
   simp only [ztf ((sq:Int)-1) (sq:Int) (by omega) (by omega) (by omega) (by omega)]
   rw [if_pos (by omega),show max ((sq:Int)-1) (sq:Int)=(sq:Int) by omega]
theorem LisE.start {c l m:Int} (hs:speechB c=true) (hc:Jb.cfg l m) (t0:0≤trip):LisE l m trip (new c 7 l m).1 0 0 0:=by
 have h:=LisI.start hs hc
 have e:new c 7 l m=({ Pt.zero with codec:=c,src:=7,mrk:=true,jt:=(Jb.new l m).1,seed:=7 }, 0):=by
  unfold new
  rw [if_neg (by rw [hs];decide),if_pos hc]
 have h0:(new c 7 l m).1.hd.len=0:=by rw [e];rfl
 have h1:(new c 7 l m).1.tk=Pk.Tr.zero:=by rw [e];rfl
 have h2:(new c 7 l m).1.jt=(Jb.new l m).1:=by rw [e]
 have h3:(Jb.new l m).1.now=0:=by unfold Jb.new;rw [if_pos hc]
 exact ⟨h.wf,h.sp,h.cod,h.tn, .inl ⟨rfl,h1⟩,h.ht,by rw [h2];exact Jb.EndJ.start hc,by simp,by rw [h2,h3];simp;omega,by rw [h0];decide⟩
theorem LisE.media (h:LisE ls mo trip u i sq hi) (hi40:i<40) (hs:sq≤i) (hc:Jb.cfg ls mo) (t0:0≤trip) (t1:trip≤65535) (x:Arr) (e1:x.sq=(sq:Int)) (e2:x.ti=160*(i:Int)) (hty:speechB x.ty=true∨x.ty=13) (hpl:x.pl.length≤1500) :
 ∃ (u':Pt) (sds:List Sd),(Pk.follow u.tk x.sq).2.2=true∧(Jb.put u.jt (20*(i:Int)+trip) ⟨(Pk.follow u.tk x.sq).2.1,time u x,x.mrk,x.ty,x.pl⟩).2.2.2=0∧recv0 u (20*(i:Int)+trip) x=(u',1,sds)∧u'.hd=u.hd ∧
  LisE ls mo trip u' (i+1) (sq+1) ((sq:Int)+1)∧sds=(sounds u.seed (Jb.due (20*(i:Int)+trip) u.jt.q)).2∧u'.jt.q=Jb.left (20*(i:Int)+trip) u.jt.q ++ [⟨20*(i:Int)+trip+ls,⟨x.sq,x.ti,x.mrk,x.ty,x.pl⟩⟩]:=by
 have hf:=h.follow (by omega)
 rw [← e1] at hf
 have hti:time u x=x.ti:=by
  unfold time
  split
  · exact ztg _ _ h.ht.1 h.ht.2 (by omega) (by omega)
  · rfl
 obtain ⟨m,hm⟩:∃ m:Jb.Md,m=⟨x.sq,x.ti,x.mrk,x.ty,x.pl⟩:=⟨_,rfl⟩
 have hmo:m.ok:=by rw [hm];unfold Jb.Md.ok;simp only;omega
 obtain ⟨s',hput,hq,hnow,_,hE⟩:=h.jt.put hi40 hc t0 t1 h.now m hmo (by rw [hm];exact e2) (by rw [hm];have:=h.hi;show hi≤x.sq;omega)
 have hk:known x≠false:=by
  unfold known
  rcases hty with e|e
  · rw [e];simp
  · rw [e];simp
 have h101:¬x.ty=101:=by
  rcases hty with e|e
  · rcases zam.1 e with e|e|e<;>omega
  · omega
 refine ⟨{ u with tk:=⟨true,x.sq, -1⟩,ht:=if u.tk.on=false∨u.ht<x.ti then x.ti else u.ht,st:=Rep.arrive u.st x.sq (8*(20*(i:Int)+trip)) x.ti,jt:=s',seed:=(sounds u.seed (Jb.due (20*(i:Int)+trip) u.jt.q)).1 }, _,by rw [hf],by rw [hf,hti,← hm,hput],?_,rfl,⟨?_,h.sp,h.cod,h.tn, .inr ⟨by omega,?_⟩,?_,?_,by push_cast;omega,?_,h.hl⟩,rfl,?_⟩
 · unfold recv0
   rw [if_neg hk]
   simp only [hf,hti]
   rw [if_neg (by decide),if_neg h101,← hm,hput]
 · exact ⟨h.wf.codec,h.wf.src,h.wf.seq,h.wf.time,h.wf.below,h.wf.tvol,h.wf.tcode,h.wf.tst,zbb _ _ h.wf.seed,h.wf.pk,h.wf.oc⟩
 · show (⟨true,x.sq, -1⟩:Pk.Tr)=⟨true,((sq+1:Nat):Int)-1, -1⟩
   rw [e1];congr 1;push_cast;omega
 · show 0≤(if u.tk.on=false∨u.ht<x.ti then x.ti else u.ht)∧(if u.tk.on=false∨u.ht<x.ti then x.ti else u.ht)≤9600
   have:=h.ht
   split<;>omega
 · have hE2:Jb.EndJ ls mo trip s' (i+1) (x.sq+1):=by rw [hm] at hE;exact hE
   rw [e1] at hE2;exact hE2
 · show s'.now≤_
   rw [hnow];push_cast;omega
 · rw [hq,hm]
theorem LisE.tone (h:LisE ls mo trip u i sq hi) (hi40:i<40) (hs:sq≤i) (t0:0≤trip) (t1:trip≤65535) (x:Arr) (e1:x.sq=(sq:Int)) (hty:x.ty=101) (t:Ev.Tone) (hd:Ev.decT x.pl=(t,0)) (hd0:0≤t.dur) (hd1:t.dur≤65535) :
 ∃ (u':Pt) (sds:List Sd),(Pk.follow u.tk x.sq).2.2=true∧(Jb.run u.jt (20*(i:Int)+trip)).2.2=0∧recv0 u (20*(i:Int)+trip) x=(u',1,sds)∧u'.hd=(Ev.hear u.hd x.ti t).1 ∧
  LisE ls mo trip u' (i+1) (sq+1) hi∧sds=(sounds u.seed (Jb.due (20*(i:Int)+trip) u.jt.q)).2++(if (Ev.hear u.hd x.ti t).2=[] then [] else [⟨20*(i:Int)+trip,[],(Ev.hear u.hd x.ti t).2⟩])∧u'.jt.q=Jb.left (20*(i:Int)+trip) u.jt.q:=by
 have hf:=h.follow (by omega)
 rw [← e1] at hf
 have hr:Jb.run u.jt (20*(i:Int)+trip)=(Jb.run0 u.jt (20*(i:Int)+trip),Jb.due (20*(i:Int)+trip) u.jt.q,0):=by
  unfold Jb.run;rw [Jb.chk_run h.jt.sm.ok h.now (by omega),if_pos rfl]
 have hk:known x≠false:=by
  unfold known
  rw [hd,hty];simp
 have hE:=(h.jt.run (by omega) (20*(i:Int)+trip) h.now (by omega))
 refine ⟨{ u with tk:=⟨true,x.sq, -1⟩,jt:=Jb.run0 u.jt (20*(i:Int)+trip),seed:=(sounds u.seed (Jb.due (20*(i:Int)+trip) u.jt.q)).1,hd:=(Ev.hear u.hd x.ti t).1 }, _,by rw [hf],by rw [hr],?_,rfl,⟨?_,h.sp,h.cod,h.tn, .inr ⟨by omega,?_⟩,h.ht,hE,by have:=h.hi;push_cast;omega,?_,?_⟩,rfl,rfl⟩
 · unfold recv0
   rw [if_neg hk]
   simp only [hf]
   rw [if_neg (by decide),if_pos hty,hd]
   unfold run
   simp only
   rw [hr]
 · exact ⟨h.wf.codec,h.wf.src,h.wf.seq,h.wf.time,h.wf.below,h.wf.tvol,h.wf.tcode,h.wf.tst,zbb _ _ h.wf.seed,h.wf.pk,h.wf.oc⟩
 · show (⟨true,x.sq, -1⟩:Pk.Tr)=⟨true,((sq+1:Nat):Int)-1, -1⟩
   rw [e1];congr 1;push_cast;omega
 · show (Jb.run0 u.jt (20*(i:Int)+trip)).now≤_
   show 20*(i:Int)+trip≤_
   push_cast;omega
 · show 0≤(Ev.hear u.hd x.ti t).1.len∧(Ev.hear u.hd x.ti t).1.len≤65535
   have hl:=h.hl
   unfold Ev.hear
   split
   · exact ⟨hd0,hd1⟩
   split
   · show 0≤max u.hd.len t.dur∧max u.hd.len t.dur≤65535;omega
   · exact hl
end
def MI (q:List Jb.Wt) (got want:List Sd):Prop:=∃ wg wq,want=wg++wq∧F2 mG (got.filter nok) wg∧F2 mQ q wq
theorem MI.nil:MI [] [] []:=⟨[],[],rfl, .nil, .nil⟩
theorem MI.due {q:List Jb.Wt} {got want:List Sd} (h:MI q got want) (now s:Int) (more:List Sd) (hm:more.filter nok=[]):MI (Jb.left now q) (got++((sounds s (Jb.due now q)).2++more)) want:=by
 obtain ⟨wg,wq,rfl,h1,h2⟩:=h
 rw [← Jb.due_left now q] at h2
 obtain ⟨m1,m2,rfl,h3,h4⟩:=F2.split h2
 refine ⟨wg++m1,m2,by rw [List.append_assoc],?_,h4⟩
 rw [List.filter_append,List.filter_append,hm,List.append_nil,zmu]
 exact h1.append (zdc _ _ _ h3)
theorem MI.put {q:List Jb.Wt} {got want:List Sd} (h:MI q got want) (a:Jb.Wt) (w:Sd) (hw:mQ a w):MI (q ++ [a]) got (want ++ [w]):=by
 obtain ⟨wg,wq,rfl,h1,h2⟩:=h
 exact ⟨wg,wq ++ [w],by rw [List.append_assoc],h1,h2.append (.cons hw .nil)⟩
theorem MI.done {got want:List Sd} (h:MI [] got want):F2 mG (got.filter nok) want:=by
 obtain ⟨wg,wq,rfl,h1,h2⟩:=h
 cases h2
 rw [List.append_nil]
 exact h1
theorem encS_len (c:Int) (s:Int×Int) (zs:List Int) (hs:speechB c=true) (hv:Dlt.valid s.1 s.2=true) (hl:zs.length=160):(decS c (enc c s zs).1).length=160:=by
 rcases zam.1 hs with rfl|rfl|rfl
 · simp [decS,enc,hl]
 · simp [decS,enc,hl]
 · show (decS 96 (Dlt.packB s zs)).length=160
   unfold decS
   rw [if_neg (by decide),if_neg (by decide),if_pos rfl]
   have hf:Dlt.fits (Dlt.packB s zs) 160:=by
    have h : -32768≤s.1∧s.1≤32767∧0≤s.2∧s.2≤88:=by simpa [Dlt.valid,and_assoc] using hv
    refine ⟨by rw [Dlt.packB_len,hl],?_,?_,fun h=>by omega⟩
    · rw [Dlt.packB_at s zs 2 (by omega)];show s.2≤88;omega
    · rw [Dlt.packB_at s zs 3 (by omega)];rfl
   rw [if_pos hf]
   unfold Dlt.unpackL
   simp
end Go.Proofs.YtbcgnddpkiemoaaGreat.Sb
namespace Go.Proofs.YtbcgnddpkiemoaaGreat
attribute [local go_sem ↓] zab zac
attribute [local go_sem] zaa zad
open Go.RowKit
def Ev.Snd.row (s:Ev.Snd):Array Value := #[.bool s.on, .int .u8 s.code, .int .u8 s.vol, .int .u32 s.start, .int .i64 s.len, .int .i64 s.ends]
section
variable (on:Bool) (code vol start len ends c v t n:Int) (w:World)
theorem zfj :
 Calls Tryz.prog 85 #[.agg #[.bool on, .int .u8 code, .int .u8 vol, .int .u32 start, .int .i64 len, .int .i64 ends]] w fun e w'=>e = .returned (.bool (Ev.Snd.valid ⟨on,code,vol,start,len,ends⟩))∧w.alloc (.cells #[.bool on, .int .u8 code, .int .u8 vol, .int .u32 start, .int .i64 len, .int .i64 ends] 32)=w':=by
 cases on
 all_goals
  go_enter Tryz.func85,Tryz.ntmps85
  go_wp2
  all_goals go_ret
  all_goals refine ⟨?_,rfl⟩
  all_goals (simp_all [Ev.Snd.valid])
  all_goals omega
theorem zjv :
 Calls Tryz.prog 81 #[.agg #[.bool on, .int .u8 code, .int .u8 vol, .int .u32 start, .int .i64 len, .int .i64 ends]] w fun e w'=>e = .returned (.tuple #[.agg (Ev.release ⟨on,code,vol,start,len,ends⟩).1.row, .int .u8 (Ev.release ⟨on,code,vol,start,len,ends⟩).2])∧Below w.heap.size w w':=by
 have k1:=Z9 fun W=>zfj on code vol start len ends W
 obtain ⟨R,hR⟩:∃ R,R=Ev.release ⟨on,code,vol,start,len,ends⟩:=⟨_,rfl⟩
 rw [← hR]
 obtain ⟨V,hV⟩:∃ V,V=Ev.Snd.valid ⟨on,code,vol,start,len,ends⟩:=⟨_,rfl⟩
 unfold Ev.release at hR
 rw [← hV] at k1 hR
 have HR:=Z9 hR
 clear hV hR
 cases V<;>cases on
 all_goals
  go_enter Tryz.func81,Tryz.ntmps81
  go_wp2_with (go_at_call 85;refine (k1.out _).mono ?_;rintro e w1 ⟨rfl,rfl⟩)
  all_goals
   refine bodyPost_ret (v := .tuple #[.agg R.1.row, .int .u8 R.2]) ?_ rfl ⟨rfl,?_⟩
   · have hR:=HR.out
     first
      | (simp_all [results,Tryz.results81,go_sem,Ev.Snd.zero,Ev.Snd.row];done)
      | (simp_all [results,Tryz.results81,go_sem,Ev.Snd.zero,Ev.Snd.row];(repeat' split)<;>first|omega|(simp_all;done)|(simp_all;omega))
   · repeat (first|exact Below.refl _ _|refine Below.drew ?_|refine Below.setCell ?_ (by simp) _|refine Below.alloc ?_ (by simp;try omega) _)
end
section
variable {α : Type} {row : α → List Value} {w:World} {B size:Nat} {A:Option Addr} {l:List α}
theorem RowsAt.take (h:RowsAt w B size row A l) (n:Nat):RowsAt w B size row A (l.take n):=fun h0=>by
 obtain ⟨b,off,rfl,hb,hc⟩:=h (by simp at h0;omega)
 refine ⟨b,off,rfl,hb,fun i a ha j v hv=>hc i a ?_ j v hv⟩
 rw [List.getElem?_take] at ha
 split at ha
 · exact ha
 · cases ha
theorem RowsAt.dropAt {b off:Nat} (h:RowsAt w B size row (some ⟨b,off,none⟩) l) (n:Nat):RowsAt w B size row (some ⟨b,off+n*size,none⟩) (l.drop n):=fun h0=>by
 obtain ⟨b',off',e,hb,hc⟩:=h (by simp at h0;omega)
 injection e with e
 injection e with e1 e2
 subst e1 e2
 refine ⟨b,off+n*size,rfl,hb,fun i a ha j v hv => ?_⟩
 rw [List.getElem?_drop] at ha
 have:=hc (n+i) a ha j v hv
 rw [← this]
 congr 2
 rw [Nat.add_mul];omega
end
theorem Wts.take {w:World} {B:Nat} {A:Option Addr} {l:List TW} (h:Wts w B A l) (n:Nat):Wts w B A (l.take n):=⟨h.1.take n,fun a ha=>h.2 a (List.mem_of_mem_take ha)⟩
theorem Wts.dropAt {w:World} {B b off:Nat} {l:List TW} (h:Wts w B (some ⟨b,off,none⟩) l) (n:Nat):Wts w B (some ⟨b,off+n*6,none⟩) (l.drop n):=⟨h.1.dropAt n,fun a ha=>h.2 a (List.mem_of_mem_drop ha)⟩
theorem Wts.form {w:World} {B:Nat} {A:Option Addr} {l:List TW} (h:Wts w B A l):l=[]∨∃ b off,A=some ⟨b,off,none⟩:=by
 rcases Nat.eq_zero_or_pos l.length with h0|h0
 · exact .inl (List.eq_nil_of_length_eq_zero h0)
 · obtain ⟨b,off,e,_⟩:=h.1 h0
   exact .inr ⟨b,off,e⟩
theorem Wts.empty {w:World} {B:Nat} {A:Option Addr} : Wts w B A []:=⟨RowsAt.nil,fun _ h=>by cases h⟩
structure WtsIn (w:World) (lo hi:Nat) (A:Option Addr) (l:List TW):Prop where
 rows:Wts w hi A l
 low:0<l.length→∀ b off,A=some ⟨b,off,none⟩→lo≤b
 plow:∀ a∈l,0<a.w.m.pl.length→∀ b off,a.B=some ⟨b,off,none⟩→lo≤b
 cap:∀ a∈l,a.w.m.pl.length≤a.c
theorem WtsIn.keep {w w':World} {lo hi:Nat} {A:Option Addr} {l:List TW} (h:WtsIn w lo hi A l) (hk:∀ p:Addr,lo≤p.block→p.block<hi→w'.cell? p=w.cell? p):WtsIn w' lo hi A l:=by
 refine ⟨⟨fun h0 => ?_,fun a ha h0 => ?_⟩,h.low,h.plow,h.cap⟩
 · obtain ⟨b,off,rfl,hb,hc⟩:=h.rows.1 h0
   have hlo:=h.low h0 b off rfl
   exact ⟨b,off,rfl,hb,fun i a ha j v hv=>(hk _ hlo hb).trans (hc i a ha j v hv)⟩
 · obtain ⟨b,off,e,hb,hc⟩:=h.rows.2 a ha h0
   have hlo:=h.plow a ha h0 b off e
   exact ⟨b,off,e,hb,fun i hi=>(hk _ hlo hb).trans (hc i hi)⟩
theorem WtsIn.more {w:World} {lo hi hi':Nat} {A:Option Addr} {l:List TW} (h:WtsIn w lo hi A l) (hl:hi≤hi'):WtsIn w lo hi' A l:=⟨h.rows.more hl,h.low,h.plow,h.cap⟩
theorem WtsIn.empty {w:World} {lo hi:Nat} : WtsIn w lo hi none []:=⟨Wts.nil,fun h=>absurd h (by simp),(fun _ h=>by cases h),fun _ h=>by cases h⟩
theorem WtsIn.less {w:World} {lo lo' hi:Nat} {A:Option Addr} {l:List TW} (h:WtsIn w lo hi A l) (hl:lo'≤lo):WtsIn w lo' hi A l :=
 ⟨h.rows,fun h0 b off e=>Nat.le_trans hl (h.low h0 b off e),fun a ha h0 b off e=>Nat.le_trans hl (h.plow a ha h0 b off e),h.cap⟩
theorem WtsIn.setCell {w:World} {lo hi:Nat} {A:Option Addr} {l:List TW} (h:WtsIn w lo hi A l) {p:Addr} (hp:p.block<lo) (u:Value):WtsIn (w.setCell p u) lo hi A l :=
 h.keep fun q hq _=>World.cell?_setCell_other w p q u (fun e=>by subst e;omega)
theorem WtsIn.below {w w':World} {lo hi:Nat} {A:Option Addr} {l:List TW} (h:WtsIn w lo hi A l) {B:Nat} (hb:Below B w w') (hB:hi≤B):WtsIn w' lo hi A l:=h.keep fun q _ hq=>hb.cell (by omega)
theorem QOwn.wtsIn {w:World} {base n c:Nat} {A:Option Addr} {l:List TW} (h:QOwn w base A n c l):WtsIn w base w.heap.size A l :=
 ⟨h.wts,fun h0 b off e=>(h.own.block b (by rw [e];rfl)).1,h.new,h.cap⟩
theorem QOwn.setCell {w:World} {base n c:Nat} {A:Option Addr} {l:List TW} (h:QOwn w base A n c l) {p:Addr} (hp:p.block<base) (u:Value):QOwn (w.setCell p u) base A n c l:=by
 refine ⟨h.len,h.own.setCell (fun g hg e => ?_) u,fun a ha h0 => ?_,h.far,h.new,h.cap⟩
 · have:=(h.own.block g hg).1
   omega
 · obtain ⟨b,off,e,hb,hc⟩:=h.pay a ha h0
   have hlo:=h.new a ha h0 b off e
   exact ⟨b,off,e,by simpa [World.setCell] using hb,fun i hi=>(World.cell?_setCell_other w p _ u (fun e=>by subst e;simp at hp;omega)).trans (hc i hi)⟩
theorem QOwn.push {w:World} {base n c:Nat} {A:Option Addr} {l:List TW} (h:QOwn w base A n c l) (o:Obj):QOwn (w.alloc o) base A n c l:=h.below ((Below.refl _ _).alloc (Nat.le_refl _) _)
theorem QOwn.setRow {base n c g:Nat} {A:Option Addr} {l:List TW} (hg:g<base):∀ (vs:List Value) (w:World) (i:Nat),QOwn w base A n c l→QOwn (Go.Proofs.YtbcgnddpkiemoaaGreat.setRow g w i vs) base A n c l
 | [],_,_,h=>h
 | v::vs,w,i,h=>QOwn.setRow hg vs _ (i+1) (QOwn.setCell h (by exact hg) v)
theorem WtsIn.setRow {lo hi g:Nat} {A:Option Addr} {l:List TW} (hg:g<lo):∀ (vs:List Value) (w:World) (i:Nat),WtsIn w lo hi A l→WtsIn (Go.Proofs.YtbcgnddpkiemoaaGreat.setRow g w i vs) lo hi A l
 | [],_,_,h=>h
 | v::vs,w,i,h=>WtsIn.setRow hg vs _ (i+1) (WtsIn.setCell h (by exact hg) v)
def QueueN (n:Nat) (q:List Jb.Wt) (w:World) (e:Ending) (w':World):Prop :=
 ∃ (A':Option Addr) (c':Nat) (l':List TW),e = .returned (.slice A' n c')∧l'.map TW.w=q∧QOwn w' w.heap.size A' n c' l'∧Below w.heap.size w w'
theorem zfk (A:Option Addr) (l:List TW) (n c:Nat) (w:World) (B:Nat) (hB:B≤w.heap.size) (hn:l.length=n) (hl:n≤100000) (hA:Wts w B A l) (hp:∀ a∈l,a.w.m.pl.length≤1000000) (q:List Jb.Wt) (hq:l.map TW.w=q):Calls Tryz.prog 127 #[.slice A n c] w (QueueN n q w):=by
 refine (zgs A l n c w hn hl (hA.more hB) hp).mono ?_
 rintro e w' ⟨A',c',l',rfl,h1,h2,h3⟩
 rw [hn] at h2
 exact ⟨A',c',l',by rw [hn],h1.trans hq,h2,h3⟩
def RunR (le mo:Int) (on:Bool) (ze fi hi dn sp tr:Int) (q:List Jb.Wt) (la tw pd now:Int) (w:World) (e:Ending) (w':World):Prop :=
 ∃ (A1:Option Addr) (c1:Nat) (l1:List TW) (A2:Option Addr) (c2:Nat) (l2:List TW) (B:Nat),
  e = .returned (.tuple #[.agg #[.int .i64 le, .int .i64 mo, .int .i64 now, .bool on, .int .i64 ze, .int .i64 fi, .int .i64 hi, .int .i64 (Jb.maxSq dn (Jb.due now q)), .int .i64 sp, .int .i64 tr, .slice A2 l2.length c2, .int .i64 la, .int .i64 tw, .int .i64 (pd+(Jb.due now q).length)], .slice A1 l1.length c1]) ∧
  l1.map TW.w=Jb.due now q∧l2.map TW.w=Jb.left now q∧WtsIn w' w.heap.size B A1 l1∧QOwn w' B A2 l2.length c2 l2∧w.heap.size≤B∧B≤w'.heap.size∧(l1.length≤c1∧c1≤maxLen)∧Below w.heap.size w w'
theorem zsr (now:Int) (q:List Jb.Wt):Jb.due now q=q.take (Jb.due now q).length∧Jb.left now q=q.drop (Jb.due now q).length:=by
 have h:=Jb.due_left now q
 constructor
 · conv=>rhs;arg 2;rw [← h]
   rw [List.take_left]
 · conv=>rhs;arg 2;rw [← h]
   rw [List.drop_left]
theorem zmv (d:Int) (l:List Jb.Wt) (x:Jb.Wt):Jb.maxSq d (l ++ [x])=max (Jb.maxSq d l) x.m.sq:=by unfold Jb.maxSq;rw [List.foldl_append];rfl
end Go.Proofs.YtbcgnddpkiemoaaGreat
namespace Go.Proofs.YtbcgnddpkiemoaaGreat
open Go Go.RowKit
open Go.Maps (Keyed)
theorem zdd {H:Type} {P:Program} {e:TypeId} (he:P.underlying e=some .bool) {v:Value} {z:DataW H×List MemPlace} (h:plainElem P e v=some z):∃ x,v = .bool x∧z=(.lit (.bool x),[]):=by
 unfold plainElem at h
 rw [he] at h
 cases v<;>simp at h
 case bool x=>exact ⟨x,rfl,h.symm⟩
def sqMap (H:Type) (l:List Int):DataW H:=l.foldl (fun D s=>D.put (.int .i64 s) (.lit (.bool true))) (.map [])
theorem zdr (H:Type) (l:List Int) (s:Int):sqMap H (l ++ [s])=(sqMap H l).put (.int .i64 s) (.lit (.bool true)):=by simp [sqMap,List.foldl_append]
theorem zky (H:Type):∀ (n:Nat) (l:List Int),l.length=n→Maps.IsMap (sqMap H l)
 | 0, l, h => by
   obtain rfl:=List.eq_nil_of_length_eq_zero h
   exact Maps.isMap_empty
 | n + 1, l0, h => by
   obtain ⟨l,s,rfl⟩:∃ a b,l0=a ++ [b]:=⟨l0.dropLast,l0.getLast (by intro e;rw [e] at h;simp at h),(List.dropLast_concat_getLast _).symm⟩
   rw [zdr]
   exact (zky H n l (by simpa using h)).put _ _
theorem zkz (H:Type) (s:Int):∀ (n:Nat) (l:List Int),l.length=n→(sqMap H l).atKey (.int .i64 s) (.lit (.bool false)) = .lit (.bool (l.any fun x=>x==s))
 | 0, l, h => by
   obtain rfl:=List.eq_nil_of_length_eq_zero h
   rfl
 | n + 1, l0, h => by
   obtain ⟨l,x,rfl⟩:∃ a b,l0=a ++ [b]:=⟨l0.dropLast,l0.getLast (by intro e;rw [e] at h;simp at h),(List.dropLast_concat_getLast _).symm⟩
   have hl:l.length=n:=by simpa using h
   rw [zdr]
   by_cases hx:x=s
   · subst hx
     rw [Maps.atKey_put_same (k := .int .i64 x) (zky H n l hl) (by unfold WideAt.IsKeyLit;trivial)]
     simp
   · rw [Maps.atKey_put_other (fun e=>hx (by injection e with _ e;exact e.symm)),zkz H s n l hl]
     simp [hx]
end Go.Proofs.YtbcgnddpkiemoaaGreat
namespace Go.Proofs.YtbcgnddpkiemoaaGreat
attribute [local go_sem ↓] zab zac
attribute [local go_sem] zaa zad
open Go.RowKit
theorem zde {H:Type} {P:Program} {k:TypeId} {R:Value→Option (DataW H×List MemPlace)} {w w':World} {b n:Nat} {D:DataW H} (h:w.ownsMap P k R b n D) (hb:Below w.heap.size w w'):w'.ownsMap P k R b n D:=by
 have hlt:=h.lt
 obtain ⟨es,clock,h1,r⟩:=h
 exact ⟨es,clock,(hb.block b hlt).trans h1,r⟩
theorem zxq {z:Int} (h:I64 z):(Lit.int .i64 z).wf=true:=by
 obtain ⟨h1,h2⟩:=h
 have e1:IntKind.i64.min = -9223372036854775808:=by decide
 have e2:IntKind.i64.max=9223372036854775807:=by decide
 simp [Lit.wf,e1,e2,h1,h2]
theorem zij (w:World):(zeroValue 4).run Tryz.prog w = .ok (.bool false) w:=by kernel_rfl
theorem zjw:Maps.Keyed Tryz.prog 2:=Maps.int_keyed Tryz.underlying2
theorem zik {H:Type} {P:Program} {w:World} {k e t:TypeId} {b n:Nat} {D:DataW H} (h:w.ownsMap P k (plainElem P e) b n D) (K:Maps.Keyed P k) (ht:P.underlying t=some (.map k e)) (he:P.underlying e=some .bool) (hz:(zeroValue e).run P w = .ok (.bool false) w)
 {key:Value} {kl:Lit} (hkey:keyOf P k key=some kl) (c:Bool) (hc:D.atKey kl (.lit (.bool false)) = .lit (.bool c)):(Instr.lookup t (.map (some b)) key false).run P w = .ok (.bool c) w:=by
 obtain ⟨v,ps,hrun,hv⟩:=h.lookup K ht hz (plainElem_bool he false) hkey
 obtain ⟨c',rfl,hc'⟩:=zdd he hv
 injection hc' with hc' _
 rw [hc] at hc'
 injection hc' with hc'
 injection hc' with hc'
 rw [hrun,hc']
def QTest (nw hi:Int) (a:Jb.Wt):Prop:=a.m.ok∧nw<a.at_∧a.at_≤562949953421312∧a.m.sq≤hi
theorem zvy (nw hi:Int) (q:List Jb.Wt) (k:Nat) (a:Jb.Wt) (h:q[k]? = some a):Jb.okAt nw hi q k↔(a.m.ok∧nw<a.at_∧a.at_≤562949953421312∧a.m.sq≤hi)∧(((q.take k).map fun x=>x.m.sq).any fun x=>x==a.m.sq)=false∧(0<k→Jb.bef (q.getD (k-1) Jb.Wt.zero) a):=by
 have hk:k<q.length:=(List.getElem?_eq_some_iff.1 h).1
 have e:q.getD k Jb.Wt.zero=a:=by simp [List.getD_eq_getElem?_getD,h]
 unfold Jb.okAt
 rw [e]
 constructor
 · rintro ⟨h1,h2,h3,h4,h5,h6⟩
   refine ⟨⟨h1,h2,h3,h4⟩,?_,h5⟩
   rw [List.any_eq_false]
   intro x hx
   obtain ⟨y,hy,rfl⟩:=List.mem_map.1 hx
   obtain ⟨i,hi',rfl⟩:=List.getElem_of_mem hy
   have hik:i<k:=by simp at hi';omega
   have:=h6 i hik
   rw [Jb.getD_eq (by omega)] at this
   rw [List.getElem_take]
   simpa using this
 · rintro ⟨⟨h1,h2,h3,h4⟩,h5,h6⟩
   refine ⟨h1,h2,h3,h4,h6,fun i hik => ?_⟩
   rw [List.any_eq_false] at h5
   have:=h5 (q.getD i Jb.Wt.zero).m.sq (List.mem_map.2 ⟨q.getD i Jb.Wt.zero,?_,rfl⟩)
   · simpa using this
   · rw [Jb.getD_eq (by omega)]
     exact List.mem_take_iff_getElem.2 ⟨i,by omega,rfl⟩
theorem zcp (le mo nw:Int) (on:Bool) (ze fi hi dn sp tr:Int) (A:Option Addr) (l:List TW) (n qc:Nat) (la tw pd:Int) (w:World) (hn:l.length=n) (hl:n≤100000) (hA:Wts w w.heap.size A l) (hK:∀ a∈l,I64 a.w.m.sq) (v:Bool) (hv:v=decide (Jb.okQ nw hi (l.map TW.w))):Calls Tryz.prog 119 #[.agg #[.int .i64 le, .int .i64 mo, .int .i64 nw, .bool on, .int .i64 ze, .int .i64 fi, .int .i64 hi, .int .i64 dn, .int .i64 sp, .int .i64 tr, .slice A n qc, .int .i64 la, .int .i64 tw, .int .i64 pd]] w fun e w'=>e = .returned (.bool v)∧Below w.heap.size w w':=by
 subst hn
 have HA:=Z9 hA
 have HK:=Z9 hK
 have HV:=Z9 hv
 have hmm:=@run_makeMap Tryz.prog
 clear hA hK hv
 by_cases h200:l.length≤200
 rotate_left
 · have hv:v=false:=by rw [HV.out,decide_eq_false_iff_not];intro h;exact h200 (by simpa using h.1)
   subst hv
   have h201:(200:Int)<(l.length:Int):=by omega
   go_enter Tryz.func119,Tryz.ntmps119
   go_wp2_with fail
   go_ret
   exact ⟨rfl,(Below.refl _ _).alloc (Nat.le_refl _) _⟩
 have h201:(l.length:Int)≤(200:Int):=by omega
 go_enter Tryz.func119,Tryz.ntmps119
 go_wp2_with fail
 go_loopg [14] l.length (fun gk i wr => ∃ k:Nat,gk+k=l.length∧i = .int .i64 k∧Hid (∀ j,j<k→Jb.okAt nw hi (l.map TW.w) j)∧Hid (wr.ownsMap Tryz.prog 2 (plainElem (H:=Unit) Tryz.prog 4) (w.heap.size+1) k (sqMap Unit (((l.map TW.w).take k).map fun x=>x.m.sq)))∧Hid (Blk wr w.heap.size 37 #[.int .i64 le, .int .i64 mo, .int .i64 nw, .bool on, .int .i64 ze, .int .i64 fi, .int .i64 hi, .int .i64 dn, .int .i64 sp, .int .i64 tr, .slice A l.length qc, .int .i64 la, .int .i64 tw, .int .i64 pd])∧Hid (Bel w wr))
 case atStart =>
  refine ⟨0,rfl,rfl,Z9 (fun j h=>absurd h (by omega)),Z9 ?_,Z9 (Blk.push (Blk.new w _ _) _),Z9 (((Bel.refl w).push _).push _)⟩
  have:=World.ownsMap_made (w.alloc (.cells #[.int .i64 le, .int .i64 mo, .int .i64 nw, .bool on, .int .i64 ze, .int .i64 fi, .int .i64 hi, .int .i64 dn, .int .i64 sp, .int .i64 tr, .slice A l.length qc, .int .i64 la, .int .i64 tw, .int .i64 pd] 37)) Tryz.prog 2 (plainElem (H:=Unit) Tryz.prog 4)
  rw [zar] at this
  exact this
 case round =>
  obtain ⟨k,hgk,rfl,HT,HM,BS,U⟩:=hrel
  have hi0:(0:Int)≤(k:Int):=by omega
  by_cases hk:k<l.length
  rotate_left
  · obtain rfl:k=l.length:=by omega
    have hi1:(l.length:Int)≤(l.length:Int):=Int.le_refl _
    have hv:v=true:=by rw [HV.out,decide_eq_true_iff];exact ⟨by simpa using h200,fun j hj=>HT.out j (by simpa using hj)⟩
    subst hv
    go_wp2_with fail
    go_ret
    exact ⟨rfl,U.out⟩
  have hi1:(k:Int)<(l.length:Int):=by omega
  obtain ⟨a,ha⟩:∃ a,l[k]? = some a:=⟨_,List.getElem?_eq_getElem hk⟩
  obtain ⟨b,off,rfl,hbB,e0,e1,e2,e3,e4,e5⟩:=zen (HA.out.1.keep (fun p hp=>U.out.cell hp)) ha
  have hka:=HK.out a (List.mem_of_getElem? ha)
  have hm:(l.map TW.w)[k]? = some a.w:=by rw [List.getElem?_map,ha];rfl
  have HN:Hid (¬Jb.okAt nw hi (l.map TW.w) k→v=false):=Z9 (fun hnot=>by rw [HV.out,decide_eq_false_iff_not];intro h;exact hnot (h.2 k (by simpa using hk)))
  have HO:=Z9 (zvy nw hi (l.map TW.w) k a.w hm)
  have HMM:=Z9 hm
  obtain ⟨⟨at0,⟨sq0,ti0,mk0,ty0,pl0⟩⟩,B0,c0⟩:=a
  simp only at e0 e1 e2 e3 e4 e5 hka HO HMM
  have hkey:=Maps.keyOf_int_mk (P:=Tryz.prog) Tryz.underlying2 (zxq hka)
  have p2:=BS.out.at 2 _ rfl
  have p6:=BS.out.at 6 _ rfl
  have p10:=BS.out.at 10 _ rfl
  have hlt:=BS.out.lt
  clear ha hm hka
  obtain ⟨fv,hfv⟩:∃ fv,fv=decide ((0≤sq0∧sq0≤281474976710656)∧(-281474976710656≤ti0∧ti0≤281474976710656)∧pl0.length≤1500):=⟨_,rfl⟩
  have k1:=Z9 fun W=>zfs sq0 ti0 mk0 ty0 B0 pl0.length c0 W fv hfv
  have HF:Hid (fv=decide (Jb.Md.ok ⟨sq0,ti0,mk0,ty0,pl0⟩)):=Z9 hfv
  clear hfv
  cases fv
  · have hv:v=false:=HN.out (fun h=>by have:=(HO.out.1 h).1.1;have hf:=HF.out;rw [eq_comm,decide_eq_false_iff_not] at hf;exact hf this)
    subst hv
    go_wp2_with fail
    refine (k1.out _).mono ?_
    rintro e w1 ⟨rfl,hb1⟩
    have U1:=Z9 ((U.out.push (.cells #[.int .i64 at0, .int .i64 sq0, .int .i64 ti0, .bool mk0, .int .u8 ty0, .slice B0 pl0.length c0] 220)).later hb1)
    clear hb1
    go_wp2_with fail
    go_ret
    exact ⟨rfl,U1.out⟩
  have hW:Blk (wr.alloc (.cells #[.int .i64 at0, .int .i64 sq0, .int .i64 ti0, .bool mk0, .int .u8 ty0, .slice B0 pl0.length c0] 220)) wr.heap.size 220 #[.int .i64 at0, .int .i64 sq0, .int .i64 ti0, .bool mk0, .int .u8 ty0, .slice B0 pl0.length c0]:=Blk.new wr _ _
  have BX:=Z9 hW
  have hok:Jb.Md.ok ⟨sq0,ti0,mk0,ty0,pl0⟩:=by have hf:=HF.out;rw [eq_comm,decide_eq_true_iff] at hf;exact hf
  have HOK:=Z9 hok
  clear hW hok HF
  by_cases c1:at0≤nw
  · have hv:v=false:=HN.out (fun h=>by have h9:nw<at0:=(HO.out.1 h).1.2.1;omega)
    subst hv
    go_wp2_with fail
    refine (k1.out _).mono ?_
    rintro e w1 ⟨rfl,hb1⟩
    have U1:=Z9 ((U.out.push (.cells #[.int .i64 at0, .int .i64 sq0, .int .i64 ti0, .bool mk0, .int .u8 ty0, .slice B0 pl0.length c0] 220)).later hb1)
    have f0:=(BX.out.later hb1).at 0 _ rfl
    have g2:=((BS.out.push _).later hb1).at 2 _ rfl
    clear hb1
    go_wp2_with fail
    go_ret
    exact ⟨rfl,U1.out⟩
  have c1':nw<at0:=by omega
  by_cases c2:562949953421312<at0
  · have hv:v=false:=HN.out (fun h=>by have h9:at0≤562949953421312:=(HO.out.1 h).1.2.2.1;omega)
    subst hv
    go_wp2_with fail
    refine (k1.out _).mono ?_
    rintro e w1 ⟨rfl,hb1⟩
    have U1:=Z9 ((U.out.push (.cells #[.int .i64 at0, .int .i64 sq0, .int .i64 ti0, .bool mk0, .int .u8 ty0, .slice B0 pl0.length c0] 220)).later hb1)
    have f0:=(BX.out.later hb1).at 0 _ rfl
    have g2:=((BS.out.push _).later hb1).at 2 _ rfl
    clear hb1
    go_wp2_with fail
    go_ret
    exact ⟨rfl,U1.out⟩
  have c2':at0≤562949953421312:=by omega
  by_cases c3:hi<sq0
  · have hv:v=false:=HN.out (fun h=>by have h9:sq0≤hi:=(HO.out.1 h).1.2.2.2;omega)
    subst hv
    go_wp2_with fail
    refine (k1.out _).mono ?_
    rintro e w1 ⟨rfl,hb1⟩
    have U1:=Z9 ((U.out.push (.cells #[.int .i64 at0, .int .i64 sq0, .int .i64 ti0, .bool mk0, .int .u8 ty0, .slice B0 pl0.length c0] 220)).later hb1)
    have f0:=(BX.out.later hb1).at 0 _ rfl
    have f1:=(BX.out.later hb1).at 1 _ rfl
    have g2:=((BS.out.push _).later hb1).at 2 _ rfl
    have g6:=((BS.out.push _).later hb1).at 6 _ rfl
    clear hb1
    go_wp2_with fail
    go_ret
    exact ⟨rfl,U1.out⟩
  have c3':sq0≤hi:=by omega
  go_wp2_with fail
  refine (k1.out _).mono ?_
  rintro e w1 ⟨rfl,hb1⟩
  have U1:=Z9 ((U.out.push (.cells #[.int .i64 at0, .int .i64 sq0, .int .i64 ti0, .bool mk0, .int .u8 ty0, .slice B0 pl0.length c0] 220)).later hb1)
  have f0:=(BX.out.later hb1).at 0 _ rfl
  have f1:=(BX.out.later hb1).at 1 _ rfl
  have g2:=((BS.out.push _).later hb1).at 2 _ rfl
  have g6:=((BS.out.push _).later hb1).at 6 _ rfl
  have HM1:=Z9 (zde (HM.out.alloc (.cells #[.int .i64 at0, .int .i64 sq0, .int .i64 ti0, .bool mk0, .int .u8 ty0, .slice B0 pl0.length c0] 220)) hb1)
  have BX1:=Z9 (BX.out.later hb1)
  have BS1:=Z9 ((BS.out.push (.cells #[.int .i64 at0, .int .i64 sq0, .int .i64 ti0, .bool mk0, .int .u8 ty0, .slice B0 pl0.length c0] 220)).later hb1)
  have hat:(sqMap Unit (((l.map TW.w).take k).map fun x=>x.m.sq)).atKey (.int .i64 sq0) (.lit (.bool false)) = .lit (.bool ((((l.map TW.w).take k).map fun x=>x.m.sq).any fun x=>x==sq0)):=zkz Unit sq0 _ _ rfl
  have HAT:=Z9 hat
  clear hat
  have hgw:wr.heap.size<w1.heap.size:=BX1.out.lt
  clear hb1 e0 e1 e2 e3 e4 e5 p2 p6
  cases hseen:((((l.map TW.w).take k).map fun x=>x.m.sq).any fun x=>x==sq0)
  rotate_left
  · have hv:v=false:=HN.out (fun h=>by have:=(HO.out.1 h).2.1;rw [hseen] at this;cases this)
    subst hv
    have HS:=Z9 hseen
    clear hseen
    have hrun:=zik HM1.out zjw Tryz.underlying279 Tryz.underlying4 (zij _) hkey true (by rw [HAT.out,HS.out])
    go_wp2_with fail
    go_ret
    exact ⟨rfl,U1.out⟩
  have HS:=Z9 hseen
  clear hseen
  have hrun:=zik HM1.out zjw Tryz.underlying279 Tryz.underlying4 (zij _) hkey false (by rw [HAT.out,HS.out])
  go_wp2_with (at_mapUpdate;refine wpList_mapUpdate_own _ rfl _ _ _ 279 rfl 2 4 zjw Tryz.underlying279 (plainElem (H:=Unit) Tryz.prog 4) (w.heap.size+1) k _ rfl HM1.out (by unfold maxLen;omega) _ _ _ rfl rfl hkey _ [] (plainElem_bool Tryz.underlying4 true) ?_;intro w2 hown2 hgrow2)
  simp only [Act.put]
  have hs2:=hgrow2.size
  have hmb:=HM.out.lt
  have hwl:=BS.out.lt
  have BX2:=Z9 (BX1.out.grown hgrow2 (by intro e;injection e with e;omega))
  have BS2:=Z9 (BS1.out.grown hgrow2 (by intro e;injection e with e;omega))
  have U2:Hid (Bel w w2):=Z9 (U1.out.grown hgrow2 U1.out.size (fun g e=>by injection e with e;omega))
  have HOWN2:Hid (w2.ownsMap Tryz.prog 2 (plainElem (H:=Unit) Tryz.prog 4) (w.heap.size+1) (k+1) (sqMap Unit (((l.map TW.w).take (k+1)).map fun x=>x.m.sq))):=Z9 (by
   rw [List.take_add_one,HMM.out]
   simp only [Option.toList_some,List.map_append,List.map_cons,List.map_nil]
   rw [zdr]
   exact hown2)
  have hgb:w.heap.size<w2.heap.size:=BS2.out.lt
  have hgc:wr.heap.size<w2.heap.size:=BX2.out.lt
  clear hown2 hgrow2 hrun HM1 BS1 BX1 f0 f1 g2 g6
  have f0:=BX2.out.at 0 _ rfl
  have f1:=BX2.out.at 1 _ rfl
  have f2:=BX2.out.at 2 _ rfl
  have f3:=BX2.out.at 3 _ rfl
  have f4:=BX2.out.at 4 _ rfl
  have f5:=BX2.out.at 5 _ rfl
  have g10:=BS2.out.at 10 _ rfl
  by_cases hk0:k=0
  · have hd1:decide (0<k)=false:=by rw [decide_eq_false_iff_not];omega
    have hd2:decide ((0:Int)<(k:Int))=false:=by rw [decide_eq_false_iff_not];omega
    have hd3:(k:Int)≤0:=by omega
    have HK0:=Z9 hk0
    clear hk0
    go_quiet (fail)
    go_wp2_with fail
    go_roundg (gk-1)
    case measure=>omega
    case rel =>
     have hk0:=HK0.out
     subst hk0
     refine ⟨1,by omega,by go_num,Z9 (fun j hj => ?_),HOWN2,Z9 (BS2.out.drewN _),Z9 (U2.out.drewN _)⟩
     obtain rfl:j=0:=by omega
     exact HO.out.2 ⟨⟨HOK.out,c1',c2',c3'⟩,HS.out,fun h=>absurd h (by omega)⟩
  obtain ⟨m,rfl⟩:∃ m,k=m+1:=⟨k-1,by omega⟩
  clear hk0
  obtain ⟨a9,ha9⟩:∃ a,l[m]? = some a:=⟨_,List.getElem?_eq_getElem (by omega)⟩
  obtain ⟨b9,off9,he9,hbB9,q0,q1,q2,q3,q4,q5⟩:=zen (HA.out.1.keep (fun p hp=>U2.out.cell hp)) ha9
  injection he9 with he9
  injection he9 with he9a he9b
  subst he9a he9b
  have hm9:(l.map TW.w)[m]? = some a9.w:=by rw [List.getElem?_map,ha9];rfl
  have HM9:=Z9 hm9
  obtain ⟨⟨at9,⟨sq9,ti9,mk9,ty9,pl9⟩⟩,B9,c9⟩:=a9
  simp only at q0 q1 q2 q3 q4 q5 HM9
  clear ha9 hm9
  obtain ⟨R,hR⟩:∃ R:Int,R=if at9<at0 then -1 else if at0<at9 then 1 else if sq9<sq0 then -1 else if sq0<sq9 then 1 else 0:=⟨_,rfl⟩
  have k2:=Z9 fun W=>zeo at9 sq9 ti9 ty9 at0 sq0 ti0 ty0 mk9 mk0 B9 B0 pl9.length c9 pl0.length c0 W
  rw [← hR] at k2
  have HR:=Z9 hR
  clear hR
  have hw1:IntKind.i64.wrap ((m:Int)+1-1)=(m:Int):=by rw [zaw _ (by omega) (by omega)];omega
  have hm1:(m:Int)<(l.length:Int):=by omega
  have hm0:(0:Int)≤(m:Int):=by omega
  have hw2:IntKind.i64.wrap (((m+1:Nat):Int)-1)=(m:Int):=by rw [zaw _ (by omega) (by omega)];omega
  have hw3:((m+1:Nat):Int)-1=(m:Int):=by omega
  have hw4:IntKind.i64.wrap (m:Int)=(m:Int):=zaw _ (by omega) (by omega)
  have hm2:m<l.length:=by omega
  have hU:Below w2.heap.size w2 w2:=Below.refl _ _
  go_region_held3 (fun w'=>Below w2.heap.size w2 w'∧w'.cell? ⟨wr.heap.size,0,none⟩=some (.int .i64 at0)∧w'.cell? ⟨wr.heap.size,1,none⟩=some (.int .i64 sq0)∧w'.cell? ⟨wr.heap.size,2,none⟩=some (.int .i64 ti0)∧w'.cell? ⟨wr.heap.size,3,none⟩=some (.bool mk0)∧w'.cell? ⟨wr.heap.size,4,none⟩=some (.int .u8 ty0)∧w'.cell? ⟨wr.heap.size,5,none⟩=some (.slice B0 pl0.length c0)∧w'.cell? ⟨w.heap.size,10,none⟩=some (.slice (some ⟨b,off,none⟩) l.length qc)∧w'.cell? ⟨b,off+m*6,none⟩=some (.int .i64 at9)∧w'.cell? ⟨b,off+m*6+1,none⟩=some (.int .i64 sq9)∧w'.cell? ⟨b,off+m*6+2,none⟩=some (.int .i64 ti9)∧w'.cell? ⟨b,off+m*6+3,none⟩=some (.bool mk9)∧w'.cell? ⟨b,off+m*6+4,none⟩=some (.int .u8 ty9)∧w'.cell? ⟨b,off+m*6+5,none⟩=some (.slice B9 pl9.length c9))
   (first|assumption|((try go_split_ands);refine zbv ?_ (fun hbX=>⟨zag hbX f0,zag hbX f1,zag hbX f2,zag hbX f3,zag hbX f4,zag hbX f5,zag hbX g10,zag hbX q0,zag hbX q1,zag hbX q2,zag hbX q3,zag hbX q4,zag hbX q5⟩);(with_reducible repeat first|assumption|exact zak (by assumption) (by assumption)|refine Below.drew ?_|refine zah ?_ _)))
   (first|(go_at_call 100;refine (k2.out _).mono ?_;rintro e w' ⟨rfl,qb⟩;have hbw:Below w2.heap.size w2 w':=zak qb (by (try go_split_ands);assumption);obtain ⟨hcc,hff⟩:=ztj qb))
  all_goals
   have UZ:=Z9 (U2.out.later hbw)
   have HZ:=Z9 (zde HOWN2.out hbw)
   have BSZ:=Z9 (BS2.out.later hbw)
   have hgd:(l.map TW.w).getD (m+1-1) Jb.Wt.zero=⟨at9,⟨sq9,ti9,mk9,ty9,pl9⟩⟩:=by rw [Nat.add_sub_cancel];simp [List.getD_eq_getElem?_getD,HM9.out]
   have HGD:=Z9 hgd
   clear hgd hcc hff hbw qb q0 q1 q2 q3 q4 q5 f0 f1 f2 f3 f4 f5 g10
   by_cases hR0:0<R
   · have hv:v=false:=HN.out (fun h=>by
      have h9:=(HO.out.1 h).2.2 (by omega)
      rw [HGD.out] at h9
      unfold Jb.bef at h9
      simp only at h9
      have h8:=HR.out
      repeat (first|(split at h8)|omega))
     subst hv
     go_wp2_with fail
     go_ret
     exact ⟨rfl,UZ.out⟩
   · have hR1:R≤0:=by omega
     go_wp2_with fail
     go_roundg (gk-1)
     case measure=>omega
     case rel =>
      refine ⟨m+1+1,by omega,by go_num,Z9 (fun j hj => ?_),HZ,BSZ,UZ⟩
      by_cases hj2:j<m+1
      · exact HT.out j hj2
      · obtain rfl:j=m+1:=by omega
        refine HO.out.2 ⟨⟨HOK.out,c1',c2',c3'⟩,HS.out,fun _ => ?_⟩
        rw [HGD.out]
        unfold Jb.bef
        simp only
        have hne:sq9≠sq0:=by
         have h7:=HS.out
         rw [List.any_eq_false] at h7
         have:=h7 sq9 (List.mem_map.2 ⟨⟨at9,⟨sq9,ti9,mk9,ty9,pl9⟩⟩,List.mem_of_getElem? (i:=m) (by rw [List.getElem?_take,if_pos (by omega)];exact HM9.out),rfl⟩)
         simpa using this
        have h8:=HR.out
        repeat (first|(split at h8)|omega)
end Go.Proofs.YtbcgnddpkiemoaaGreat
