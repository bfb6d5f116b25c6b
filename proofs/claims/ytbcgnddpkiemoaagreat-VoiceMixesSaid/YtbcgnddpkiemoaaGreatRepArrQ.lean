/- Layer 26: Arrive of the program and of the reference. -/
import Derived.Test.YtbcgnddpkiemoaaGreatSs9Q
import Derived.Test.YtbcgnddpkiemoaaGreatSbSend0Q
import Derived.Laws.Rows
import Derived.Test.YtbcgnddpkiemoaaGreatCaRc2Q
import Derived.Test.YtbcgnddpkiemoaaGreatJtValidQ
import Derived.Test.YtbcgnddpkiemoaaGreatJtCopyQ
import Derived.Test.YtbcgnddpkiemoaaGreatVoFunQ
set_option linter.unusedVariables false
set_option linter.unusedSimpArgs false
set_option maxRecDepth 100000
set_option maxHeartbeats 12800000
namespace Go.Proofs.YtbcgnddpkiemoaaGreat
attribute [local go_sem ↓] zab zac
attribute [local go_sem] zaa zad
open Go.RowKit
section
variable (s0:Bool) (sb sh sr sx sy st sj:Int) (w:World)
variable (q a t:Int)
theorem zlp:Calls Tryz.prog 63 #[.agg #[.bool s0, .int .i64 sb, .int .i64 sh, .int .i64 sr, .int .i64 sx, .int .i64 sy, .int .i64 st, .int .i64 sj], .int .i64 q, .int .i64 a, .int .i64 t] w fun e w'=>e = .returned (.agg (Rep.arrive ⟨s0,sb,sh,sr,sx,sy,st,sj⟩ q a t).row)∧Below w.heap.size w w':=by
 obtain ⟨R,hR⟩:∃ R,R=Rep.arrive ⟨s0,sb,sh,sr,sx,sy,st,sj⟩ q a t:=⟨_,rfl⟩
 rw [← hR]
 unfold Rep.arrive at hR
 have k0:=fun W=>zph s0 sb sh sr sx sy st sj W
 have k1:=fun W=>zfd q W
 have k2:=fun W=>zfd a W
 have k3:=fun W=>zfd t W
 have hbd:=Rep.okS_bd s0 sb sh sr sx sy st sj
 have hq:=(Rep.inB_iff (-281474976710656) 281474976710656 q).1
 have ha:=(Rep.inB_iff (-281474976710656) 281474976710656 a).1
 have ht:=(Rep.inB_iff (-281474976710656) 281474976710656 t).1
 have HQ:Hid (Rep.small q=true → -281474976710656≤q∧q≤281474976710656):=Z9 hq
 have HA:Hid (Rep.small a=true → -281474976710656≤a∧a≤281474976710656):=Z9 ha
 have HT:Hid (Rep.small t=true → -281474976710656≤t∧t≤281474976710656):=Z9 ht
 clear hq ha ht
 generalize Rep.okS ⟨s0,sb,sh,sr,sx,sy,st,sj⟩=bo at *
 generalize Rep.small q=b1 at *
 generalize Rep.small a=b2 at *
 generalize Rep.small t=b3 at *
 have K0:=Z9 k0
 have K1:=Z9 k1
 have K2:=Z9 k2
 have K3:=Z9 k3
 have HBD:=Z9 hbd
 clear k0 k1 k2 k3 hbd
 have fin:∀ (w1:World),Below ((w.alloc (.cells #[.bool s0, .int .i64 sb, .int .i64 sh, .int .i64 sr, .int .i64 sx, .int .i64 sy, .int .i64 st, .int .i64 sj] 41)).alloc (.cells #[.bool false, .int .i64 0, .int .i64 0, .int .i64 0, .int .i64 0, .int .i64 0, .int .i64 0, .int .i64 0] 41)).heap.size ((w.alloc (.cells #[.bool s0, .int .i64 sb, .int .i64 sh, .int .i64 sr, .int .i64 sx, .int .i64 sy, .int .i64 st, .int .i64 sj] 41)).alloc (.cells #[.bool false, .int .i64 0, .int .i64 0, .int .i64 0, .int .i64 0, .int .i64 0, .int .i64 0, .int .i64 0] 41)) w1→Hid (Blk w1 w.heap.size 41 #[.bool s0, .int .i64 sb, .int .i64 sh, .int .i64 sr, .int .i64 sx, .int .i64 sy, .int .i64 st, .int .i64 sj])∧Hid (Blk w1 (w.heap.size+1) 41 #[.bool false, .int .i64 0, .int .i64 0, .int .i64 0, .int .i64 0, .int .i64 0, .int .i64 0, .int .i64 0])∧Hid (Bel w w1):=fun w1 hb =>
  ⟨Z9 (((Blk.new w 41 #[.bool s0, .int .i64 sb, .int .i64 sh, .int .i64 sr, .int .i64 sx, .int .i64 sy, .int .i64 st, .int .i64 sj]).push _).later hb),Z9 ((Blk.new1 w _ 41 #[.bool false, .int .i64 0, .int .i64 0, .int .i64 0, .int .i64 0, .int .i64 0, .int .i64 0, .int .i64 0]).later hb),Z9 ((((Bel.refl w).push _).push _).later hb)⟩
 cases bo
 · rw [if_pos (by rfl)] at hR
   subst hR
   go_enter Tryz.func63,Tryz.ntmps63
   go_wp2_with fail
   refine (K0.out _).mono ?_
   rintro e w1 ⟨rfl,hb1⟩
   obtain ⟨B0,B1,U⟩:=fin w1 hb1
   clear hb1 fin
   have h10:w.heap.size+1≠w.heap.size:=by omega
   have h01:w.heap.size≠w.heap.size+1:=by omega
   have f0:=B0.out.at 0 _ rfl
   have f1:=B0.out.at 1 _ rfl
   have f2:=B0.out.at 2 _ rfl
   have f3:=B0.out.at 3 _ rfl
   have f4:=B0.out.at 4 _ rfl
   have f5:=B0.out.at 5 _ rfl
   have f6:=B0.out.at 6 _ rfl
   have f7:=B0.out.at 7 _ rfl
   have fz:=B0.out.frozen
   have r0:=B1.out.at 0 _ rfl
   have r1:=B1.out.at 1 _ rfl
   have r2:=B1.out.at 2 _ rfl
   have r3:=B1.out.at 3 _ rfl
   have r4:=B1.out.at 4 _ rfl
   have r5:=B1.out.at 5 _ rfl
   have r6:=B1.out.at 6 _ rfl
   have r7:=B1.out.at 7 _ rfl
   have rz:=B1.out.frozen
   go_wp2
   have BF:Blk (setRow (w.heap.size+1) w1 0 [.bool false, .int .i64 0, .int .i64 0, .int .i64 0, .int .i64 0, .int .i64 0, .int .i64 0, .int .i64 0]) (w.heap.size+1) 41 #[.bool false, .int .i64 0, .int .i64 0, .int .i64 0, .int .i64 0, .int .i64 0, .int .i64 0, .int .i64 0]:=Blk.setRow B1.out [.bool false, .int .i64 0, .int .i64 0, .int .i64 0, .int .i64 0, .int .i64 0, .int .i64 0, .int .i64 0] rfl
   have UF:Below w.heap.size w (setRow (w.heap.size+1) w1 0 [.bool false, .int .i64 0, .int .i64 0, .int .i64 0, .int .i64 0, .int .i64 0, .int .i64 0, .int .i64 0]):=below_setRow (by omega) [.bool false, .int .i64 0, .int .i64 0, .int .i64 0, .int .i64 0, .int .i64 0, .int .i64 0, .int .i64 0] _ 0 U.out
   simp only [setRow] at BF UF
   exact bodyPost_ret (v := .agg #[.bool false, .int .i64 0, .int .i64 0, .int .i64 0, .int .i64 0, .int .i64 0, .int .i64 0, .int .i64 0]) (zeh Tryz.results63 rfl (run_loadVar_row (P:=Tryz.prog) _ _ _ _ _ _ _ BF Tryz.underlying41 rfl (by kernel_rfl))) rfl ⟨rfl,UF⟩
 · cases b1
   · rw [if_pos (by rfl)] at hR
     subst hR
     go_enter Tryz.func63,Tryz.ntmps63
     go_wp2_with fail
     refine (K0.out _).mono ?_
     rintro e w1 ⟨rfl,hb1⟩
     obtain ⟨B0,B1,U⟩:=fin w1 hb1
     clear hb1 fin
     have h10:w.heap.size+1≠w.heap.size:=by omega
     have h01:w.heap.size≠w.heap.size+1:=by omega
     have f0:=B0.out.at 0 _ rfl
     have f1:=B0.out.at 1 _ rfl
     have f2:=B0.out.at 2 _ rfl
     have f3:=B0.out.at 3 _ rfl
     have f4:=B0.out.at 4 _ rfl
     have f5:=B0.out.at 5 _ rfl
     have f6:=B0.out.at 6 _ rfl
     have f7:=B0.out.at 7 _ rfl
     have fz:=B0.out.frozen
     have r0:=B1.out.at 0 _ rfl
     have r1:=B1.out.at 1 _ rfl
     have r2:=B1.out.at 2 _ rfl
     have r3:=B1.out.at 3 _ rfl
     have r4:=B1.out.at 4 _ rfl
     have r5:=B1.out.at 5 _ rfl
     have r6:=B1.out.at 6 _ rfl
     have r7:=B1.out.at 7 _ rfl
     have rz:=B1.out.frozen
     go_wp2_with fail
     refine (K1.out _).mono ?_
     rintro e w1 ⟨rfl,rfl⟩
     go_wp2
     have BF:Blk (setRow (w.heap.size+1) w1 0 [.bool false, .int .i64 0, .int .i64 0, .int .i64 0, .int .i64 0, .int .i64 0, .int .i64 0, .int .i64 0]) (w.heap.size+1) 41 #[.bool false, .int .i64 0, .int .i64 0, .int .i64 0, .int .i64 0, .int .i64 0, .int .i64 0, .int .i64 0]:=Blk.setRow B1.out [.bool false, .int .i64 0, .int .i64 0, .int .i64 0, .int .i64 0, .int .i64 0, .int .i64 0, .int .i64 0] rfl
     have UF:Below w.heap.size w (setRow (w.heap.size+1) w1 0 [.bool false, .int .i64 0, .int .i64 0, .int .i64 0, .int .i64 0, .int .i64 0, .int .i64 0, .int .i64 0]):=below_setRow (by omega) [.bool false, .int .i64 0, .int .i64 0, .int .i64 0, .int .i64 0, .int .i64 0, .int .i64 0, .int .i64 0] _ 0 U.out
     simp only [setRow] at BF UF
     exact bodyPost_ret (v := .agg #[.bool false, .int .i64 0, .int .i64 0, .int .i64 0, .int .i64 0, .int .i64 0, .int .i64 0, .int .i64 0]) (zeh Tryz.results63 rfl (run_loadVar_row (P:=Tryz.prog) _ _ _ _ _ _ _ BF Tryz.underlying41 rfl (by kernel_rfl))) rfl ⟨rfl,UF⟩
   · cases b2
     · rw [if_pos (by rfl)] at hR
       subst hR
       go_enter Tryz.func63,Tryz.ntmps63
       go_wp2_with fail
       refine (K0.out _).mono ?_
       rintro e w1 ⟨rfl,hb1⟩
       obtain ⟨B0,B1,U⟩:=fin w1 hb1
       clear hb1 fin
       have h10:w.heap.size+1≠w.heap.size:=by omega
       have h01:w.heap.size≠w.heap.size+1:=by omega
       have f0:=B0.out.at 0 _ rfl
       have f1:=B0.out.at 1 _ rfl
       have f2:=B0.out.at 2 _ rfl
       have f3:=B0.out.at 3 _ rfl
       have f4:=B0.out.at 4 _ rfl
       have f5:=B0.out.at 5 _ rfl
       have f6:=B0.out.at 6 _ rfl
       have f7:=B0.out.at 7 _ rfl
       have fz:=B0.out.frozen
       have r0:=B1.out.at 0 _ rfl
       have r1:=B1.out.at 1 _ rfl
       have r2:=B1.out.at 2 _ rfl
       have r3:=B1.out.at 3 _ rfl
       have r4:=B1.out.at 4 _ rfl
       have r5:=B1.out.at 5 _ rfl
       have r6:=B1.out.at 6 _ rfl
       have r7:=B1.out.at 7 _ rfl
       have rz:=B1.out.frozen
       go_wp2_with fail
       refine (K1.out _).mono ?_
       rintro e w1 ⟨rfl,rfl⟩
       go_wp2_with fail
       refine (K2.out _).mono ?_
       rintro e w1 ⟨rfl,rfl⟩
       go_wp2
       have BF:Blk (setRow (w.heap.size+1) w1 0 [.bool false, .int .i64 0, .int .i64 0, .int .i64 0, .int .i64 0, .int .i64 0, .int .i64 0, .int .i64 0]) (w.heap.size+1) 41 #[.bool false, .int .i64 0, .int .i64 0, .int .i64 0, .int .i64 0, .int .i64 0, .int .i64 0, .int .i64 0]:=Blk.setRow B1.out [.bool false, .int .i64 0, .int .i64 0, .int .i64 0, .int .i64 0, .int .i64 0, .int .i64 0, .int .i64 0] rfl
       have UF:Below w.heap.size w (setRow (w.heap.size+1) w1 0 [.bool false, .int .i64 0, .int .i64 0, .int .i64 0, .int .i64 0, .int .i64 0, .int .i64 0, .int .i64 0]):=below_setRow (by omega) [.bool false, .int .i64 0, .int .i64 0, .int .i64 0, .int .i64 0, .int .i64 0, .int .i64 0, .int .i64 0] _ 0 U.out
       simp only [setRow] at BF UF
       exact bodyPost_ret (v := .agg #[.bool false, .int .i64 0, .int .i64 0, .int .i64 0, .int .i64 0, .int .i64 0, .int .i64 0, .int .i64 0]) (zeh Tryz.results63 rfl (run_loadVar_row (P:=Tryz.prog) _ _ _ _ _ _ _ BF Tryz.underlying41 rfl (by kernel_rfl))) rfl ⟨rfl,UF⟩
     · cases b3
       · rw [if_pos (by rfl)] at hR
         subst hR
         go_enter Tryz.func63,Tryz.ntmps63
         go_wp2_with fail
         refine (K0.out _).mono ?_
         rintro e w1 ⟨rfl,hb1⟩
         obtain ⟨B0,B1,U⟩:=fin w1 hb1
         clear hb1 fin
         have h10:w.heap.size+1≠w.heap.size:=by omega
         have h01:w.heap.size≠w.heap.size+1:=by omega
         have f0:=B0.out.at 0 _ rfl
         have f1:=B0.out.at 1 _ rfl
         have f2:=B0.out.at 2 _ rfl
         have f3:=B0.out.at 3 _ rfl
         have f4:=B0.out.at 4 _ rfl
         have f5:=B0.out.at 5 _ rfl
         have f6:=B0.out.at 6 _ rfl
         have f7:=B0.out.at 7 _ rfl
         have fz:=B0.out.frozen
         have r0:=B1.out.at 0 _ rfl
         have r1:=B1.out.at 1 _ rfl
         have r2:=B1.out.at 2 _ rfl
         have r3:=B1.out.at 3 _ rfl
         have r4:=B1.out.at 4 _ rfl
         have r5:=B1.out.at 5 _ rfl
         have r6:=B1.out.at 6 _ rfl
         have r7:=B1.out.at 7 _ rfl
         have rz:=B1.out.frozen
         go_wp2_with fail
         refine (K1.out _).mono ?_
         rintro e w1 ⟨rfl,rfl⟩
         go_wp2_with fail
         refine (K2.out _).mono ?_
         rintro e w1 ⟨rfl,rfl⟩
         go_wp2_with fail
         refine (K3.out _).mono ?_
         rintro e w1 ⟨rfl,rfl⟩
         go_wp2
         have BF:Blk (setRow (w.heap.size+1) w1 0 [.bool false, .int .i64 0, .int .i64 0, .int .i64 0, .int .i64 0, .int .i64 0, .int .i64 0, .int .i64 0]) (w.heap.size+1) 41 #[.bool false, .int .i64 0, .int .i64 0, .int .i64 0, .int .i64 0, .int .i64 0, .int .i64 0, .int .i64 0]:=Blk.setRow B1.out [.bool false, .int .i64 0, .int .i64 0, .int .i64 0, .int .i64 0, .int .i64 0, .int .i64 0, .int .i64 0] rfl
         have UF:Below w.heap.size w (setRow (w.heap.size+1) w1 0 [.bool false, .int .i64 0, .int .i64 0, .int .i64 0, .int .i64 0, .int .i64 0, .int .i64 0, .int .i64 0]):=below_setRow (by omega) [.bool false, .int .i64 0, .int .i64 0, .int .i64 0, .int .i64 0, .int .i64 0, .int .i64 0, .int .i64 0] _ 0 U.out
         simp only [setRow] at BF UF
         exact bodyPost_ret (v := .agg #[.bool false, .int .i64 0, .int .i64 0, .int .i64 0, .int .i64 0, .int .i64 0, .int .i64 0, .int .i64 0]) (zeh Tryz.results63 rfl (run_loadVar_row (P:=Tryz.prog) _ _ _ _ _ _ _ BF Tryz.underlying41 rfl (by kernel_rfl))) rfl ⟨rfl,UF⟩
       · rw [if_neg (by simp)] at hR
         obtain ⟨c1,c2,c3,c4,c5,c6,c7,c8,c9,c10,c11,c12,c13,c14,c15⟩:=HBD.out rfl
         obtain ⟨q0,q1⟩:=HQ.out rfl
         obtain ⟨a0,a1⟩:=HA.out rfl
         obtain ⟨t0,t1⟩:=HT.out rfl
         cases s0
         · rw [if_pos rfl] at hR
           subst hR
           go_enter Tryz.func63,Tryz.ntmps63
           go_wp2_with fail
           refine (K0.out _).mono ?_
           rintro e w1 ⟨rfl,hb1⟩
           obtain ⟨B0,B1,U⟩:=fin w1 hb1
           clear hb1 fin
           have h10:w.heap.size+1≠w.heap.size:=by omega
           have h01:w.heap.size≠w.heap.size+1:=by omega
           have f0:=B0.out.at 0 _ rfl
           have f1:=B0.out.at 1 _ rfl
           have f2:=B0.out.at 2 _ rfl
           have f3:=B0.out.at 3 _ rfl
           have f4:=B0.out.at 4 _ rfl
           have f5:=B0.out.at 5 _ rfl
           have f6:=B0.out.at 6 _ rfl
           have f7:=B0.out.at 7 _ rfl
           have fz:=B0.out.frozen
           have r0:=B1.out.at 0 _ rfl
           have r1:=B1.out.at 1 _ rfl
           have r2:=B1.out.at 2 _ rfl
           have r3:=B1.out.at 3 _ rfl
           have r4:=B1.out.at 4 _ rfl
           have r5:=B1.out.at 5 _ rfl
           have r6:=B1.out.at 6 _ rfl
           have r7:=B1.out.at 7 _ rfl
           have rz:=B1.out.frozen
           go_wp2_with fail
           refine (K1.out _).mono ?_
           rintro e w1 ⟨rfl,rfl⟩
           go_wp2_with fail
           refine (K2.out _).mono ?_
           rintro e w1 ⟨rfl,rfl⟩
           go_wp2_with fail
           refine (K3.out _).mono ?_
           rintro e w1 ⟨rfl,rfl⟩
           go_wp2
           have BF:Blk (setRow (w.heap.size+1) w1 0 [.bool true, .int .i64 q, .int .i64 q, .int .i64 1, .int .i64 0, .int .i64 0, .int .i64 (a-t), .int .i64 0]) (w.heap.size+1) 41 #[.bool true, .int .i64 q, .int .i64 q, .int .i64 1, .int .i64 0, .int .i64 0, .int .i64 (a-t), .int .i64 0]:=Blk.setRow B1.out [.bool true, .int .i64 q, .int .i64 q, .int .i64 1, .int .i64 0, .int .i64 0, .int .i64 (a-t), .int .i64 0] rfl
           have UF:Below w.heap.size w (setRow (w.heap.size+1) w1 0 [.bool true, .int .i64 q, .int .i64 q, .int .i64 1, .int .i64 0, .int .i64 0, .int .i64 (a-t), .int .i64 0]):=below_setRow (by omega) [.bool true, .int .i64 q, .int .i64 q, .int .i64 1, .int .i64 0, .int .i64 0, .int .i64 (a-t), .int .i64 0] _ 0 U.out
           simp only [setRow] at BF UF
           exact bodyPost_ret (v := .agg #[.bool true, .int .i64 q, .int .i64 q, .int .i64 1, .int .i64 0, .int .i64 0, .int .i64 (a-t), .int .i64 0]) (zeh Tryz.results63 rfl (run_loadVar_row (P:=Tryz.prog) _ _ _ _ _ _ _ BF Tryz.underlying41 rfl (by kernel_rfl))) rfl ⟨rfl,UF⟩
         · rw [if_neg (by simp)] at hR
           obtain ⟨u,hu⟩:∃ u,u=a-t-st:=⟨_,rfl⟩
           rw [← hu] at hR
           unfold Rep.absI at hR
           by_cases hneg:u<0
           · rw [if_pos hneg,hu] at hR
             subst hR
             have hn1:a-t-st<0:=by omega
             clear hu hneg
             go_enter Tryz.func63,Tryz.ntmps63
             go_wp2_with fail
             refine (K0.out _).mono ?_
             rintro e w1 ⟨rfl,hb1⟩
             obtain ⟨B0,B1,U⟩:=fin w1 hb1
             clear hb1 fin
             have h10:w.heap.size+1≠w.heap.size:=by omega
             have h01:w.heap.size≠w.heap.size+1:=by omega
             have f0:=B0.out.at 0 _ rfl
             have f1:=B0.out.at 1 _ rfl
             have f2:=B0.out.at 2 _ rfl
             have f3:=B0.out.at 3 _ rfl
             have f4:=B0.out.at 4 _ rfl
             have f5:=B0.out.at 5 _ rfl
             have f6:=B0.out.at 6 _ rfl
             have f7:=B0.out.at 7 _ rfl
             have fz:=B0.out.frozen
             have r0:=B1.out.at 0 _ rfl
             have r1:=B1.out.at 1 _ rfl
             have r2:=B1.out.at 2 _ rfl
             have r3:=B1.out.at 3 _ rfl
             have r4:=B1.out.at 4 _ rfl
             have r5:=B1.out.at 5 _ rfl
             have r6:=B1.out.at 6 _ rfl
             have r7:=B1.out.at 7 _ rfl
             have rz:=B1.out.frozen
             go_wp2_with fail
             refine (K1.out _).mono ?_
             rintro e w1 ⟨rfl,rfl⟩
             go_wp2_with fail
             refine (K2.out _).mono ?_
             rintro e w1 ⟨rfl,rfl⟩
             go_wp2_with fail
             refine (K3.out _).mono ?_
             rintro e w1 ⟨rfl,rfl⟩
             go_wp2
             have BF:Blk (setRow (w.heap.size+1) (((((w1.setCell ⟨w.heap.size,1,none⟩ (.int .i64 (min sb q))).setCell ⟨w.heap.size,2,none⟩ (.int .i64 (max sh q))).setCell ⟨w.heap.size,3,none⟩ (.int .i64 (sr+1))).setCell ⟨w.heap.size,7,none⟩ (.int .i64 (sj+(-(a-t-st)-(sj+8) / 16)))).setCell ⟨w.heap.size,6,none⟩ (.int .i64 (a-t))) 0 [.bool true, .int .i64 (min sb q), .int .i64 (max sh q), .int .i64 (sr+1), .int .i64 sx, .int .i64 sy, .int .i64 (a-t), .int .i64 (sj+(-(a-t-st)-(sj+8) / 16))]) (w.heap.size+1) 41 #[.bool true, .int .i64 (min sb q), .int .i64 (max sh q), .int .i64 (sr+1), .int .i64 sx, .int .i64 sy, .int .i64 (a-t), .int .i64 (sj+(-(a-t-st)-(sj+8) / 16))]:=Blk.setRow (((((B1.out.far h10 (.int .i64 (min sb q))).far h10 (.int .i64 (max sh q))).far h10 (.int .i64 (sr+1))).far h10 (.int .i64 (sj+(-(a-t-st)-(sj+8) / 16)))).far h10 (.int .i64 (a-t))) [.bool true, .int .i64 (min sb q), .int .i64 (max sh q), .int .i64 (sr+1), .int .i64 sx, .int .i64 sy, .int .i64 (a-t), .int .i64 (sj+(-(a-t-st)-(sj+8) / 16))] rfl
             have UF:Below w.heap.size w (setRow (w.heap.size+1) (((((w1.setCell ⟨w.heap.size,1,none⟩ (.int .i64 (min sb q))).setCell ⟨w.heap.size,2,none⟩ (.int .i64 (max sh q))).setCell ⟨w.heap.size,3,none⟩ (.int .i64 (sr+1))).setCell ⟨w.heap.size,7,none⟩ (.int .i64 (sj+(-(a-t-st)-(sj+8) / 16)))).setCell ⟨w.heap.size,6,none⟩ (.int .i64 (a-t))) 0 [.bool true, .int .i64 (min sb q), .int .i64 (max sh q), .int .i64 (sr+1), .int .i64 sx, .int .i64 sy, .int .i64 (a-t), .int .i64 (sj+(-(a-t-st)-(sj+8) / 16))]):=below_setRow (by omega) [.bool true, .int .i64 (min sb q), .int .i64 (max sh q), .int .i64 (sr+1), .int .i64 sx, .int .i64 sy, .int .i64 (a-t), .int .i64 (sj+(-(a-t-st)-(sj+8) / 16))] _ 0 (Below.setCell (Below.setCell (Below.setCell (Below.setCell (Below.setCell U.out (by exact Nat.le_refl _) (.int .i64 (min sb q))) (by exact Nat.le_refl _) (.int .i64 (max sh q))) (by exact Nat.le_refl _) (.int .i64 (sr+1))) (by exact Nat.le_refl _) (.int .i64 (sj+(-(a-t-st)-(sj+8) / 16)))) (by exact Nat.le_refl _) (.int .i64 (a-t)))
             simp only [setRow] at BF UF
             exact bodyPost_ret (v := .agg #[.bool true, .int .i64 (min sb q), .int .i64 (max sh q), .int .i64 (sr+1), .int .i64 sx, .int .i64 sy, .int .i64 (a-t), .int .i64 (sj+(-(a-t-st)-(sj+8) / 16))]) (zeh Tryz.results63 rfl (run_loadVar_row (P:=Tryz.prog) _ _ _ _ _ _ _ BF Tryz.underlying41 rfl (by kernel_rfl))) rfl ⟨rfl,UF⟩
           · rw [if_neg hneg,hu] at hR
             subst hR
             have hn1:0≤a-t-st:=by omega
             clear hu hneg
             go_enter Tryz.func63,Tryz.ntmps63
             go_wp2_with fail
             refine (K0.out _).mono ?_
             rintro e w1 ⟨rfl,hb1⟩
             obtain ⟨B0,B1,U⟩:=fin w1 hb1
             clear hb1 fin
             have h10:w.heap.size+1≠w.heap.size:=by omega
             have h01:w.heap.size≠w.heap.size+1:=by omega
             have f0:=B0.out.at 0 _ rfl
             have f1:=B0.out.at 1 _ rfl
             have f2:=B0.out.at 2 _ rfl
             have f3:=B0.out.at 3 _ rfl
             have f4:=B0.out.at 4 _ rfl
             have f5:=B0.out.at 5 _ rfl
             have f6:=B0.out.at 6 _ rfl
             have f7:=B0.out.at 7 _ rfl
             have fz:=B0.out.frozen
             have r0:=B1.out.at 0 _ rfl
             have r1:=B1.out.at 1 _ rfl
             have r2:=B1.out.at 2 _ rfl
             have r3:=B1.out.at 3 _ rfl
             have r4:=B1.out.at 4 _ rfl
             have r5:=B1.out.at 5 _ rfl
             have r6:=B1.out.at 6 _ rfl
             have r7:=B1.out.at 7 _ rfl
             have rz:=B1.out.frozen
             go_wp2_with fail
             refine (K1.out _).mono ?_
             rintro e w1 ⟨rfl,rfl⟩
             go_wp2_with fail
             refine (K2.out _).mono ?_
             rintro e w1 ⟨rfl,rfl⟩
             go_wp2_with fail
             refine (K3.out _).mono ?_
             rintro e w1 ⟨rfl,rfl⟩
             go_wp2
             have BF:Blk (setRow (w.heap.size+1) (((((w1.setCell ⟨w.heap.size,1,none⟩ (.int .i64 (min sb q))).setCell ⟨w.heap.size,2,none⟩ (.int .i64 (max sh q))).setCell ⟨w.heap.size,3,none⟩ (.int .i64 (sr+1))).setCell ⟨w.heap.size,7,none⟩ (.int .i64 (sj+((a-t-st)-(sj+8) / 16)))).setCell ⟨w.heap.size,6,none⟩ (.int .i64 (a-t))) 0 [.bool true, .int .i64 (min sb q), .int .i64 (max sh q), .int .i64 (sr+1), .int .i64 sx, .int .i64 sy, .int .i64 (a-t), .int .i64 (sj+((a-t-st)-(sj+8) / 16))]) (w.heap.size+1) 41 #[.bool true, .int .i64 (min sb q), .int .i64 (max sh q), .int .i64 (sr+1), .int .i64 sx, .int .i64 sy, .int .i64 (a-t), .int .i64 (sj+((a-t-st)-(sj+8) / 16))]:=Blk.setRow (((((B1.out.far h10 (.int .i64 (min sb q))).far h10 (.int .i64 (max sh q))).far h10 (.int .i64 (sr+1))).far h10 (.int .i64 (sj+((a-t-st)-(sj+8) / 16)))).far h10 (.int .i64 (a-t))) [.bool true, .int .i64 (min sb q), .int .i64 (max sh q), .int .i64 (sr+1), .int .i64 sx, .int .i64 sy, .int .i64 (a-t), .int .i64 (sj+((a-t-st)-(sj+8) / 16))] rfl
             have UF:Below w.heap.size w (setRow (w.heap.size+1) (((((w1.setCell ⟨w.heap.size,1,none⟩ (.int .i64 (min sb q))).setCell ⟨w.heap.size,2,none⟩ (.int .i64 (max sh q))).setCell ⟨w.heap.size,3,none⟩ (.int .i64 (sr+1))).setCell ⟨w.heap.size,7,none⟩ (.int .i64 (sj+((a-t-st)-(sj+8) / 16)))).setCell ⟨w.heap.size,6,none⟩ (.int .i64 (a-t))) 0 [.bool true, .int .i64 (min sb q), .int .i64 (max sh q), .int .i64 (sr+1), .int .i64 sx, .int .i64 sy, .int .i64 (a-t), .int .i64 (sj+((a-t-st)-(sj+8) / 16))]):=below_setRow (by omega) [.bool true, .int .i64 (min sb q), .int .i64 (max sh q), .int .i64 (sr+1), .int .i64 sx, .int .i64 sy, .int .i64 (a-t), .int .i64 (sj+((a-t-st)-(sj+8) / 16))] _ 0 (Below.setCell (Below.setCell (Below.setCell (Below.setCell (Below.setCell U.out (by exact Nat.le_refl _) (.int .i64 (min sb q))) (by exact Nat.le_refl _) (.int .i64 (max sh q))) (by exact Nat.le_refl _) (.int .i64 (sr+1))) (by exact Nat.le_refl _) (.int .i64 (sj+((a-t-st)-(sj+8) / 16)))) (by exact Nat.le_refl _) (.int .i64 (a-t)))
             simp only [setRow] at BF UF
             exact bodyPost_ret (v := .agg #[.bool true, .int .i64 (min sb q), .int .i64 (max sh q), .int .i64 (sr+1), .int .i64 sx, .int .i64 sy, .int .i64 (a-t), .int .i64 (sj+((a-t-st)-(sj+8) / 16))]) (zeh Tryz.results63 rfl (run_loadVar_row (P:=Tryz.prog) _ _ _ _ _ _ _ BF Tryz.underlying41 rfl (by kernel_rfl))) rfl ⟨rfl,UF⟩
end
theorem zob {w W:World} {p:Sb.Pt} {A:Option Addr} {l:List TW} {n c:Nat} {x:Rx} {now:Int} (C:RC w p A l n c x now) (S:RS w W p A n c x) (fn t:Int) (J:Jb.Jt) (jp:List Jb.Wt) (jv:Int) (hJ:Jb.put p.jt now ⟨fn,t,x.mrk,x.ty,x.pl⟩=(J,jp,jv,0)) (a:Act) (ha:FrD w.heap.size now fn t a):firstWp Tryz.prog rcD_code (bodyPost Tryz.prog Tryz.f26 (RecvR ({ p with st:=Rep.arrive p.st fn (8*now) t,jt:=J,seed:=(Sb.sounds p.seed jp).1 }, jv,(Sb.sounds p.seed jp).2) w)) a W:=by
 obtain ⟨s,rfl,e1,e3,e5,e6,e15,e17,_⟩:=ha
 rw [r164,e1,e3,e5,e6,e15,e17]
 clear e1 e3 e5 e6 e15 e17
 have hlen:(Jb.put p.jt now ⟨fn,t,x.mrk,x.ty,x.pl⟩).2.1=Jb.due now p.jt.q:=by
  have h:=congrArg (fun x=>x.2.2.2) hJ
  unfold Jb.put at h ⊢
  split
  · rfl
  · rename_i hh;rw [if_neg hh] at h;exact absurd h hh
 rw [hJ] at hlen
 replace hlen:jp=Jb.due now p.jt.q:=hlen
 have HOP:=Z9 (show ∀ a∈jp,OkW a by rw [hlen];exact zpd C.ok)
 have hm:jp.length≤100000:=by
  rw [hlen]
  have h1:=zgg now p.jt.q
  have h2:=congrArg List.length C.q
  have h3:=C.len
  have h4:=C.n5
  simp at h2
  omega
 have HM:=Z9 hm
 have k4:∀ W,Calls Tryz.prog 63 #[.agg #[.bool p.st.seen, .int .i64 p.st.base, .int .i64 p.st.high, .int .i64 p.st.got, .int .i64 p.st.wexp, .int .i64 p.st.wrec, .int .i64 p.st.trans, .int .i64 p.st.jit], .int .i64 fn, .int .i64 (8*now), .int .i64 t] W fun e w'=>e = .returned (.agg (Rep.arrive p.st fn (8*now) t).row)∧Below W.heap.size W w':=fun W=>zlp (s0:=p.st.seen) (sb:=p.st.base) (sh:=p.st.high) (sr:=p.st.got) (sx:=p.st.wexp) (sy:=p.st.wrec) (st:=p.st.trans) (sj:=p.st.jit) (q:=fn) (a:=8*now) (t:=t) (w:=W)
 have k5:=Z9 fun (W:World) hW hI=>zqm p.jt A l n c now ⟨fn,t,x.mrk,x.ty,x.pl⟩ x.B x.pl.length x.pc W C.q C.len C.n5 C.cap C.cm hW C.sq rfl (by have:=C.h15;show x.pl.length≤100000;omega) hI
 unfold JPutW JV at k5
 rw [hJ] at k5
 dsimp only at k5
 replace k4:=Z9 k4
 have hs0:=C.s0
 have hs1:=C.s1
 have hw8:wrap64 (8*now)=8*now:=IntWalk.wrap64_in _ ⟨by have:=C.n0;omega,by have:=C.n1;omega⟩
 have HA:=Z9 C.av
 have HI:=Z9 C.pl
 generalize hst:Rep.arrive p.st fn (8*now) t=ST at *
 clear hm hlen hJ hst C
 refine zaq ?_
 intro _ _
 go_wp2_with (first|(refine zae rfl 41 (.tmp 122) rfl (w.heap.size) 32 rfl 45 (PL p A n c) S.b0 8 _ Tryz.underlying41 zka (show 32+8≤48 by decide) (#[.bool p.st.seen, .int .i64 p.st.base, .int .i64 p.st.high, .int .i64 p.st.got, .int .i64 p.st.wexp, .int .i64 p.st.wrec, .int .i64 p.st.trans, .int .i64 p.st.jit]) (by rfl) rfl ?_)|fail)
 refine (k4.out _).mono ?_
 rintro e w6 ⟨rfl,hb1⟩
 replace S:=S.later hb1
 clear hb1 k4
 go_upto_region 26 with (first|(refine zaf rfl 41 (.tmp 129) (.tmp 128) rfl (w.heap.size) 32 rfl 45 (PL p A n c) S.b0 ([.bool ST.seen, .int .i64 ST.base, .int .i64 ST.high, .int .i64 ST.got, .int .i64 ST.wexp, .int .i64 ST.wrec, .int .i64 ST.trans, .int .i64 ST.jit]) rfl zka (show 32+8≤48 by decide) rfl (PL { p with st:=ST } A n c) rfl ?_;intro WG BG OG)|fail)
 replace S:=S.over OG BG
 clear BG OG
 have x0:=S.c0
 have x1:=S.c1
 have x9:=S.c9
 have BM:=Z9 (Blk.new WG 183 #[.int .i64 fn, .int .i64 t, .bool x.mrk, .int .u8 x.ty, .slice x.B x.pl.length x.pc])
 obtain ⟨g4,hg4⟩:∃ g,g=WG.heap.size:=⟨_,rfl⟩
 replace S:=S.push (.cells #[.int .i64 fn, .int .i64 t, .bool x.mrk, .int .u8 x.ty, .slice x.B x.pl.length x.pc] 183)
 obtain ⟨W7,hW7⟩:∃ W,W=WG.alloc (Obj.cells #[.int .i64 fn, .int .i64 t, .bool x.mrk, .int .u8 x.ty, .slice x.B x.pl.length x.pc] 183):=⟨_,rfl⟩
 rw [← hg4,← hW7] at BM
 go_upto_region 27 with fail
 rw [← hg4]
 rw [← hW7] at S ⊢
 clear hW7 hg4 x0 x1 x9
 have m0:=BM.out.at 0 _ rfl
 have m1:=BM.out.at 1 _ rfl
 have m2:=BM.out.at 2 _ rfl
 have m3:=BM.out.at 3 _ rfl
 have m4:=BM.out.at 4 _ rfl
 have hL:=S.b2.lt
 have hLw:=S.u.size
 go_wp2_with (first|(refine zae rfl 37 (.tmp 140) rfl (w.heap.size) 14 rfl 45 (PL { p with st:=ST } A n c) S.b0 14 _ Tryz.underlying37 zbi (show 14+14≤48 by decide) (#[.int .i64 p.jt.least, .int .i64 p.jt.most, .int .i64 p.jt.now, .bool p.jt.on, .int .i64 p.jt.zero, .int .i64 p.jt.first, .int .i64 p.jt.high, .int .i64 p.jt.done, .int .i64 p.jt.spread, .int .i64 p.jt.trans, .slice A n c, .int .i64 p.jt.late, .int .i64 p.jt.twice, .int .i64 p.jt.played]) (by rfl) rfl ?_)|fail)
 refine (k5.out _ (HA.out.later S.u) (HI.out.later S.u)).mono ?_
 rintro e w8 ⟨A1,c1,l1,A2,c2,l2,rfl,hl1,hl2,hW1,hW2,hc2,hm2,hb1,hc1,hm1⟩
 replace S:=S.later hb1
 have HL1:=Z9 hl1
 have HL2:=Z9 hl2
 have HOK:=Z9 (znk hl1 HOP.out hW1.cap)
 have hlen1:l1.length≤100000:=by have h1:=congrArg List.length hl1;have h2:=HM.out;simp at h1;omega
 have hs8:=hb1.size
 have BJ:=Z9 (Blk.new w8 37 (JW J A2 l2.length c2).toArray)
 obtain ⟨g5,hg5⟩:∃ g,g=w8.heap.size:=⟨_,rfl⟩
 obtain ⟨W9,hW9⟩:∃ W,W=w8.alloc (.cells (JW J A2 l2.length c2).toArray 37):=⟨_,rfl⟩
 have BB:=Z9 (show Below w8.heap.size w8 W9 by rw [hW9];exact (Below.refl _ _).alloc (Nat.le_refl _) _)
 rw [← hg5,← hW9] at BJ
 clear hb1 hl1 hl2 m0 m1 m2 m3 m4 BM k5
 go_upto_region 30 with fail
 rw [← hg5]
 change Code.wp _ _ _ _ (w8.alloc (Obj.cells (JW J A2 l2.length c2).toArray 37))
 rw [← hW9]
 replace S:=S.later BB.out
 have HW1:=Z9 (hW1.later BB.out)
 have HW2:=Z9 (hW2.later BB.out)
 clear hW9 hg5 hW1 hW2 BB
 go_upto_region 31 with (first|(refine zae rfl 37 (.tmp 19) rfl (g5) 0 rfl 37 (JW J A2 l2.length c2) BJ.out 14 _ Tryz.underlying37 zbi (show 0+14≤14 by decide) ((JW J A2 l2.length c2).toArray) (by rfl) rfl ?_)|(refine zaf rfl 37 (.tmp 154) (.tmp 153) rfl (w.heap.size) 14 rfl 45 (PL { p with st:=ST } A n c) S.b0 (JW J A2 l2.length c2) rfl zbi (show 14+14≤48 by decide) rfl (PL { p with st:=ST,jt:=J } A2 l2.length c2) rfl ?_;intro WH BH OH)|fail)
 have hW1:=Z9 (HW1.out.step OH (by omega))
 have hW2:=Z9 (HW2.out.step OH (by omega))
 replace S:=S.over OH BH
 clear BH OH
 clear HW1 HW2 BJ
 obtain ⟨q1,hq1⟩:∃ q:Sb.Pt,q = { p with st:=ST,jt:=J } := ⟨_,rfl⟩
 rw [← hq1] at S
 have k6:=Z9 fun (W:World) hW=>zfu q1 (by rw [hq1];exact hs0) (by rw [hq1];exact hs1) A2 l2.length c2 (PA q1 A2 l2.length c2) rfl A1 l1 l1.length c1 W rfl hlen1 hW HOK.out
 unfold SoundsR at k6
 rw [HL1.out] at k6
 obtain ⟨q2,hq2⟩:∃ q:Sb.Pt,q = { q1 with seed:=(Sb.sounds q1.seed jp).1 } := ⟨_,rfl⟩
 rw [← hq2] at k6
 have HQ1:=Z9 hq1
 have HQ2:=Z9 hq2
 clear hq1 hq2 hs0 hs1
 go_wp2_with (first|(refine zae rfl 45 (.tmp 3) rfl (w.heap.size) 0 rfl 45 (PL q1 A2 l2.length c2) S.b0 48 _ Tryz.underlying45 zai (show 0+48≤48 by decide) (PA q1 A2 l2.length c2) (by rfl) rfl ?_)|fail)
 refine (k6.out _ hW1.out.rows).mono ?_
 rintro e w10 ⟨SA,sc,ls,rfl,hls,hso,hb1⟩
 have hbase:w.heap.size≤WH.heap.size:=S.u.size
 have hB2l:=S.b2.lt
 replace S:=S.later hb1
 replace hW2:=Z9 (hW2.out.later hb1)
 have HLS:=Z9 hls
 have HSO:=Z9 hso
 have hsz3:=hb1.size
 clear hls hso hb1 hW1
 go_upto_region 32 with (first|(refine zaf rfl 45 (.tmp 3) (.tmp 159) rfl (w.heap.size) 0 rfl 45 (PL q1 A2 l2.length c2) S.b0 (PL q2 A2 l2.length c2) rfl zai (show 0+48≤48 by decide) rfl (PL q2 A2 l2.length c2) rfl ?_;intro WI BI OI)|fail)
 have hW3:=Z9 (hW2.out.step OI (by omega))
 replace HSO:=Z9 (HSO.out.only OI (by omega))
 replace S:=S.over OI BI
 clear BI OI
 clear hW2
 go_wp2_with (first|(refine zae rfl 45 (.tmp 3) rfl (w.heap.size) 0 rfl 45 (PL q2 A2 l2.length c2) S.b0 48 _ Tryz.underlying45 zai (show 0+48≤48 by decide) (PA q2 A2 l2.length c2) (by rfl) rfl ?_)|(refine zaf rfl 45 (.tmp 6) (.tmp 161) rfl (w.heap.size+1+1) 0 rfl 45 (PL Sb.Pt.zero none 0 0) S.b2 (PL q2 A2 l2.length c2) rfl zai (show 0+48≤48 by decide) rfl (PL q2 A2 l2.length c2) rfl ?_;intro WK2 BK2 OK2)|fail)
 have hW4:=(hW3.out.step OK2 (by omega)).less (lo':=w.heap.size) (by omega)
 refine bodyPost_ret (v := .tuple #[.agg (PA q2 A2 l2.length c2), .int .u8 jv, .slice SA l1.length sc, .int .u8 0]) (zbl Tryz.results26 rfl (PB.load BK2) rfl rfl rfl) rfl ⟨A2,l2.length,c2,l2,SA,sc,l1.length,ls,WH.heap.size+3,?_,HL2.out,rfl,hc2,hm2,hW4,?_,by omega,HSO.out.only OK2 (by omega),OK2.bel S.u (by omega)⟩
 · rw [HQ2.out,HQ1.out]
 · rw [HLS.out,HQ1.out]
theorem zsx {w W:World} {p:Sb.Pt} {A:Option Addr} {l:List TW} {n c:Nat} {x:Rx} {now:Int} (C:RC w p A l n c x now) (S:RS w W p A n c x) (fn t:Int) (on:Bool) (J:Jb.Jt) (jp:List Jb.Wt) (jv:Int) (hJ:Jb.put p.jt now ⟨fn,t,x.mrk,x.ty,x.pl⟩=(J,jp,jv,0)) (a:Act) (ha:FrE w.heap.size now on fn t a):firstWp Tryz.prog rcE_code (bodyPost Tryz.prog Tryz.f26 (RecvR ({ p with ht:=if on=false∨p.ht<t then t else p.ht,st:=Rep.arrive p.st fn (8*now) t,jt:=J,seed:=(Sb.sounds p.seed jp).1 }, jv,(Sb.sounds p.seed jp).2) w)) a W:=by
 obtain ⟨s,rfl,e1,e3,e5,e6,e13,e15,e17,_⟩:=ha
 rw [r164,e1,e3,e5,e6,e13,e15,e17]
 clear e1 e3 e5 e6 e13 e15 e17
 have HJ:=Z9 hJ
 clear hJ
 cases on
 · rw [if_pos (Or.inl rfl)]
   refine zas ?_
   intro _ _ _ _
   have x31:=S.b0.cell 31 _ rfl
   have z31:=Blk.frozen S.b0 31
   go_upto_region 25 with fail
   obtain ⟨V,hV⟩:∃ V,V=W.setCell ⟨w.heap.size,31,none⟩ (.int .i64 t):=⟨_,rfl⟩
   rw [← hV]
   have S2:RS w V { p with ht:=t } A n c x:=by rw [hV];exact S.set 31 _ rfl
   refine zan (by assumption) ?_
   exact zob (p := { p with ht:=t }) (C.with rfl rfl) S2 fn t J jp jv HJ.out _ FrD.mk
 by_cases ht:p.ht<t
 · rw [if_pos (Or.inr ht)]
   refine zas ?_
   intro _ _ _ _
   have x31:=S.b0.cell 31 _ rfl
   have z31:=Blk.frozen S.b0 31
   go_upto_region 25 with fail
   obtain ⟨V,hV⟩:∃ V,V=W.setCell ⟨w.heap.size,31,none⟩ (.int .i64 t):=⟨_,rfl⟩
   rw [← hV]
   have S2:RS w V { p with ht:=t } A n c x:=by rw [hV];exact S.set 31 _ rfl
   refine zan (by assumption) ?_
   exact zob (p := { p with ht:=t }) (C.with rfl rfl) S2 fn t J jp jv HJ.out _ FrD.mk
 · rw [if_neg (by rintro (h|h);cases h;exact ht h)]
   refine zas ?_
   intro _ _ _ _
   have x31:=S.b0.cell 31 _ rfl
   go_upto_region 25 with fail
   refine zan (by assumption) ?_
   exact zob C S fn t J jp jv HJ.out _ FrD.mk
theorem zwh {w W:World} {p:Sb.Pt} {A:Option Addr} {l:List TW} {n c:Nat} {x:Rx} {now:Int} (C:RC w p A l n c x now) (S:RS w W p A n c x) (gt:Nat) (fn t:Int) (on:Bool) (h101:¬x.ty=101) (ht0 : -140737488355328≤p.ht) (ht1:p.ht≤140737488355328) (ht:t=if on=true then Pk.near p.ht x.ti 4294967296 else x.ti) (J:Jb.Jt) (jp:List Jb.Wt) (jv:Int) (hJ:Jb.put p.jt now ⟨fn,t,x.mrk,x.ty,x.pl⟩=(J,jp,jv,0)) (a:Act) (ha:FrC w.heap.size now gt on fn a):firstWp Tryz.prog rcC_code (bodyPost Tryz.prog Tryz.f26 (RecvR ({ p with ht:=if on=false∨p.ht<t then t else p.ht,st:=Rep.arrive p.st fn (8*now) t,jt:=J,seed:=(Sb.sounds p.seed jp).1 }, jv,(Sb.sounds p.seed jp).2) w)) a W:=by
 obtain ⟨s,rfl,e1,e3,e5,e6,e11,e13,e15,_⟩:=ha
 rw [r164,e1,e3,e5,e6,e11,e13,e15]
 clear e1 e3 e5 e6 e11 e13 e15
 have HJ:=Z9 hJ
 have t0:=C.t0
 have t1:=C.t1
 have hwt:IntKind.i64.wrap x.ti=x.ti:=by simp only [IntKind.wrap,IntKind.bits,IntKind.signed];simp;omega
 have x1:=S.c1
 have x3:=S.c3
 clear hJ
 cases on
 · rw [if_neg (by decide)] at ht
   subst ht
   refine zas ?_
   intro _ _ _ _
   go_upto_region 23 with fail
   refine zbh (by assumption) (by assumption) ?_
   exact zsx C S fn x.ti false J jp jv HJ.out _ FrE.mk
 rw [if_pos rfl] at ht
 have x31:=S.b0.cell 31 _ rfl
 have k1:=Z9 fun W=>zfm (w:=W) (last:=p.ht) (x:=x.ti) t0 t1 (by omega) (by omega)
 rw [← ht] at k1
 clear ht
 refine zas ?_
 intro _ _ _ _
 go_upto_region 23 with (first|(refine (k1.out _).mono ?_;rintro e w' ⟨rfl,rfl⟩)|fail)
 refine zbh (by assumption) (by assumption) ?_
 exact zsx C S fn t true J jp jv HJ.out _ FrE.mk
end Go.Proofs.YtbcgnddpkiemoaaGreat
namespace Go.Proofs.YtbcgnddpkiemoaaGreat
open Go.RowKit
theorem ziy {w:World} {p:Sb.Pt} {A:Option Addr} {l:List TW} {n c:Nat} {x:Rx} {now:Int} {X:Array Value} (C:RC w p A l n c x now) (hw:p.wf) (hX:X=PA p A n c) (hc:Sb.chkT p now=0) (hk:speechB x.ty=true∨x.ty=13) (F:Pk.Tr) (fn t:Int) (hF:Pk.follow p.tk x.sq=(F,fn,true)) (ht:t=if p.tk.on=true then Pk.near p.ht x.ti 4294967296 else x.ti) (J:Jb.Jt) (jp:List Jb.Wt) (jv:Int) (hJ:Jb.put p.jt now ⟨fn,t,x.mrk,x.ty,x.pl⟩=(J,jp,jv,0)):Calls Tryz.prog 26 #[.agg X, .int .i64 now, .agg x.row] w (RecvR ({ p with tk:=F,ht:=if p.tk.on=false∨p.ht<t then t else p.ht,st:=Rep.arrive p.st fn (8*now) t,jt:=J,seed:=(Sb.sounds p.seed jp).1 }, jv,(Sb.sounds p.seed jp).2) w):=by
 have hnr:p.near:=by
  have hv:=(zid hc).1
  unfold Sb.Pt.valid at hv
  simp only [Bool.and_eq_true] at hv
  exact of_decide_eq_true hv.2
 obtain ⟨r1,r2,r3,r4,r5,r6⟩:=hnr
 have h101:¬x.ty=101:=by rcases hk with h|h;rcases zam.1 h with h|h|h<;>omega;omega
 have hkn:(speechB x.ty||x.ty==13)=true:=by
  rcases hk with h|h
  · rw [h];rfl
  · rw [h];rfl
 refine zsb C hw hX hc fun W a S ha=>zxd C S h101 (fun W a gt S BT hgt ha=>zxe C S BT hgt F fn true hF (by omega) (by omega) (by omega) (by omega) (fun W a S BT ha=>zxf (p := { p with tk:=F }) (C.with rfl rfl) S (fun a ha => ?_) a ha) a (by rw [hkn] at ha;exact ha)) a ha
 exact zwh (p := { p with tk:=F }) (C.with rfl rfl) S gt fn t p.tk.on h101 r5 r6 ht J jp jv hJ a ha
end Go.Proofs.YtbcgnddpkiemoaaGreat
namespace Go.Proofs.YtbcgnddpkiemoaaGreat
attribute [local go_sem ↓] zab zac
attribute [local go_sem] zaa zad
open Go.RowKit
structure HS (w W:World) (S:List Nat) (gf gt gR:Nat) (tf tt:TypeId) (cf ct:List Value) (A2:Option Addr) (l2:List TW):Prop where
 bf:Blk W gf tf cf.toArray
 bt:Blk W gt tt ct.toArray
 br:Blk W gR 53 #[.int .i64 0, .slice none 0 0]
 q:QAv W S A2 l2
 ch:Chg [gf,gt] w W
 sf:gf∈S
 st:gt∈S
 sw:∀ x∈S,x<w.heap.size
 ne:gf≠gt
 r:w.heap.size≤gR
section
variable {w W W':World} {S:List Nat} {gf gt gR:Nat} {tf tt:TypeId} {cf ct cf' ct':List Value} {A2 A2':Option Addr} {l2 l2':List TW}
theorem HS.later (h:HS w W S gf gt gR tf tt cf ct A2 l2) (hb:Below W.heap.size W W'):HS w W' S gf gt gR tf tt cf ct A2 l2 :=
 ⟨h.bf.later hb,h.bt.later hb,h.br.later hb,h.q.later hb,h.ch.trans (Chg.of_below hb),h.sf,h.st,h.sw,h.ne,h.r⟩
theorem HS.push (h:HS w W S gf gt gR tf tt cf ct A2 l2) (o:Obj):HS w (W.alloc o) S gf gt gR tf tt cf ct A2 l2:=h.later ((Below.refl _ _).alloc (Nat.le_refl _) _)
theorem HS.setF (h:HS w W S gf gt gR tf tt cf ct A2 l2) (ho:OnlyB gf W W') (hb:Blk W' gf tf cf'.toArray):HS w W' S gf gt gR tf tt cf' ct A2 l2:=by
 have h1:=h.sw gf h.sf
 have h2:=h.r
 exact ⟨hb,ho.blk h.bt (Ne.symm h.ne),ho.blk h.br (by omega),h.q.chg (Chg.of_only ho (S:=S) h.sf) (fun _ h=>h),h.ch.trans (Chg.of_only ho (by simp)),h.sf,h.st,h.sw,h.ne,h.r⟩
theorem HS.setT (h:HS w W S gf gt gR tf tt cf ct A2 l2) (ho:OnlyB gt W W') (hb:Blk W' gt tt ct'.toArray) (hq:QAv W S A2' l2'):HS w W' S gf gt gR tf tt cf ct' A2' l2':=by
 have h1:=h.sw gt h.st
 have h2:=h.r
 exact ⟨ho.blk h.bf h.ne,hb,ho.blk h.br (by omega),hq.chg (Chg.of_only ho (S:=S) h.st) (fun _ h=>h),h.ch.trans (Chg.of_only ho (by simp)),h.sf,h.st,h.sw,h.ne,h.r⟩
end
def PkAv (W:World) (S:List Nat) (A:Option Addr) (l:List TK):Prop:=RowsAv W S 11 TK.row A l∧∀ a∈l,IntsAv W S .u8 a.B a.k.pl
theorem PkAv.chg {W W':World} {S T:List Nat} {A:Option Addr} {l:List TK} (h:PkAv W S A l) (hc:Chg T W W') (hs:∀ x∈T,x∈S):PkAv W' S A l:=⟨h.1.chg hc hs,fun a ha=>(h.2 a ha).chg hc hs⟩
theorem PkAv.later {W W':World} {S:List Nat} {A:Option Addr} {l:List TK} (h:PkAv W S A l) (hb:Below W.heap.size W W'):PkAv W' S A l:=h.chg (T:=[]) (Chg.of_below hb) (by simp)
structure HC (w:World) (S:List Nat) (gf of_ gt ot:Nat) (tf tt:TypeId) (cf ct:List Value) (c:Int) (p u:Sb.Pt) (i:Nat) (tk:Option Sb.Sd) (A1:Option Addr) (c1:Nat) (A2:Option Addr) (n2 c2:Nat) (l2:List TW) (ZA:Option Addr) (zs:List Int):Prop where
 bf:Blk w gf tf cf.toArray
 bt:Blk w gt tt ct.toArray
 ne:gf≠gt
 sf:gf∈S
 st:gt∈S
 sw:∀ x∈S,x<w.heap.size
 pf:partS cf of_ 48=PL p A1 0 c1
 lf:of_+48≤cf.length
 pt:partS ct ot 48=PL u A2 n2 c2
 lt:ot+48≤ct.length
 k1:c1≤maxLen
 hq:l2.map TW.w=u.jt.q
 hn:l2.length=n2
 hc:n2≤c2
 hm:c2≤maxLen
 q:QAv w S A2 l2
 hop:Sb.Hop c p u i tk
 i40:i<40
 z:IntsAt w w.heap.size .i16 ZA zs
 zl:zs.length=160
 zb:Within (-32768) 32767 zs
theorem r119 (s:Nat→Value):((List.range 119).map s).toArray = #[s 0,s 1,s 2,s 3,s 4,s 5,s 6,s 7,s 8,s 9,s 10,s 11,s 12,s 13,s 14,s 15,s 16,s 17,s 18,s 19,s 20,s 21,s 22,s 23,s 24,s 25,s 26,s 27,s 28,s 29,s 30,s 31,s 32,s 33,s 34,s 35,s 36,s 37,s 38,s 39,s 40,s 41,s 42,s 43,s 44,s 45,s 46,s 47,s 48,s 49,s 50,s 51,s 52,s 53,s 54,s 55,s 56,s 57,s 58,s 59,s 60,s 61,s 62,s 63,s 64,s 65,s 66,s 67,s 68,s 69,s 70,s 71,s 72,s 73,s 74,s 75,s 76,s 77,s 78,s 79,s 80,s 81,s 82,s 83,s 84,s 85,s 86,s 87,s 88,s 89,s 90,s 91,s 92,s 93,s 94,s 95,s 96,s 97,s 98,s 99,s 100,s 101,s 102,s 103,s 104,s 105,s 106,s 107,s 108,s 109,s 110,s 111,s 112,s 113,s 114,s 115,s 116,s 117,s 118]:=rfl
def FrH (gf of_ gt ot gR:Nat) (now:Int) (KA:Option Addr) (kn kc:Nat):List (Nat×Value):=[(0, .pointer (some ⟨gf,of_,none⟩)),(1, .pointer (some ⟨gt,ot,none⟩)),(3, .int .i64 now),(8, .pointer (some ⟨gR,0,none⟩)),(12, .slice KA kn kc)]
noncomputable def hop5_code:Code:=((Tryz.f8.body.bind (fromReg 5)).getD .skip)
theorem hopA {w:World} {S:List Nat} {gf of_ gt ot:Nat} {tf tt:TypeId} {cf ct:List Value} {c:Int} {p u:Sb.Pt} {i:Nat} {tk:Option Sb.Sd} {A1:Option Addr} {c1:Nat} {A2:Option Addr} {n2 c2:Nat} {l2:List TW} {ZA:Option Addr} {zs:List Int} {zc:Nat} {R:Ending→World→Prop} (C:HC w S gf of_ gt ot tf tt cf ct c p u i tk A1 c1 A2 n2 c2 l2 ZA zs)
 (h:∀ (W:World) (a:Act) (gR:Nat) (A1:Option Addr) (c1:Nat) (KA:Option Addr) (kc:Nat) (ks:List TK),HS w W S gf gt gR tf tt (overS cf of_ (PL (Sb.send0 p zs).1 A1 0 c1)) ct A2 l2→c1≤maxLen→ks.map TK.k=(Sb.send0 p zs).2→PkAv W S KA ks→Fr 119 (FrH gf of_ gt ot gR (20*(i:Int)) KA ks.length kc) a→firstWp Tryz.prog hop5_code (bodyPost Tryz.prog Tryz.f8 R) a W) :
 Calls Tryz.prog 8 #[.pointer (some ⟨gf,of_,none⟩), .pointer (some ⟨gt,ot,none⟩), .slice ZA 160 zc, .int .i64 (20*(i:Int))] w R:=by
 have X:HS w (w.alloc (.cells #[.int .i64 0, .slice none 0 0] 53)) S gf gt w.heap.size tf tt cf ct A2 l2:=⟨C.bf.push _,C.bt.push _,Blk.new _ _ _,C.q.later ((Below.refl _ _).alloc (Nat.le_refl _) _),(Chg.refl _ _).push _,C.sf,C.st,C.sw,C.ne,Nat.le_refl _⟩
 have hZ:=Z9 (C.z.push (.cells #[.int .i64 0, .slice none 0 0] 53))
 obtain ⟨s1,s2,s3,s4,s5,s6⟩:=C.hop.spk
 obtain ⟨q,hqq⟩:∃ q,q=(Sb.send0 p zs).1:=⟨_,rfl⟩
 obtain ⟨ps,hps⟩:∃ ps,ps=(Sb.send0 p zs).2:=⟨_,rfl⟩
 have hqj:q.jt.q=[]∧ps.length≤1:=by
  obtain ⟨sq,hh,hp,hu⟩:=C.hop.ex
  have hi:=C.i40
  obtain ⟨more,e1,e2,hp2,_⟩:=hp.step zs (by omega) C.zl C.zb
  exact ⟨by rw [hqq];exact hp2.jq,by rw [hps];omega⟩
 have kS:=Z9 fun (V:World) hV=>zkq (w:=V) (p:=p) (A:=A1) (l:=[]) (n:=0) (c:=c1) (ZA:=ZA) (zs:=zs) (zc:=zc) (X:=PA p A1 0 c1) ⟨s2,s3.symm,rfl,by omega,by omega,C.k1,⟨fun h0=>absurd h0 (by simp),fun _ h=>by cases h⟩,(fun _ h=>by cases h),(fun _ h=>by cases h),hV,C.zb,C.zl,s1⟩ rfl s4 s5
 unfold SendR at kS
 rw [← hqq,← hps] at kS h
 obtain ⟨hqj,hpl⟩:=hqj
 have HQJ:=Z9 hqj
 have hpf:=C.pf
 have hlf:=C.lf
 clear hqq hps hqj s1 s2 s3 s4 s5 s6
 go_enter Tryz.func8,Tryz.ntmps8
 go_upto_region 1 with fail
 obtain ⟨W,hW⟩:∃ W,W=w.alloc (.cells #[.int .i64 0, .slice none 0 0] 53):=⟨_,rfl⟩
 obtain ⟨gR,hgR⟩:∃ g,g=w.heap.size:=⟨_,rfl⟩
 change Code.wp _ _ _ _ (w.alloc (.cells #[.int .i64 0, .slice none 0 0] 53))
 rw [← hW] at X hZ ⊢
 rw [← hgR] at X ⊢
 clear hW hgR
 go_wp2_with (first|(refine zae rfl 45 (.tmp 28) rfl gf of_ rfl tf cf X.bf 48 _ Tryz.underlying45 zai hlf (PA p A1 0 c1) (by rw [hpf];rfl) rfl ?_)|fail)
 have hs6:=X.ch.size
 refine (kS.out _ hZ.out).mono ?_
 rintro e w2 ⟨A',n',c',l',KA,kc,ks,rfl,hk,hq1,hn,hc1,hc2,hW,hP,hb2,hN⟩
 obtain rfl:l'=[]:=List.map_eq_nil_iff.1 (hq1.trans HQJ.out)
 obtain rfl:0=n':=hn
 replace X:=X.later hb2
 have hsw:=C.sw
 have HP:Hid (PkAv w2 S KA ks):=Z9 ⟨⟨hP.1,fun h0 b off e hb=>by have h1:=hN.1 h0 b off e;have h2:=hsw b hb;omega⟩,fun a ha=>⟨hP.2 a ha,fun h0 b off e hb=>by have h1:=hN.2 a ha h0 b off e;have h2:=hsw b hb;omega⟩⟩
 have HK:=Z9 hk
 have hkl:ks.length≤1:=by have h9:=congrArg List.length hk;simp at h9;omega
 have hs7:=X.ch.size
 clear hb2 hW hq1 hc1 kS hP hN hk
 have hb9:=(Below.refl w2.heap.size w2).alloc (Nat.le_refl _) (Obj.cells (PA Sb.Pt.zero none 0 0) 45)
 have BZ:Blk (w2.alloc (Obj.cells (PA Sb.Pt.zero none 0 0) 45)) w2.heap.size 45 (PL Sb.Pt.zero none 0 0).toArray:=Blk.new _ _ _
 have hkl2:¬(1:Int)<(ks.length:Int):=by omega
 go_upto_region 2 with (first|(refine zaf rfl 45 (.tmp 11) (.tmp 32) rfl (w2.heap.size) 0 rfl 45 (PL Sb.Pt.zero none 0 0) BZ (PL q A' 0 c') rfl zai (show 0+48≤48 by decide) rfl (PL q A' 0 c') rfl ?_;intro WB HB3 OB)|fail)
 have hb8:=OB.below hb9 (by simp) (Nat.le_refl _)
 replace X:=X.later hb8
 replace HP:=Z9 (HP.out.later hb8)
 have hgf:=C.sw gf C.sf
 obtain ⟨g3,hg3⟩:∃ g,g=w2.heap.size:=⟨_,rfl⟩
 rw [← hg3] at HB3 hs7 ⊢
 clear hg3 OB BZ hb8 hb9
 have hg3a:g3≠gf:=by omega
 go_upto_region 4 with fail
 go_upto_region 5 with (first|(refine zae rfl 45 (.tmp 11) rfl g3 0 rfl 45 (PL q A' 0 c') HB3 48 _ Tryz.underlying45 zai (show 0+48≤48 by decide) (PA q A' 0 c') (by rfl) rfl ?_)|(refine zaf rfl 45 (.tmp 45) (.tmp 44) rfl gf of_ rfl tf cf X.bf (PL q A' 0 c') rfl zai (show of_+48≤cf.length from hlf) rfl _ rfl ?_;intro WF BF OF)|fail)
 replace X:=X.setF OF BF
 replace HP:=Z9 (HP.out.chg (Chg.of_only OF (S:=[gf]) (by simp)) (by intro x hx;simp at hx;rw [hx];exact C.sf))
 clear BF OF HB3
 refine zbh (by assumption) (by assumption) ?_
 refine h _ _ gR A' c' KA kc ks X hc2 HK.out HP.out ?_
 exact Fr.mk rfl ⟨rfl,rfl,rfl,rfl,rfl,trivial⟩
end Go.Proofs.YtbcgnddpkiemoaaGreat
namespace Go.Proofs.YtbcgnddpkiemoaaGreat
open Go.RowKit
theorem zdv {w:World} {p:Sb.Pt} {A:Option Addr} {l:List TW} {n c:Nat} {x:Rx} {now:Int} {X:Array Value} (C:RC w p A l n c x now) (hw:p.wf) (hX:X=PA p A n c) (hc:Sb.chkT p now=0) (hk:speechB x.ty=true∨x.ty=13) (hF:(Pk.follow p.tk x.sq).2.2=true) (hJ:(Jb.put p.jt now ⟨(Pk.follow p.tk x.sq).2.1,Sb.time p x.arr,x.mrk,x.ty,x.pl⟩).2.2.2=0):Calls Tryz.prog 26 #[.agg X, .int .i64 now, .agg x.row] w (RecvR (Sb.recv0 p now x.arr) w):=by
 have hkn:¬Sb.known x.arr=false:=by
  unfold Sb.known
  rcases hk with e|e
  · rw [show x.arr.ty=x.ty from rfl,e];simp
  · rw [show x.arr.ty=x.ty from rfl,e];simp
 have h101:¬x.ty=101:=by rcases hk with h|h;rcases zam.1 h with h|h|h<;>omega;omega
 have e:Sb.recv0 p now x.arr=({ p with tk:=(Pk.follow p.tk x.sq).1,ht:=if p.tk.on=false∨p.ht<Sb.time p x.arr then Sb.time p x.arr else p.ht,st:=Rep.arrive p.st (Pk.follow p.tk x.sq).2.1 (8*now) (Sb.time p x.arr),jt:=(Jb.put p.jt now ⟨(Pk.follow p.tk x.sq).2.1,Sb.time p x.arr,x.mrk,x.ty,x.pl⟩).1,seed:=(Sb.sounds p.seed (Jb.put p.jt now ⟨(Pk.follow p.tk x.sq).2.1,Sb.time p x.arr,x.mrk,x.ty,x.pl⟩).2.1).1 }, (Jb.put p.jt now ⟨(Pk.follow p.tk x.sq).2.1,Sb.time p x.arr,x.mrk,x.ty,x.pl⟩).2.2.1,(Sb.sounds p.seed (Jb.put p.jt now ⟨(Pk.follow p.tk x.sq).2.1,Sb.time p x.arr,x.mrk,x.ty,x.pl⟩).2.1).2):=by
  unfold Sb.recv0
  rw [if_neg hkn]
  simp only
  rw [if_neg (by rw [show x.arr.sq=x.sq from rfl,hF];decide),if_neg (show ¬x.arr.ty=101 from h101)]
  rfl
 rw [e]
 obtain ⟨f1,f2,f3⟩:∃ F:Pk.Tr×Int×Bool,F=Pk.follow p.tk x.sq:=⟨_,rfl⟩
 refine ziy C hw hX hc hk _ _ (Sb.time p x.arr) (by rw [← hF]) rfl _ _ _ ?_
 rw [← hJ]
theorem zsy {s:Jb.Jt} (h:s.ok):∀ a∈s.q,I64 a.m.sq:=fun a ha=>by
 have h1:=((Jb.okQ_iff _ _ _).1 h.2.2.2.2).2.1 a ha
 have h2:=h1.1.1
 unfold I64
 omega
end Go.Proofs.YtbcgnddpkiemoaaGreat
namespace Go.Proofs.YtbcgnddpkiemoaaGreat
attribute [local go_sem ↓] zab zac
attribute [local go_sem] zaa zad
open Go.RowKit
theorem QAv.of_win {W:World} {lo:Nat} {S:List Nat} {A:Option Addr} {l:List TW} (h:WtsIn W lo W.heap.size A l) (hs:∀ x∈S,x<lo):QAv W S A l :=
 ⟨h.rows,fun h0 b off e hb=>by have h1:=h.low h0 b off e;have h2:=hs b hb;omega,fun a ha h0 b off e hb=>by have h1:=h.plow a ha h0 b off e;have h2:=hs b hb;omega⟩
def SdAv (W:World) (S:List Nat) (A:Option Addr) (l:List TS):Prop:=RowsAv W S 3 TS.row A l∧∀ a∈l,IntsAv W S .i16 a.S a.s.zs
theorem SdAv.chg {W W':World} {S T:List Nat} {A:Option Addr} {l:List TS} (h:SdAv W S A l) (hc:Chg T W W') (hs:∀ x∈T,x∈S):SdAv W' S A l:=⟨h.1.chg hc hs,fun a ha=>(h.2 a ha).chg hc hs⟩
theorem SdAv.later {W W':World} {S:List Nat} {A:Option Addr} {l:List TS} (h:SdAv W S A l) (hb:Below W.heap.size W W'):SdAv W' S A l:=h.chg (T:=[]) (Chg.of_below hb) (by simp)
theorem SdAv.of_own {W:World} {S:List Nat} {base n c:Nat} {A:Option Addr} {l:List TS} (h:SOwn W base A n c l) (hs:∀ x∈S,x<base):SdAv W S A l:=by
 refine ⟨⟨Owns.rows (l:=l) (row:=TS.row) h.own h.len (fun a=>rfl),fun h0 b off e hb => ?_⟩,fun a ha=>⟨h.pay a ha,fun h0 b off e hb => ?_⟩⟩
 · have h1:=(h.own.block b (by rw [e];rfl)).1
   have:=hs b hb
   omega
 · have h1:=h.new a ha h0 b off e
   have:=hs b hb
   omega
theorem SdAv.sds {W:World} {S:List Nat} {A:Option Addr} {l:List TS} (h:SdAv W S A l):Sds W W.heap.size A l:=⟨h.1.1,fun a ha=>(h.2 a ha).1⟩
structure HR (w w':World) (S:List Nat) (gf of_ gt ot:Nat) (tf tt:TypeId) (cf ct:List Value) (c:Int) (p:Sb.Pt) (i:Nat) (tk:Option Sb.Sd) (zs:List Int) (p' u':Sb.Pt) (A1:Option Addr) (c1:Nat) (A2:Option Addr) (n2 c2:Nat) (l2:List TW) (kd:Int) (TA:Option Addr) (tz:List Int) (SA:Option Addr) (ls:List TS) (tk':Option Sb.Sd):Prop where
 bf:Blk w' gf tf (overS cf of_ (PL p' A1 0 c1)).toArray
 k1:c1≤maxLen
 bt:Blk w' gt tt (overS ct ot (PL u' A2 n2 c2)).toArray
 hq:l2.map TW.w=u'.jt.q
 hn:l2.length=n2
 hc:n2≤c2
 hm:c2≤maxLen
 q:QAv w' S A2 l2
 hop:Sb.Hop c p' u' (i+1) tk'
 tick:Sb.TkK (20*((i+1:Nat):Int)) kd tz tk'
 tza:IntsAv w' S .i16 TA tz
 f2:Sb.F2 Sb.mG (ls.map TS.s) tk.toList
 sd:SdAv w' S SA ls
 bd:∀ a∈ls,Within (-32768) 32767 a.s.zs
 ch:Chg [gf,gt] w w'
 en:kd=1→tz=Sb.decS c (Sb.enc c (p.cv,p.ci) zs).1
def HopR (S:List Nat) (gf of_ gt ot:Nat) (tf tt:TypeId) (cf ct:List Value) (c:Int) (p:Sb.Pt) (i:Nat) (tk:Option Sb.Sd) (zs:List Int) (w:World) (e:Ending) (w':World):Prop :=
 ∃ (p' u':Sb.Pt) (A1:Option Addr) (c1:Nat) (A2:Option Addr) (n2 c2:Nat) (l2:List TW) (kd:Int) (TA:Option Addr) (tn tc:Nat) (tz:List Int) (SA:Option Addr) (sn sc:Nat) (ls:List TS) (tk':Option Sb.Sd),e = .returned (.tuple #[.agg #[.int .i64 kd, .slice TA tn tc], .slice SA sn sc, .bool true])∧tz.length=tn∧ls.length=sn∧HR w w' S gf of_ gt ot tf tt cf ct c p i tk zs p' u' A1 c1 A2 n2 c2 l2 kd TA tz SA ls tk'
theorem HS.fin {w W W':World} {S:List Nat} {gf gt gR:Nat} {tf tt:TypeId} {cf ct:List Value} {A2:Option Addr} {l2:List TW} {A3:Option Addr} {l3:List TW} {SA:Option Addr} {ls:List TS} {TA:Option Addr} {tz:List Int} (h:HS w W S gf gt gR tf tt cf ct A2 l2) (hq:QAv W (gR::S) A3 l3) (hs:SdAv W (gR::S) SA ls) (ht:IntsAv W (gR::S) .i16 TA tz) (ho:OnlyB gR W W') :
 Blk W' gf tf cf.toArray∧Blk W' gt tt ct.toArray∧QAv W' S A3 l3∧SdAv W' S SA ls∧IntsAv W' S .i16 TA tz∧Chg [gf,gt] w W':=by
 have h1:=h.sw gf h.sf
 have h2:=h.sw gt h.st
 have h3:=h.r
 have hc:Chg [gR] W W':=Chg.of_only ho (by simp)
 have hm:∀ x ∈ [gR],x∈gR::S:=by intro x hx;simp at hx;simp [hx]
 have hsub:∀ x∈S,x∈gR::S:=fun x hx=>List.mem_cons_of_mem _ hx
 have s1:=(hs.chg hc hm)
 refine ⟨ho.blk h.bf (by omega),ho.blk h.bt (by omega),(hq.chg hc hm).sub hsub,⟨⟨s1.1.1,fun h0 b off e hb=>s1.1.2 h0 b off e (hsub b hb)⟩,fun a ha=>(s1.2 a ha).sub hsub⟩,(ht.chg hc hm).sub hsub,?_⟩
 have hc2:Chg [gR,gf,gt] w W':=(h.ch.more (T:=[gR,gf,gt]) (fun x hx=>List.mem_cons_of_mem _ hx)).trans (hc.more (by intro x hx;simp at hx;simp [hx]))
 exact hc2.less h3
theorem zue {w W:World} {S:List Nat} {gf of_ gt ot gR:Nat} {tf tt:TypeId} {cf ct:List Value} {c:Int} {p u:Sb.Pt} {i:Nat} {tk:Option Sb.Sd} {A1:Option Addr} {c1:Nat} {A1':Option Addr} {c1':Nat} {A2:Option Addr} {n2 c2:Nat} {l2:List TW} {ZA:Option Addr} {zs:List Int} {KA:Option Addr} {kc:Nat} (C:HC w S gf of_ gt ot tf tt cf ct c p u i tk A1 c1 A2 n2 c2 l2 ZA zs)
 (X:HS w W S gf gt gR tf tt (overS cf of_ (PL (Sb.send0 p zs).1 A1' 0 c1')) ct A2 l2) (hk1:c1'≤maxLen) (h0:(Sb.send0 p zs).2=[]) (a:Act) (ha:Fr 119 (FrH gf of_ gt ot gR (20*(i:Int)) KA 0 kc) a):firstWp Tryz.prog hop5_code (bodyPost Tryz.prog Tryz.f8 (HopR S gf of_ gt ot tf tt cf ct c p i tk zs w)) a W:=by
 obtain ⟨s,rfl,hs⟩:=ha
 rw [r119]
 obtain ⟨e0,e1,e3,e8,e12,_⟩:=hs
 rw [e0,e1,e3,e8,e12]
 obtain ⟨s1,s2,s3⟩:=C.hop.step0 C.i40 zs C.zl C.zb h0
 obtain ⟨t1,t2,t3,t4,t5⟩:=C.hop.lis C.i40
 have hql:n2≤1:=by have h9:=congrArg List.length C.hq;rw [List.length_map,C.hn] at h9;omega
 have kP:=Z9 fun (V:World) hV=>zpe u t2 A2 l2 n2 c2 (PA u A2 n2 c2) rfl V C.hq C.hn (by omega) C.hc C.hm hV (fun a ha=>by
  exact zsy t4 a.w (by rw [← C.hq];exact List.mem_map_of_mem ha)) (20*(i:Int)) t1 t5
 unfold PlayV at kP
 generalize hRR:Sb.run u (20*(i:Int))=RR at kP s1 s2 s3
 obtain ⟨u',sds⟩:=RR
 have hpt:=C.pt
 have hlt:=C.lt
 have hsw:=C.sw
 have h10:¬(0:Int)=1:=by decide
 refine zas ?_
 intro _ _ _ _
 go_upto_region 6 with fail
 go_wp2_with (first|(refine zae rfl 45 (.tmp 51) rfl gt ot rfl tt ct X.bt 48 _ Tryz.underlying45 zai hlt (PA u A2 n2 c2) (by rw [hpt];rfl) rfl ?_)|fail)
 refine (kP.out _ X.q.wts).mono ?_
 rintro e w2 ⟨A',n',c',l',SA,sc,m,ls,base,rfl,hq1,hn,hc1,hc2,hW,hls,hbs,hS,hb2⟩
 have hs6:=X.ch.size
 have hgW:=X.br.lt
 have hin:∀ x∈gR::S,x<W.heap.size:=fun x hx=>by
  rcases List.mem_cons.1 hx with e|hx
  · omega
  · have:=hsw x hx;omega
 have HQ:=Z9 (QAv.of_win hW hin)
 have HS:=Z9 (SdAv.of_own hS (S:=gR::S) (fun x hx=>by have:=hin x hx;omega))
 have hsl:=hS.len
 replace X:=X.later hb2
 have hs7:=X.ch.size
 have hb9:=(Below.refl w2.heap.size w2).alloc (Nat.le_refl _) (Obj.cells (PA Sb.Pt.zero none 0 0) 45)
 have BZ:Blk (w2.alloc (Obj.cells (PA Sb.Pt.zero none 0 0) 45)) w2.heap.size 45 (PL Sb.Pt.zero none 0 0).toArray:=Blk.new _ _ _
 clear hb2 hW hS kP
 go_upto_region 7 with (first|(refine zaf rfl 45 (.tmp 14) (.tmp 55) rfl (w2.heap.size) 0 rfl 45 (PL Sb.Pt.zero none 0 0) BZ (PL u' A' n' c') rfl zai (show 0+48≤48 by decide) rfl (PL u' A' n' c') rfl ?_;intro WB HB3 OB)|fail)
 have hb8:=OB.below hb9 (by simp) (Nat.le_refl _)
 replace X:=X.later hb8
 replace HQ:=Z9 (HQ.out.later hb8)
 replace HS:=Z9 (HS.out.later hb8)
 have hgt:=hsw gt C.st
 obtain ⟨g3,hg3⟩:∃ g,g=w2.heap.size:=⟨_,rfl⟩
 rw [← hg3] at HB3 hs7 ⊢
 clear hg3 OB BZ hb8 hb9
 have hg3a:g3≠gt:=by omega
 go_upto_region 8 with (first|(refine zae rfl 45 (.tmp 14) rfl g3 0 rfl 45 (PL u' A' n' c') HB3 48 _ Tryz.underlying45 zai (show 0+48≤48 by decide) (PA u' A' n' c') (by rfl) rfl ?_)|(refine zaf rfl 45 (.tmp 60) (.tmp 59) rfl gt ot rfl tt ct X.bt (PL u' A' n' c') rfl zai (show ot+48≤ct.length from hlt) rfl _ rfl ?_;intro WF BF OF)|fail)
 have hcT:Chg [gt] WB WF:=Chg.of_only OF (by simp)
 have hmT:∀ x ∈ [gt],x∈gR::S:=by intro x hx;simp at hx;rw [hx];exact List.mem_cons_of_mem _ C.st
 replace X:=X.setT OF BF (HQ.out.sub fun x hx=>List.mem_cons_of_mem _ hx)
 replace HQ:=Z9 (HQ.out.chg hcT hmT)
 replace HS:=Z9 (HS.out.chg hcT hmT)
 clear BF OF HB3 hcT hmT
 have r0:=X.br.at 0 _ rfl
 have r1:=X.br.at 1 _ rfl
 have rz:=X.br.frozen
 go_wp2_with fail
 have ho:OnlyB gR WF ((WF.setCell ⟨gR,0,none⟩ (.int .i64 0)).setCell ⟨gR,1,none⟩ (.slice none 0 0)):=(OnlyB.setCell WF gR 0 _).trans (OnlyB.setCell _ gR 1 _)
 have BF:=(X.br.set_ 0 (.int .i64 0)).set_ 1 (.slice none 0 0)
 obtain ⟨f1,f2,f3,f4,f5,f6⟩:=X.fin HQ.out HS.out (IntsAv.nil (k := .i16) (A:=none)) ho
 refine bodyPost_ret (v := .tuple #[.agg #[.int .i64 0, .slice none 0 0], .slice SA m sc, .bool true]) (zax Tryz.results8 rfl (run_loadVar_row (P:=Tryz.prog) _ _ _ _ _ _ _ BF Tryz.underlying53 rfl (by kernel_rfl)) rfl rfl) rfl ⟨_,u',A1',c1',A',n',c',l',0,none,0,0,[],SA,m,sc,ls,none,rfl,rfl,hsl,⟨f1,hk1,f2,hq1,hn,hc1,hc2,f3,s3, .none,f5,by rw [hls];exact s1,f4,fun a ha=>s2 a.s (by rw [← hls];exact List.mem_map_of_mem ha),f6,fun h=>by cases h⟩⟩
theorem WtsIn.onlyN {W W':World} {lo hi g:Nat} {A:Option Addr} {l:List TW} (h:WtsIn W lo hi A l) (ho:OnlyB g W W') (hg:g<lo∨hi≤g):WtsIn W' lo hi A l:=h.keep fun p h1 h2=>ho.cell (by omega)
structure SdIn (w:World) (lo hi:Nat) (A:Option Addr) (l:List TS):Prop where
 rows:RowsAt w hi 3 TS.row A l
 low:0<l.length→∀ b off,A=some ⟨b,off,none⟩→lo≤b
 pay:∀ a∈l,IntsAt w hi .i16 a.S a.s.zs∧(0<a.s.zs.length→∀ b off,a.S=some ⟨b,off,none⟩→lo≤b)
section
variable {w w':World} {lo hi:Nat} {A:Option Addr} {l:List TS}
theorem SdIn.keep (h:SdIn w lo hi A l) (hk:∀ p:Addr,lo≤p.block→p.block<hi→w'.cell? p=w.cell? p):SdIn w' lo hi A l:=by
 refine ⟨fun h0 => ?_,h.low,fun a ha=>⟨fun h0 => ?_,(h.pay a ha).2⟩⟩
 · obtain ⟨b,off,rfl,hb,hc⟩:=h.rows h0
   have hlo:=h.low h0 b off rfl
   exact ⟨b,off,rfl,hb,fun i a ha j v hv=>(hk _ hlo hb).trans (hc i a ha j v hv)⟩
 · obtain ⟨b,off,e,hb,hc⟩:=(h.pay a ha).1 h0
   have hlo:=(h.pay a ha).2 h0 b off e
   exact ⟨b,off,e,hb,fun i hi=>(hk _ hlo hb).trans (hc i hi)⟩
theorem SdIn.onlyN {g:Nat} (h:SdIn w lo hi A l) (ho:OnlyB g w w') (hg:g<lo∨hi≤g):SdIn w' lo hi A l:=h.keep fun p h1 h2=>ho.cell (by omega)
theorem SdIn.below (h:SdIn w lo hi A l) {B:Nat} (hb:Below B w w') (hB:hi≤B):SdIn w' lo hi A l:=h.keep fun q _ hq=>hb.cell (by omega)
theorem SdIn.more {hi':Nat} (h:SdIn w lo hi A l) (hl:hi≤hi'):SdIn w lo hi' A l:=⟨h.rows.more hl,h.low,fun a ha=>⟨(h.pay a ha).1.more hl,(h.pay a ha).2⟩⟩
theorem SdIn.less {lo':Nat} (h:SdIn w lo hi A l) (hl:lo'≤lo):SdIn w lo' hi A l:=⟨h.rows,fun h0 b off e=>Nat.le_trans hl (h.low h0 b off e),fun a ha=>⟨(h.pay a ha).1,fun h0 b off e=>Nat.le_trans hl ((h.pay a ha).2 h0 b off e)⟩⟩
theorem SdIn.av {S:List Nat} (h:SdIn w lo w.heap.size A l) (hs:∀ x∈S,x<lo):SdAv w S A l :=
 ⟨⟨h.rows,fun h0 b off e hb=>by have h1:=h.low h0 b off e;have h2:=hs b hb;omega⟩,fun a ha=>⟨(h.pay a ha).1,fun h0 b off e hb=>by have h1:=(h.pay a ha).2 h0 b off e;have h2:=hs b hb;omega⟩⟩
theorem SOwn.in_ {base n c:Nat} (h:SOwn w base A n c l):SdIn w base w.heap.size A l :=
 ⟨Owns.rows (l:=l) (row:=TS.row) h.own h.len (fun a=>rfl),fun h0 b off e=>(h.own.block b (by rw [e];rfl)).1,fun a ha=>⟨h.pay a ha,h.new a ha⟩⟩
end
noncomputable def hop11_code:Code:=((Tryz.f8.body.bind (findRegS 11)).getD .skip)
theorem zqv {s0 s2 s4 s5 s6 s7 s8 s9 s10 s11 s12 s13 s14 s15 s16 s17 s18 s20 s21 s22 s23 s24 s25 s26 s27 s28 s29 s30 s31 s32 s33 s34 s35 s36 s37 s38 s39 s40 s41 s42 s43 s44 s45 s46 s47 s48 s49 s50 s51 s52 s53 s54 s55 s56 s57 s58 s59 s60 s61 s62 s63 s64 s65 s66 s67 s68 s69 s70 s71 s72 s73 s74 s75 s76 s77 s78 s79 s80 s81 s82 s83 s84 s85 s86 s87 s88 s89 s90 s91 s92 s93 s94 s95 s96 s97 s98 s99 s100 s101 s102 s103 s104 s105 s106 s107 s108 s109 s110 s111 s112 s113 s114 s115 s116 s117 s118:Value} {Q:Exit→Act→World→Prop} (gt ot gX:Nat) (tt:TypeId) (ct:List Value) (x:Rx) (now:Int) (u:Sb.Pt) (A:Option Addr) (n c:Nat) (hlt:ot+48≤ct.length) (hpt:partS ct ot 48=PL u A n c) (R:Sb.Pt×Int×List Sb.Sd) (W:World) (hB:Blk W gt tt ct.toArray) (x0:W.cell? ⟨gX,0,none⟩=some (.bool x.mrk)) (x1:W.cell? ⟨gX,1,none⟩=some (.int .u8 x.ty)) (x2:W.cell? ⟨gX,2,none⟩=some (.int .u16 x.sq)) (x3:W.cell? ⟨gX,3,none⟩=some (.int .u32 x.ti)) (x4:W.cell? ⟨gX,4,none⟩=some (.int .u32 x.src)) (x5:W.cell? ⟨gX,5,none⟩=some (.slice x.CA x.cn x.cc)) (x6:W.cell? ⟨gX,6,none⟩=some (.bool x.ex)) (x7:W.cell? ⟨gX,7,none⟩=some (.int .u16 x.pr)) (x8:W.cell? ⟨gX,8,none⟩=some (.slice x.EA x.en x.ec)) (x9:W.cell? ⟨gX,9,none⟩=some (.slice x.B x.pl.length x.pc)) (x10:W.cell? ⟨gX,10,none⟩=some (.int .i64 x.pad)) (kR:∀ V:World,Below W.heap.size W V→Calls Tryz.prog 26 #[.agg (PA u A n c), .int .i64 now, .agg x.row] V (RecvR R V)) (hQp:∀ (ch:_) (a:Act) (d:Tmp) (u:Value) (w:World),Q (.panic ch) (a.put (some d) u) w→Q (.panic ch) a w)
 (h:∀ (wx:World) (g3:Nat) (SA:Option Addr) (sc m:Nat) (A':Option Addr) (n' c':Nat) (l':List TW) (ls:List TS) (u78 u79 u80 u81 u82 u83 u84 u85 u86 u87 u88:Value),Hid (PB wx g3 R.1 A' n' c')→Hid (l'.map TW.w=R.1.jt.q)→l'.length=n'→n'≤c'→c'≤maxLen→Hid (WtsIn wx W.heap.size wx.heap.size A' l')→Hid (ls.map TS.s=R.2.2)→ls.length=m→Hid (SdIn wx W.heap.size wx.heap.size SA ls)→W.heap.size≤g3→Hid (Below W.heap.size W wx)→Q .normal ⟨#[s0, .pointer (some ⟨gt,ot,none⟩),s2, .int .i64 now,s4,s5,s6,s7,s8,s9,s10,s11,s12,s13,s14,s15,s16,s17,s18, .pointer (some ⟨gX,0,none⟩),s20,s21, .pointer (some ⟨g3,0,none⟩), .int .u8 R.2.1, .slice SA m sc, .int .u8 0,s26,s27,s28,s29,s30,s31,s32,s33,s34,s35,s36,s37,s38,s39,s40,s41,s42,s43,s44,s45,s46,s47,s48,s49,s50,s51,s52,s53,s54,s55,s56,s57,s58,s59,s60,s61,s62,s63,s64,s65,s66,s67,s68,s69,s70,s71,s72,s73,s74,s75,s76,s77,u78,u79,u80,u81,u82,u83,u84,u85,u86,u87,u88,s89,s90,s91,s92,s93,s94,s95,s96,s97,s98,s99,s100,s101,s102,s103,s104,s105,s106,s107,s108,s109,s110,s111,s112,s113,s114,s115,s116,s117,s118],[]⟩ wx):hop11_code.wp Tryz.prog Q ⟨#[s0, .pointer (some ⟨gt,ot,none⟩),s2, .int .i64 now,s4,s5,s6,s7,s8,s9,s10,s11,s12,s13,s14,s15,s16,s17,s18, .pointer (some ⟨gX,0,none⟩),s20,s21,s22,s23,s24,s25,s26,s27,s28,s29,s30,s31,s32,s33,s34,s35,s36,s37,s38,s39,s40,s41,s42,s43,s44,s45,s46,s47,s48,s49,s50,s51,s52,s53,s54,s55,s56,s57,s58,s59,s60,s61,s62,s63,s64,s65,s66,s67,s68,s69,s70,s71,s72,s73,s74,s75,s76,s77,s78,s79,s80,s81,s82,s83,s84,s85,s86,s87,s88,s89,s90,s91,s92,s93,s94,s95,s96,s97,s98,s99,s100,s101,s102,s103,s104,s105,s106,s107,s108,s109,s110,s111,s112,s113,s114,s115,s116,s117,s118],[]⟩ W:=by
 have HB:=Z9 hB
 unfold Rx.row at kR
 replace kR:=Z9 kR
 clear hB
 have hq:=Z9 h
 clear h
 conv=>arg 2;whnf
 refine wp_region_held_drew (S:=fun w'=>Below W.heap.size W w') (by kernel_rfl) (Below.drew (Below.refl _ _)) (fun qH => ?_)
 obtain ⟨X,hX⟩:∃ X,X=W.drew:=⟨_,rfl⟩
 rw [← hX] at qH ⊢
 clear hX
 refine tk1 (i:=0) (v:=?_) rfl (Or.inl ⟨by rfl,?_⟩) qH ?_ (hQ:=q9 hQp)
 rotate_left
 · (intro w hSw;clear hSw;go_simp;try with_reducible rfl)
 try simp only [ss9]
 refine tk1 (i:=1) (v:=?_) rfl (Or.inl ⟨by rfl,?_⟩) qH ?_ (hQ:=q9 hQp)
 rotate_left
 · (intro w hSw;clear hSw;go_simp;try with_reducible rfl)
 try simp only [ss9]
 refine tk1 (i:=2) (v := .agg (PA u A n c)) rfl (zat rfl 45 (.tmp 80) rfl gt ot rfl tt ct (fun w h=>HB.out.later h) 48 _ Tryz.underlying45 zai hlt _ (by rw [hpt];rfl) rfl) qH ?_ (hQ:=q9 hQp)
 try simp only [ss9]
 refine tk1 (i:=3) (v:=?_) rfl (Or.inl ⟨by rfl,?_⟩) qH ?_ (hQ:=q9 hQp)
 rotate_left
 · (intro w hSw;clear hSw;go_simp;try with_reducible rfl)
 try simp only [ss9]
 refine tk1 (i:=4) (v:=?_) rfl (Or.inl ⟨by rfl,?_⟩) qH ?_ (hQ:=q9 hQp)
 rotate_left
 · (intro w hSw;have c0:=zag hSw x0;have c1:=zag hSw x1;have c2:=zag hSw x2;have c3:=zag hSw x3;have c4:=zag hSw x4;have c5:=zag hSw x5;have c6:=zag hSw x6;have c7:=zag hSw x7;have c8:=zag hSw x8;have c9:=zag hSw x9;have c10:=zag hSw x10;clear hSw;go_simp;try with_reducible rfl)
 try simp only [ss9]
 all_goals try
  fail_if_success (have hx:=HD)
  refine wpAnyH_ready (rs:=[5,11]) (by kernel_rfl) (by simp) ?_
  refine AllReadyH.cons (o:=_) rfl (fun K hK => ?_) (AllReadyH.cons (o:=_) rfl (fun K hK => ?_) AllReadyH.nil)
  rotate_left
  go_simp
  have HD:Hid (Blk (X.alloc (Obj.cells #[.int .u8 0, .int .u32 0, .int .u16 0, .int .u32 0, .bool false, .int .i64 0, .int .i64 0, .int .i64 0, .bool false, .int .u8 0, .int .u8 0, .int .u32 0, .int .i64 0, .int .i64 0, .int .i64 0, .int .i64 0, .int .i64 0, .bool false, .int .i64 0, .int .i64 0, .int .i64 0, .int .i64 0, .int .i64 0, .int .i64 0, .slice none 0 0, .int .i64 0, .int .i64 0, .int .i64 0, .bool false, .int .i64 0, .int .i64 0, .int .i64 0, .bool false, .int .i64 0, .int .i64 0, .int .i64 0, .int .i64 0, .int .i64 0, .int .i64 0, .int .i64 0, .bool false, .int .u32 0, .int .u8 0, .int .i64 0, .bool false, .int .u32 0, .int .u32 0, .int .u32 0] 45)) X.heap.size 45 (PL Sb.Pt.zero none 0 0).toArray):=Z9 (Blk.new _ _ _)
  have hg8:W.heap.size≤X.heap.size:=qH.size
  obtain ⟨g8,hgg⟩:∃ g,g=X.heap.size:=⟨_,rfl⟩
  refine hK.out _ _ ?_ (fun qH => ?_)
  · exact zah qH _
  clear hK K
  try simp only [ss9]
  rw [← hgg] at HD hg8 ⊢
  have HGG:=Z9 hgg
  clear hgg
  obtain ⟨Y,hY⟩:∃ V,V=X.alloc (Obj.cells #[.int .u8 0, .int .u32 0, .int .u16 0, .int .u32 0, .bool false, .int .i64 0, .int .i64 0, .int .i64 0, .bool false, .int .u8 0, .int .u8 0, .int .u32 0, .int .i64 0, .int .i64 0, .int .i64 0, .int .i64 0, .int .i64 0, .bool false, .int .i64 0, .int .i64 0, .int .i64 0, .int .i64 0, .int .i64 0, .int .i64 0, .slice none 0 0, .int .i64 0, .int .i64 0, .int .i64 0, .bool false, .int .i64 0, .int .i64 0, .int .i64 0, .bool false, .int .i64 0, .int .i64 0, .int .i64 0, .int .i64 0, .int .i64 0, .int .i64 0, .int .i64 0, .bool false, .int .u32 0, .int .u8 0, .int .i64 0, .bool false, .int .u32 0, .int .u32 0, .int .u32 0] 45):=⟨_,rfl⟩
  rw [← hY] at HD qH ⊢
  clear hY
  obtain ⟨X,hX⟩:∃ X,X=Y:=⟨_,rfl⟩
  subst hX
 all_goals try
  refine wpAnyH_ready (rs:=[5]) (by kernel_rfl) (by simp) ?_
  refine AllReadyH.cons (o:=_) rfl (fun K hK => ?_) AllReadyH.nil
 all_goals
  go_simp
  try have HCS:=Z9 HD.out.lt
  have hlo:=qH.size
  refine (kR.out _ qH).mono ?_
  rintro e X ⟨A',n',c',l',SA,sc,m,ls,base,rfl,hq1,hn,hc1,hc2,hW,hls,hbs,hso,hb2⟩
  have HW:=Z9 hW
  have hlm:=hso.len
  have HSD:=Z9 (hso.in_.less hbs)
  have HQ1:=Z9 hq1
  have HLS:=Z9 hls
  clear hq1 hW hls hso hbs
  try replace HD:=Z9 (HD.out.later hb2)
  refine hK.out _ _ ?_ (fun qH => ?_)
  · exact zak hb2 qH
  clear hK K hb2
  try simp only [ss9]
 all_goals
  refine tk1 (i:=6) (v:=?_) rfl (Or.inl ⟨by rfl,?_⟩) qH ?_ (hQ:=q9 hQp)
  rotate_left
  · (intro w hSw;clear hSw;go_simp;try with_reducible rfl)
  try simp only [ss9]
  refine tk1 (i:=7) (v:=?_) rfl (Or.inl ⟨by rfl,?_⟩) qH ?_ (hQ:=q9 hQp)
  rotate_left
  · (intro w hSw;clear hSw;go_simp;try with_reducible rfl)
  try simp only [ss9]
  refine tk1 (i:=8) (v:=?_) rfl (Or.inl ⟨by rfl,?_⟩) qH ?_ (hQ:=q9 hQp)
  rotate_left
  · (intro w hSw;clear hSw;go_simp;try with_reducible rfl)
  try simp only [ss9]
  refine tk1 (i:=9) (v:=?_) rfl (Or.inl ⟨by rfl,?_⟩) qH ?_ (hQ:=q9 hQp)
  rotate_left
  · (intro w hSw;clear hSw;go_simp;try with_reducible rfl)
  try simp only [ss9]
  refine tk1 (i:=10) (v:=?_) rfl (Or.inl ⟨by rfl,?_⟩) qH ?_ (hQ:=q9 hQp)
  rotate_left
  · (intro w hSw;clear hSw;go_simp;try with_reducible rfl)
  try simp only [ss9]
 all_goals try
  fail_if_success (have hx:=HD)
  refine wpAnyH_ready (rs:=[11]) (by kernel_rfl) (by simp) ?_
  refine AllReadyH.cons (o:=_) rfl (fun K hK => ?_) AllReadyH.nil
  go_simp
  have HD:Hid (Blk (X.alloc (Obj.cells #[.int .u8 0, .int .u32 0, .int .u16 0, .int .u32 0, .bool false, .int .i64 0, .int .i64 0, .int .i64 0, .bool false, .int .u8 0, .int .u8 0, .int .u32 0, .int .i64 0, .int .i64 0, .int .i64 0, .int .i64 0, .int .i64 0, .bool false, .int .i64 0, .int .i64 0, .int .i64 0, .int .i64 0, .int .i64 0, .int .i64 0, .slice none 0 0, .int .i64 0, .int .i64 0, .int .i64 0, .bool false, .int .i64 0, .int .i64 0, .int .i64 0, .bool false, .int .i64 0, .int .i64 0, .int .i64 0, .int .i64 0, .int .i64 0, .int .i64 0, .int .i64 0, .bool false, .int .u32 0, .int .u8 0, .int .i64 0, .bool false, .int .u32 0, .int .u32 0, .int .u32 0] 45)) X.heap.size 45 (PL Sb.Pt.zero none 0 0).toArray):=Z9 (Blk.new _ _ _)
  have hg8:W.heap.size≤X.heap.size:=qH.size
  obtain ⟨g8,hgg⟩:∃ g,g=X.heap.size:=⟨_,rfl⟩
  replace HW:=Z9 (HW.out.below ((Below.refl _ _).alloc (Nat.le_refl _) (Obj.cells #[.int .u8 0, .int .u32 0, .int .u16 0, .int .u32 0, .bool false, .int .i64 0, .int .i64 0, .int .i64 0, .bool false, .int .u8 0, .int .u8 0, .int .u32 0, .int .i64 0, .int .i64 0, .int .i64 0, .int .i64 0, .int .i64 0, .bool false, .int .i64 0, .int .i64 0, .int .i64 0, .int .i64 0, .int .i64 0, .int .i64 0, .slice none 0 0, .int .i64 0, .int .i64 0, .int .i64 0, .bool false, .int .i64 0, .int .i64 0, .int .i64 0, .bool false, .int .i64 0, .int .i64 0, .int .i64 0, .int .i64 0, .int .i64 0, .int .i64 0, .int .i64 0, .bool false, .int .u32 0, .int .u8 0, .int .i64 0, .bool false, .int .u32 0, .int .u32 0, .int .u32 0] 45)) (Nat.le_refl _))
  replace HSD:=Z9 (HSD.out.below ((Below.refl _ _).alloc (Nat.le_refl _) (Obj.cells #[.int .u8 0, .int .u32 0, .int .u16 0, .int .u32 0, .bool false, .int .i64 0, .int .i64 0, .int .i64 0, .bool false, .int .u8 0, .int .u8 0, .int .u32 0, .int .i64 0, .int .i64 0, .int .i64 0, .int .i64 0, .int .i64 0, .bool false, .int .i64 0, .int .i64 0, .int .i64 0, .int .i64 0, .int .i64 0, .int .i64 0, .slice none 0 0, .int .i64 0, .int .i64 0, .int .i64 0, .bool false, .int .i64 0, .int .i64 0, .int .i64 0, .bool false, .int .i64 0, .int .i64 0, .int .i64 0, .int .i64 0, .int .i64 0, .int .i64 0, .int .i64 0, .bool false, .int .u32 0, .int .u8 0, .int .i64 0, .bool false, .int .u32 0, .int .u32 0, .int .u32 0] 45)) (Nat.le_refl _))
  refine hK.out _ _ ?_ (fun qH => ?_)
  · exact zah qH _
  clear hK K
  try simp only [ss9]
  rw [← hgg] at HD hg8 ⊢
  have HGG:=Z9 hgg
  clear hgg
  obtain ⟨Y,hY⟩:∃ V,V=X.alloc (Obj.cells #[.int .u8 0, .int .u32 0, .int .u16 0, .int .u32 0, .bool false, .int .i64 0, .int .i64 0, .int .i64 0, .bool false, .int .u8 0, .int .u8 0, .int .u32 0, .int .i64 0, .int .i64 0, .int .i64 0, .int .i64 0, .int .i64 0, .bool false, .int .i64 0, .int .i64 0, .int .i64 0, .int .i64 0, .int .i64 0, .int .i64 0, .slice none 0 0, .int .i64 0, .int .i64 0, .int .i64 0, .bool false, .int .i64 0, .int .i64 0, .int .i64 0, .bool false, .int .i64 0, .int .i64 0, .int .i64 0, .int .i64 0, .int .i64 0, .int .i64 0, .int .i64 0, .bool false, .int .u32 0, .int .u8 0, .int .i64 0, .bool false, .int .u32 0, .int .u32 0, .int .u32 0] 45):=⟨_,rfl⟩
  rw [← hY] at HD qH HW HSD ⊢
  clear hY
  obtain ⟨X,hX⟩:∃ X,X=Y:=⟨_,rfl⟩
  subst hX
 all_goals
  refine wpAnyH_ready (rs:=[12]) (by kernel_rfl) (by simp) ?_
  refine AllReadyH.cons (o:=_) rfl (fun K hK => ?_) AllReadyH.nil
  refine zal rfl 45 (.tmp 22) (.tmp 85) rfl g8 0 rfl 45 _ HD.out (PL R.1 A' n' c') rfl zai (Nat.le_refl 48) rfl (PL R.1 A' n' c') rfl ?_
  intro WF BF OF
  have HF:=OF.bel (show Bel W X from qH) hg8
  refine hK.out _ _ HF (fun qH => ?_)
  clear hK K
  try simp only [ss9]
  refine tk1 (i:=13) (v:=?_) rfl (Or.inl ⟨by rfl,?_⟩) qH ?_ (hQ:=q9 hQp)
  rotate_left
  · (intro w hSw;clear hSw;go_simp;try with_reducible rfl)
  try simp only [ss9]
  refine tk1 (i:=14) (v:=?_) rfl (Or.inl ⟨by rfl,?_⟩) qH ?_ (hQ:=q9 hQp)
  rotate_left
  · (intro w hSw;clear hSw;go_simp;try with_reducible rfl)
  try simp only [ss9]
  refine tk1 (i:=15) (v:=?_) rfl (Or.inl ⟨by rfl,?_⟩) qH ?_ (hQ:=q9 hQp)
  rotate_left
  · (intro w hSw;clear hSw;go_simp;try with_reducible rfl)
  try simp only [ss9]
  refine wpAnyH_done (by kernel_rfl) ?_ _
  exact hq.out WF g8 SA sc m A' n' c' l' ls _ _ _ _ _ _ _ _ _ _ _ (Z9 BF) HQ1 hn hc1 hc2 (Z9 (((HW.out.onlyN OF (by first|exact Or.inl HCS.out|exact Or.inr (by rw [HGG.out];exact Nat.le_refl _))).more (by rw [OF.2];first|exact Nat.le_refl _|(have h1:=HD.out.lt;have h2:=HGG.out;omega))).less hlo)) HLS hlm (Z9 (((HSD.out.onlyN OF (by first|exact Or.inl HCS.out|exact Or.inr (by rw [HGG.out];exact Nat.le_refl _))).more (by rw [OF.2];first|exact Nat.le_refl _|(have h1:=HD.out.lt;have h2:=HGG.out;omega))).less hlo)) hg8 (Z9 HF)
theorem PkAv.form {W:World} {S:List Nat} {KA:Option Addr} {t:TK} (h:PkAv W S KA [t]):∃ bK oK,KA=some ⟨bK,oK,none⟩∧∀ j v,t.row[j]? = some v→W.cell? ⟨bK,oK+j,none⟩=some v:=by
 obtain ⟨b,off,e,_,hc⟩:=h.1.1 (by simp)
 exact ⟨b,off,e,fun j v hv=>by have h9:=hc 0 t rfl j v hv;simpa using h9⟩
noncomputable def hop11_rest:Code:=((Tryz.f8.body.bind (fromReg 11)).getD .skip)
noncomputable def hop15_code:Code:=((Tryz.f8.body.bind (fromReg 15)).getD .skip)
def Sb.Pkt.rx (k:Sb.Pkt) (Mx:Option Addr) (cm:Nat) (Et:Option Addr) (ce:Nat) (Pl:Option Addr) (cp:Nat):Rx:=⟨k.mrk,k.ty,k.sq,k.ti,k.src,Mx,0,cm,false,0,Et,0,ce,Pl,k.pl,cp,0⟩
theorem zuf {w W:World} {S:List Nat} {gf of_ gt ot gR:Nat} {tf tt:TypeId} {ct cf2:List Value} {now:Int} {A2:Option Addr} {l2:List TW} {KA:Option Addr} {kc:Nat} {t:TK} {Q:Exit→Act→World→Prop}
 (X:HS w W S gf gt gR tf tt cf2 ct A2 l2) (K:PkAv W S KA [t]) (ok:t.k.ok)
 (h:∀ (W:World) (a:Act) (gX:Nat) (Mx:Option Addr) (cm:Nat) (Et:Option Addr) (ce:Nat) (Pl:Option Addr) (cp:Nat),HS w W S gf gt gR tf tt cf2 ct A2 l2→Blk W gX 112 (t.k.rx Mx cm Et ce Pl cp).row→gR<gX→t.k.pl.length≤cp→IntsAv W (gR::S) .u8 Pl t.k.pl →
  Fr 119 [(0, .pointer (some ⟨gf,of_,none⟩)),(1, .pointer (some ⟨gt,ot,none⟩)),(3, .int .i64 now),(8, .pointer (some ⟨gR,0,none⟩)),(18, .int .u8 0),(19, .pointer (some ⟨gX,0,none⟩)),(21, .int .u8 0)] a→firstWp Tryz.prog hop11_rest Q a W) (a:Act) (ha:Fr 119 (FrH gf of_ gt ot gR now KA 1 kc) a):firstWp Tryz.prog hop5_code Q a W:=by
 obtain ⟨s,rfl,hs⟩:=ha
 rw [r119]
 obtain ⟨e0,e1,e3,e8,e12,_⟩:=hs
 obtain ⟨bK,oK,rfl,hcK⟩:=K.form
 rw [e0,e1,e3,e8,e12]
 have z0:=hcK 0 (.bool t.k.mrk) rfl
 rw [Nat.add_zero] at z0
 have z1:=hcK 1 (.int .u8 t.k.ty) rfl
 have z2:=hcK 2 (.int .u16 t.k.sq) rfl
 have z3:=hcK 3 (.int .u32 t.k.ti) rfl
 have z4:=hcK 4 (.int .u32 t.k.src) rfl
 have z5:=hcK 5 (.slice none 0 0) rfl
 have z6:=hcK 6 (.bool false) rfl
 have z7:=hcK 7 (.int .u16 0) rfl
 have z8:=hcK 8 (.slice none 0 0) rfl
 have z9:=hcK 9 (.slice t.B t.k.pl.length t.c) rfl
 have z10:=hcK 10 (.int .i64 0) rfl
 have kE:=Z9 fun (V:World) hV=>zoz t.k ok none none t.B 0 0 t.c V hV
 have kD:=fun (V:World) (A:Option Addr) (c:Nat) hc hV=>zpa t.k ok A _ c rfl hc V hV
 have HPL:=Z9 (K.2 t (by simp)).1
 obtain ⟨bs,hbs⟩:∃ bs,bs=Pk.bytes t.k.pk:=⟨_,rfl⟩
 rw [← hbs] at kE kD
 replace kD:=Z9 kD
 have hsw:=X.sw
 clear hcK hbs
 refine zas ?_
 intro _ _ _ _
 go_upto_region 9 with fail
 go_wp2_with fail
 refine (kE.out _ HPL.out).mono ?_
 rintro e w2 ⟨A2',c2',rfl,hcc,hI,hb⟩
 replace X:=X.later hb
 have HI:=Z9 hI
 clear hb hI z0 z1 z2 z3 z4 z5 z6 z7 z8 z9 z10 kE HPL
 go_upto_region 10 with fail
 go_wp2_with fail
 refine (kD.out _ A2' c2' hcc HI.out.1).mono ?_
 rintro e w3 ⟨Mx,cm,Et,ce,Pl,cp,rfl,hcp,hI3,hb⟩
 have hgR:=X.br.lt
 have hs6:=X.ch.size
 have HI3:=Z9 (IntsAv.of_new hI3 (S:=gR::S) (fun x hx=>by
  rcases List.mem_cons.1 hx with e|hx
  · omega
  · have:=hsw x hx;omega))
 replace X:=X.later hb
 have hgR3:=Nat.lt_of_lt_of_le hgR hb.size
 clear hb hI3 HI kD
 go_upto_region 11 with fail
 have BX:=Z9 (Blk.new w3 112 (t.k.rx Mx cm Et ce Pl cp).row)
 have hb9:=(Below.refl w3.heap.size w3).alloc (Nat.le_refl _) (Obj.cells (t.k.rx Mx cm Et ce Pl cp).row 112)
 replace X:=X.later hb9
 replace HI3:=Z9 (HI3.out.chg (T:=[]) (Chg.of_below hb9) (by simp))
 refine zan (by assumption) ?_
 refine h _ _ w3.heap.size Mx cm Et ce Pl cp X BX.out hgR3 hcp HI3.out ?_
 exact Fr.mk rfl ⟨rfl,rfl,rfl,rfl,rfl,rfl,rfl,trivial⟩
theorem zqw {w W:World} {S:List Nat} {gf of_ gt ot gR gX:Nat} {tf tt:TypeId} {cf2 ct:List Value} {A2:Option Addr} {n2 c2:Nat} {l2:List TW} {k:Sb.Pkt} {Mx:Option Addr} {cm:Nat} {Et:Option Addr} {ce:Nat} {Pl:Option Addr} {cp:Nat} {u u':Sb.Pt} {sds:List Sb.Sd} {now:Int} {Q:Exit→Act→World→Prop}
 (X:HS w W S gf gt gR tf tt cf2 ct A2 l2) (hlt:ot+48≤ct.length) (hpt:partS ct ot 48=PL u A2 n2 c2) (BX:Blk W gX 112 (k.rx Mx cm Et ce Pl cp).row) (hgX:gR<gX) (HP:IntsAv W (gR::S) .u8 Pl k.pl)
 (hQp:∀ (ch:_) (a:Act) (d:Tmp) (u:Value) (w:World),Q (.panic ch) (a.put (some d) u) w→Q (.panic ch) a w)
 (kR:∀ V:World,Below W.heap.size W V→Calls Tryz.prog 26 #[.agg (PA u A2 n2 c2), .int .i64 now, .agg (k.rx Mx cm Et ce Pl cp).row] V (RecvR (u',1,sds) V))
 (h:∀ (W:World) (a:Act) (A2:Option Addr) (n2 c2:Nat) (l2:List TW) (SA:Option Addr) (sn sc:Nat) (ls:List TS),HS w W S gf gt gR tf tt cf2 (overS ct ot (PL u' A2 n2 c2)) A2 l2→l2.map TW.w=u'.jt.q→l2.length=n2→n2≤c2→c2≤maxLen→QAv W (gR::S) A2 l2→ls.map TS.s=sds→ls.length=sn→SdAv W (gR::S) SA ls→Blk W gX 112 (k.rx Mx cm Et ce Pl cp).row→IntsAv W (gR::S) .u8 Pl k.pl →
  Fr 119 [(8, .pointer (some ⟨gR,0,none⟩)),(19, .pointer (some ⟨gX,0,none⟩)),(24, .slice SA sn sc)] a→firstWp Tryz.prog hop15_code Q a W) (a:Act) (ha:Fr 119 [(0, .pointer (some ⟨gf,of_,none⟩)),(1, .pointer (some ⟨gt,ot,none⟩)),(3, .int .i64 now),(8, .pointer (some ⟨gR,0,none⟩)),(18, .int .u8 0),(19, .pointer (some ⟨gX,0,none⟩)),(21, .int .u8 0)] a):firstWp Tryz.prog hop11_rest Q a W:=by
 obtain ⟨s,rfl,hs⟩:=ha
 rw [r119]
 obtain ⟨e0,e1,e3,e8,e18,e19,e21,_⟩:=hs
 rw [e0,e1,e3,e8,e18,e19,e21]
 have x0:W.cell? ⟨gX,0,none⟩=some (.bool k.mrk):=BX.at 0 _ rfl
 have x1:W.cell? ⟨gX,1,none⟩=some (.int .u8 k.ty):=BX.at 1 _ rfl
 have x2:W.cell? ⟨gX,2,none⟩=some (.int .u16 k.sq):=BX.at 2 _ rfl
 have x3:W.cell? ⟨gX,3,none⟩=some (.int .u32 k.ti):=BX.at 3 _ rfl
 have x4:W.cell? ⟨gX,4,none⟩=some (.int .u32 k.src):=BX.at 4 _ rfl
 have x5:W.cell? ⟨gX,5,none⟩=some (.slice Mx 0 cm):=BX.at 5 _ rfl
 have x6:W.cell? ⟨gX,6,none⟩=some (.bool false):=BX.at 6 _ rfl
 have x7:W.cell? ⟨gX,7,none⟩=some (.int .u16 0):=BX.at 7 _ rfl
 have x8:W.cell? ⟨gX,8,none⟩=some (.slice Et 0 ce):=BX.at 8 _ rfl
 have x9:W.cell? ⟨gX,9,none⟩=some (.slice Pl k.pl.length cp):=BX.at 9 _ rfl
 have x10:W.cell? ⟨gX,10,none⟩=some (.int .i64 0):=BX.at 10 _ rfl
 refine zaq ?_
 intro _ _
 refine zqv gt ot gX tt ct (k.rx Mx cm Et ce Pl cp) now u A2 n2 c2 hlt hpt (u',1,sds) W X.bt x0 x1 x2 x3 x4 x5 x6 x7 x8 x9 x10 kR ?_ ?_
 · intro _ _ _ _ _ h;exact hQp _ _ _ _ _ h
 clear x0 x1 x2 x3 x4 x5 x6 x7 x8 x9 x10 kR
 intro wx g3 SA sc m A' n' c' l' ls u78 u79 u80 u81 u82 u83 u84 u85 u86 u87 u88 HB3 HQ3 hn3 hc3 hm3 HW3 HLS hlm HSK hg3 HBL
 simp only at HB3 HQ3 HLS ⊢
 have hsw:=X.sw
 have hs6:=X.ch.size
 have hgR:=X.br.lt
 have hin:∀ x∈gR::S,x<W.heap.size:=fun x hx=>by
  rcases List.mem_cons.1 hx with e|hx
  · omega
  · have:=hsw x hx;omega
 have HQA:=Z9 (QAv.of_win HW3.out hin)
 have HSA:=Z9 (HSK.out.av hin)
 replace BX:=Z9 (BX.later HBL.out)
 replace HP:=Z9 (HP.chg (T:=[]) (Chg.of_below HBL.out) (by simp))
 have hgt:=hsw gt X.st
 have hgr:=X.r
 replace X:=X.later HBL.out
 have hg3a:g3≠gt:=by omega
 clear HW3 HSK HBL
 go_upto_region 12 with fail
 go_upto_region 13 with (first|(refine zae rfl 45 (.tmp 22) rfl g3 0 rfl 45 (PL u' A' n' c') HB3.out 48 _ Tryz.underlying45 zai (show 0+48≤48 by decide) (PA u' A' n' c') (by rfl) rfl ?_)|(refine zaf rfl 45 (.tmp 91) (.tmp 90) rfl gt ot rfl tt ct X.bt (PL u' A' n' c') rfl zai (show ot+48≤ct.length from hlt) rfl _ rfl ?_;intro WF BF OF)|fail)
 have hcT:Chg [gt] wx WF:=Chg.of_only OF (by simp)
 have hmT:∀ x ∈ [gt],x∈gR::S:=by intro x hx;simp at hx;rw [hx];exact List.mem_cons_of_mem _ X.st
 replace X:=X.setT OF BF (HQA.out.sub fun x hx=>List.mem_cons_of_mem _ hx)
 replace HQA:=Z9 (HQA.out.chg hcT hmT)
 replace HSA:=Z9 (HSA.out.chg hcT hmT)
 replace HP:=Z9 (HP.out.chg hcT hmT)
 replace BX:=Z9 (OF.blk BX.out (by omega))
 clear BF OF HB3 hcT hmT
 go_upto_region 15 with fail
 refine zbh (by assumption) (by assumption) ?_
 refine h _ _ A' n' c' l' SA m sc ls X HQ3.out hn3 hc3 hm3 HQA.out HLS.out hlm HSA.out BX.out HP.out ?_
 exact Fr.mk rfl ⟨rfl,rfl,rfl,trivial⟩
end Go.Proofs.YtbcgnddpkiemoaaGreat
