/- Layer 26: which statistics are valid, in the program and in the reference. -/
import Derived.Test.YtahbecinkciahaaGreatSs9Q
import Derived.Test.YtahbecinkciahaaGreatEvRefHearQ
import Derived.Laws.Rows
import Derived.Test.YtahbecinkciahaaGreatSbSoundsQ
set_option linter.unusedVariables false
set_option linter.unusedSimpArgs false
set_option maxRecDepth 100000
set_option maxHeartbeats 12800000
namespace Go.Proofs.YtahbecinkciahaaGreat
open Go.RowKit
theorem IntsAt.new_at (w:World) (e:TypeId) (k:IntKind) (zs:List Int) (cs:List Value) (h:cs=zs.map (Value.int k)) (g:Nat) (hg:w.heap.size=g):IntsAt (w.alloc (.cells cs.toArray e)) (w.alloc (.cells cs.toArray e)).heap.size k (some ⟨g,0,none⟩) zs:=by
 subst hg
 exact IntsAt.new w e k zs cs h
section
variable (s0:Bool) (sb sh sr sx sy st sj:Int) (w:World)
theorem Rep.okS_bd (h:Rep.okS ⟨s0,sb,sh,sr,sx,sy,st,sj⟩=true) : -1125899906842624≤sb∧sb≤1125899906842624 ∧ -1125899906842624≤sh∧sh≤1125899906842624 ∧ -1125899906842624≤st∧st≤1125899906842624∧sb≤sh∧0≤sr∧sr≤1125899906842624∧0≤sx∧sx≤1125899906842624∧0≤sy∧sy≤1125899906842624∧0≤sj∧sj≤72057594037927936:=by
 rw [Rep.okS_iff] at h
 simp only at h
 omega
theorem zir:Calls Tryz.prog 99 #[.agg #[.bool s0, .int .i64 sb, .int .i64 sh, .int .i64 sr, .int .i64 sx, .int .i64 sy, .int .i64 st, .int .i64 sj]] w fun e w'=>e = .returned (.bool (Rep.okS ⟨s0,sb,sh,sr,sx,sy,st,sj⟩))∧Below w.heap.size w w':=by
 have h:Rep.okS ⟨s0,sb,sh,sr,sx,sy,st,sj⟩=(Rep.all (-1125899906842624) 1125899906842624 [sb,sh,st]&&decide (sb≤sh)&&Rep.all 0 1125899906842624 [sr,sx,sy]&&Rep.all 0 72057594037927936 [sj]):=rfl
 rw [h]
 clear h
 have k1:=fun A c W h=>zeh (-1125899906842624) 1125899906842624 A [sb,sh,st] c 3 W rfl h (by omega)
 have k2:=fun A c W h=>zeh 0 1125899906842624 A [sr,sx,sy] c 3 W rfl h (by omega)
 have k3:=fun A c W h=>zeh 0 72057594037927936 A [sj] c 1 W rfl h (by omega)
 generalize Rep.all (-1125899906842624) 1125899906842624 [sb,sh,st]=b1 at *
 generalize Rep.all 0 1125899906842624 [sr,sx,sy]=b3 at *
 generalize Rep.all 0 72057594037927936 [sj]=b4 at *
 have K1:=H9 k1
 have K2:=H9 k2
 have K3:=H9 k3
 clear k1 k2 k3
 cases b1
 · go_enter Tryz.func99,Tryz.ntmps99
   go_wp2_with fail
   refine (K1.out _ _ _ (IntsAt.new_at (w.alloc (.cells #[.bool s0, .int .i64 sb, .int .i64 sh, .int .i64 sr, .int .i64 sx, .int .i64 sy, .int .i64 st, .int .i64 sj] 44)) 2 .i64 [sb,sh,st] [.int .i64 sb, .int .i64 sh, .int .i64 st] rfl _ (by rw [zbc]))).mono ?_
   rintro e w1 ⟨rfl,rfl⟩
   go_wp2
   go_ret
   exact ⟨rfl,Bel.push (Bel.push (Bel.refl w) _) _⟩
 · cases hb:decide (sb≤sh)
   · go_enter Tryz.func99,Tryz.ntmps99
     go_wp2_with fail
     refine (K1.out _ _ _ (IntsAt.new_at (w.alloc (.cells #[.bool s0, .int .i64 sb, .int .i64 sh, .int .i64 sr, .int .i64 sx, .int .i64 sy, .int .i64 st, .int .i64 sj] 44)) 2 .i64 [sb,sh,st] [.int .i64 sb, .int .i64 sh, .int .i64 st] rfl _ (by rw [zbc]))).mono ?_
     rintro e w1 ⟨rfl,rfl⟩
     go_wp2
     go_ret
     exact ⟨rfl,Bel.push (Bel.push (Bel.refl w) _) _⟩
   · cases b3
     · go_enter Tryz.func99,Tryz.ntmps99
       go_wp2_with fail
       refine (K1.out _ _ _ (IntsAt.new_at (w.alloc (.cells #[.bool s0, .int .i64 sb, .int .i64 sh, .int .i64 sr, .int .i64 sx, .int .i64 sy, .int .i64 st, .int .i64 sj] 44)) 2 .i64 [sb,sh,st] [.int .i64 sb, .int .i64 sh, .int .i64 st] rfl _ (by rw [zbc]))).mono ?_
       rintro e w1 ⟨rfl,rfl⟩
       go_wp2_with fail
       refine (K2.out _ _ _ (IntsAt.new_at ((w.alloc (.cells #[.bool s0, .int .i64 sb, .int .i64 sh, .int .i64 sr, .int .i64 sx, .int .i64 sy, .int .i64 st, .int .i64 sj] 44)).alloc (.cells #[.int .i64 sb, .int .i64 sh, .int .i64 st] 2)) 2 .i64 [sr,sx,sy] [.int .i64 sr, .int .i64 sx, .int .i64 sy] rfl _ (by rw [zfb]))).mono ?_
       rintro e w1 ⟨rfl,rfl⟩
       go_wp2
       go_ret
       exact ⟨rfl,Bel.push (Bel.push (Bel.push (Bel.refl w) _) _) _⟩
     · go_enter Tryz.func99,Tryz.ntmps99
       go_wp2_with fail
       refine (K1.out _ _ _ (IntsAt.new_at (w.alloc (.cells #[.bool s0, .int .i64 sb, .int .i64 sh, .int .i64 sr, .int .i64 sx, .int .i64 sy, .int .i64 st, .int .i64 sj] 44)) 2 .i64 [sb,sh,st] [.int .i64 sb, .int .i64 sh, .int .i64 st] rfl _ (by rw [zbc]))).mono ?_
       rintro e w1 ⟨rfl,rfl⟩
       go_wp2_with fail
       refine (K2.out _ _ _ (IntsAt.new_at ((w.alloc (.cells #[.bool s0, .int .i64 sb, .int .i64 sh, .int .i64 sr, .int .i64 sx, .int .i64 sy, .int .i64 st, .int .i64 sj] 44)).alloc (.cells #[.int .i64 sb, .int .i64 sh, .int .i64 st] 2)) 2 .i64 [sr,sx,sy] [.int .i64 sr, .int .i64 sx, .int .i64 sy] rfl _ (by rw [zfb]))).mono ?_
       rintro e w1 ⟨rfl,rfl⟩
       go_wp2_with fail
       refine (K3.out _ _ _ (IntsAt.new_at (((w.alloc (.cells #[.bool s0, .int .i64 sb, .int .i64 sh, .int .i64 sr, .int .i64 sx, .int .i64 sy, .int .i64 st, .int .i64 sj] 44)).alloc (.cells #[.int .i64 sb, .int .i64 sh, .int .i64 st] 2)).alloc (.cells #[.int .i64 sr, .int .i64 sx, .int .i64 sy] 2)) 2 .i64 [sj] [.int .i64 sj] rfl _ (by rw [zjo]))).mono ?_
       rintro e w1 ⟨rfl,rfl⟩
       go_wp2
       go_ret
       exact ⟨rfl,Bel.push (Bel.push (Bel.push (Bel.push (Bel.refl w) _) _) _) _⟩
theorem Rep.okS_no (h:¬((-1125899906842624≤sb∧sb≤1125899906842624)∧(-1125899906842624≤sh∧sh≤1125899906842624)∧(-1125899906842624≤st∧st≤1125899906842624)∧sb≤sh∧0≤sr∧sr≤1125899906842624∧0≤sx∧sx≤1125899906842624∧0≤sy∧sy≤1125899906842624∧0≤sj∧sj≤72057594037927936)):Rep.okS ⟨s0,sb,sh,sr,sx,sy,st,sj⟩=false:=by
 rw [Bool.eq_false_iff]
 intro h2
 have:=Rep.okS_bd _ _ _ _ _ _ _ _ h2
 omega
theorem zgs:Calls Tryz.prog 115 #[.agg #[.bool s0, .int .i64 sb, .int .i64 sh, .int .i64 sr, .int .i64 sx, .int .i64 sy, .int .i64 st, .int .i64 sj]] w fun e w'=>e = .returned (.bool (Rep.okS ⟨s0,sb,sh,sr,sx,sy,st,sj⟩))∧Below w.heap.size w w':=by
 by_cases c0 : -1125899906842624≤sb∧sb≤1125899906842624
 rotate_left
 · have hv:Rep.okS ⟨s0,sb,sh,sr,sx,sy,st,sj⟩=false:=Rep.okS_no _ _ _ _ _ _ _ _ (by omega)
   have HV:=H9 hv
   clear hv
   have kw0:=fun W=>zam sb 1125899906842624 W (by omega) (by omega)
   rw [show Rep.inB (-1125899906842624) 1125899906842624 sb=false from by rw [Bool.eq_false_iff];intro h;rw [Rep.inB_iff] at h;omega] at kw0
   replace kw0:=H9 kw0
   go_enter Tryz.func115,Tryz.ntmps115
   go_wp2_with fail
   refine (kw0.out _).mono ?_
   rintro e w1 ⟨rfl,rfl⟩
   go_wp2
   go_ret
   exact ⟨by rw [HV.out];rfl,Bel.push (Bel.refl w) _⟩
 by_cases c1 : -1125899906842624≤sh∧sh≤1125899906842624
 rotate_left
 · have hv:Rep.okS ⟨s0,sb,sh,sr,sx,sy,st,sj⟩=false:=Rep.okS_no _ _ _ _ _ _ _ _ (by omega)
   have HV:=H9 hv
   clear hv
   have kw0:=fun W=>zam sb 1125899906842624 W (by omega) (by omega)
   rw [show Rep.inB (-1125899906842624) 1125899906842624 sb=true from by rw [Rep.inB_iff];omega] at kw0
   replace kw0:=H9 kw0
   have kw1:=fun W=>zam sh 1125899906842624 W (by omega) (by omega)
   rw [show Rep.inB (-1125899906842624) 1125899906842624 sh=false from by rw [Bool.eq_false_iff];intro h;rw [Rep.inB_iff] at h;omega] at kw1
   replace kw1:=H9 kw1
   go_enter Tryz.func115,Tryz.ntmps115
   go_wp2_with fail
   refine (kw0.out _).mono ?_
   rintro e w1 ⟨rfl,rfl⟩
   go_wp2_with fail
   refine (kw1.out _).mono ?_
   rintro e w1 ⟨rfl,rfl⟩
   go_wp2
   go_ret
   exact ⟨by rw [HV.out];rfl,Bel.push (Bel.refl w) _⟩
 by_cases c2 : -1125899906842624≤st∧st≤1125899906842624
 rotate_left
 · have hv:Rep.okS ⟨s0,sb,sh,sr,sx,sy,st,sj⟩=false:=Rep.okS_no _ _ _ _ _ _ _ _ (by omega)
   have HV:=H9 hv
   clear hv
   have kw0:=fun W=>zam sb 1125899906842624 W (by omega) (by omega)
   rw [show Rep.inB (-1125899906842624) 1125899906842624 sb=true from by rw [Rep.inB_iff];omega] at kw0
   replace kw0:=H9 kw0
   have kw1:=fun W=>zam sh 1125899906842624 W (by omega) (by omega)
   rw [show Rep.inB (-1125899906842624) 1125899906842624 sh=true from by rw [Rep.inB_iff];omega] at kw1
   replace kw1:=H9 kw1
   have kw2:=fun W=>zam st 1125899906842624 W (by omega) (by omega)
   rw [show Rep.inB (-1125899906842624) 1125899906842624 st=false from by rw [Bool.eq_false_iff];intro h;rw [Rep.inB_iff] at h;omega] at kw2
   replace kw2:=H9 kw2
   go_enter Tryz.func115,Tryz.ntmps115
   go_wp2_with fail
   refine (kw0.out _).mono ?_
   rintro e w1 ⟨rfl,rfl⟩
   go_wp2_with fail
   refine (kw1.out _).mono ?_
   rintro e w1 ⟨rfl,rfl⟩
   go_wp2_with fail
   refine (kw2.out _).mono ?_
   rintro e w1 ⟨rfl,rfl⟩
   go_wp2
   go_ret
   exact ⟨by rw [HV.out];rfl,Bel.push (Bel.refl w) _⟩
 by_cases c3:sb≤sh
 rotate_left
 · have hv:Rep.okS ⟨s0,sb,sh,sr,sx,sy,st,sj⟩=false:=Rep.okS_no _ _ _ _ _ _ _ _ (by omega)
   have HV:=H9 hv
   clear hv
   have kw0:=fun W=>zam sb 1125899906842624 W (by omega) (by omega)
   rw [show Rep.inB (-1125899906842624) 1125899906842624 sb=true from by rw [Rep.inB_iff];omega] at kw0
   replace kw0:=H9 kw0
   have kw1:=fun W=>zam sh 1125899906842624 W (by omega) (by omega)
   rw [show Rep.inB (-1125899906842624) 1125899906842624 sh=true from by rw [Rep.inB_iff];omega] at kw1
   replace kw1:=H9 kw1
   have kw2:=fun W=>zam st 1125899906842624 W (by omega) (by omega)
   rw [show Rep.inB (-1125899906842624) 1125899906842624 st=true from by rw [Rep.inB_iff];omega] at kw2
   replace kw2:=H9 kw2
   have t3:decide (sh<sb)=true:=by simp;omega
   go_enter Tryz.func115,Tryz.ntmps115
   go_wp2_with fail
   refine (kw0.out _).mono ?_
   rintro e w1 ⟨rfl,rfl⟩
   go_wp2_with fail
   refine (kw1.out _).mono ?_
   rintro e w1 ⟨rfl,rfl⟩
   go_wp2_with fail
   refine (kw2.out _).mono ?_
   rintro e w1 ⟨rfl,rfl⟩
   go_wp2
   go_ret
   exact ⟨by rw [HV.out];rfl,Bel.push (Bel.refl w) _⟩
 by_cases c4:0≤sr
 rotate_left
 · have hv:Rep.okS ⟨s0,sb,sh,sr,sx,sy,st,sj⟩=false:=Rep.okS_no _ _ _ _ _ _ _ _ (by omega)
   have HV:=H9 hv
   clear hv
   have kw0:=fun W=>zam sb 1125899906842624 W (by omega) (by omega)
   rw [show Rep.inB (-1125899906842624) 1125899906842624 sb=true from by rw [Rep.inB_iff];omega] at kw0
   replace kw0:=H9 kw0
   have kw1:=fun W=>zam sh 1125899906842624 W (by omega) (by omega)
   rw [show Rep.inB (-1125899906842624) 1125899906842624 sh=true from by rw [Rep.inB_iff];omega] at kw1
   replace kw1:=H9 kw1
   have kw2:=fun W=>zam st 1125899906842624 W (by omega) (by omega)
   rw [show Rep.inB (-1125899906842624) 1125899906842624 st=true from by rw [Rep.inB_iff];omega] at kw2
   replace kw2:=H9 kw2
   have t3:decide (sh<sb)=false:=by simp;omega
   have t4:decide (sr<0)=true:=by simp;omega
   go_enter Tryz.func115,Tryz.ntmps115
   go_wp2_with fail
   refine (kw0.out _).mono ?_
   rintro e w1 ⟨rfl,rfl⟩
   go_wp2_with fail
   refine (kw1.out _).mono ?_
   rintro e w1 ⟨rfl,rfl⟩
   go_wp2_with fail
   refine (kw2.out _).mono ?_
   rintro e w1 ⟨rfl,rfl⟩
   go_wp2
   go_ret
   exact ⟨by rw [HV.out];rfl,Bel.push (Bel.refl w) _⟩
 by_cases c5:sr≤1125899906842624
 rotate_left
 · have hv:Rep.okS ⟨s0,sb,sh,sr,sx,sy,st,sj⟩=false:=Rep.okS_no _ _ _ _ _ _ _ _ (by omega)
   have HV:=H9 hv
   clear hv
   have kw0:=fun W=>zam sb 1125899906842624 W (by omega) (by omega)
   rw [show Rep.inB (-1125899906842624) 1125899906842624 sb=true from by rw [Rep.inB_iff];omega] at kw0
   replace kw0:=H9 kw0
   have kw1:=fun W=>zam sh 1125899906842624 W (by omega) (by omega)
   rw [show Rep.inB (-1125899906842624) 1125899906842624 sh=true from by rw [Rep.inB_iff];omega] at kw1
   replace kw1:=H9 kw1
   have kw2:=fun W=>zam st 1125899906842624 W (by omega) (by omega)
   rw [show Rep.inB (-1125899906842624) 1125899906842624 st=true from by rw [Rep.inB_iff];omega] at kw2
   replace kw2:=H9 kw2
   have t3:decide (sh<sb)=false:=by simp;omega
   have t4:decide (sr<0)=false:=by simp;omega
   have t5:decide (1125899906842624<sr)=true:=by simp;omega
   go_enter Tryz.func115,Tryz.ntmps115
   go_wp2_with fail
   refine (kw0.out _).mono ?_
   rintro e w1 ⟨rfl,rfl⟩
   go_wp2_with fail
   refine (kw1.out _).mono ?_
   rintro e w1 ⟨rfl,rfl⟩
   go_wp2_with fail
   refine (kw2.out _).mono ?_
   rintro e w1 ⟨rfl,rfl⟩
   go_wp2
   go_ret
   exact ⟨by rw [HV.out];rfl,Bel.push (Bel.refl w) _⟩
 by_cases c6:0≤sx
 rotate_left
 · have hv:Rep.okS ⟨s0,sb,sh,sr,sx,sy,st,sj⟩=false:=Rep.okS_no _ _ _ _ _ _ _ _ (by omega)
   have HV:=H9 hv
   clear hv
   have kw0:=fun W=>zam sb 1125899906842624 W (by omega) (by omega)
   rw [show Rep.inB (-1125899906842624) 1125899906842624 sb=true from by rw [Rep.inB_iff];omega] at kw0
   replace kw0:=H9 kw0
   have kw1:=fun W=>zam sh 1125899906842624 W (by omega) (by omega)
   rw [show Rep.inB (-1125899906842624) 1125899906842624 sh=true from by rw [Rep.inB_iff];omega] at kw1
   replace kw1:=H9 kw1
   have kw2:=fun W=>zam st 1125899906842624 W (by omega) (by omega)
   rw [show Rep.inB (-1125899906842624) 1125899906842624 st=true from by rw [Rep.inB_iff];omega] at kw2
   replace kw2:=H9 kw2
   have t3:decide (sh<sb)=false:=by simp;omega
   have t4:decide (sr<0)=false:=by simp;omega
   have t5:decide (1125899906842624<sr)=false:=by simp;omega
   have t6:decide (sx<0)=true:=by simp;omega
   go_enter Tryz.func115,Tryz.ntmps115
   go_wp2_with fail
   refine (kw0.out _).mono ?_
   rintro e w1 ⟨rfl,rfl⟩
   go_wp2_with fail
   refine (kw1.out _).mono ?_
   rintro e w1 ⟨rfl,rfl⟩
   go_wp2_with fail
   refine (kw2.out _).mono ?_
   rintro e w1 ⟨rfl,rfl⟩
   go_wp2
   go_ret
   exact ⟨by rw [HV.out];rfl,Bel.push (Bel.refl w) _⟩
 by_cases c7:sx≤1125899906842624
 rotate_left
 · have hv:Rep.okS ⟨s0,sb,sh,sr,sx,sy,st,sj⟩=false:=Rep.okS_no _ _ _ _ _ _ _ _ (by omega)
   have HV:=H9 hv
   clear hv
   have kw0:=fun W=>zam sb 1125899906842624 W (by omega) (by omega)
   rw [show Rep.inB (-1125899906842624) 1125899906842624 sb=true from by rw [Rep.inB_iff];omega] at kw0
   replace kw0:=H9 kw0
   have kw1:=fun W=>zam sh 1125899906842624 W (by omega) (by omega)
   rw [show Rep.inB (-1125899906842624) 1125899906842624 sh=true from by rw [Rep.inB_iff];omega] at kw1
   replace kw1:=H9 kw1
   have kw2:=fun W=>zam st 1125899906842624 W (by omega) (by omega)
   rw [show Rep.inB (-1125899906842624) 1125899906842624 st=true from by rw [Rep.inB_iff];omega] at kw2
   replace kw2:=H9 kw2
   have t3:decide (sh<sb)=false:=by simp;omega
   have t4:decide (sr<0)=false:=by simp;omega
   have t5:decide (1125899906842624<sr)=false:=by simp;omega
   have t6:decide (sx<0)=false:=by simp;omega
   have t7:decide (1125899906842624<sx)=true:=by simp;omega
   go_enter Tryz.func115,Tryz.ntmps115
   go_wp2_with fail
   refine (kw0.out _).mono ?_
   rintro e w1 ⟨rfl,rfl⟩
   go_wp2_with fail
   refine (kw1.out _).mono ?_
   rintro e w1 ⟨rfl,rfl⟩
   go_wp2_with fail
   refine (kw2.out _).mono ?_
   rintro e w1 ⟨rfl,rfl⟩
   go_wp2
   go_ret
   exact ⟨by rw [HV.out];rfl,Bel.push (Bel.refl w) _⟩
 by_cases c8:0≤sy
 rotate_left
 · have hv:Rep.okS ⟨s0,sb,sh,sr,sx,sy,st,sj⟩=false:=Rep.okS_no _ _ _ _ _ _ _ _ (by omega)
   have HV:=H9 hv
   clear hv
   have kw0:=fun W=>zam sb 1125899906842624 W (by omega) (by omega)
   rw [show Rep.inB (-1125899906842624) 1125899906842624 sb=true from by rw [Rep.inB_iff];omega] at kw0
   replace kw0:=H9 kw0
   have kw1:=fun W=>zam sh 1125899906842624 W (by omega) (by omega)
   rw [show Rep.inB (-1125899906842624) 1125899906842624 sh=true from by rw [Rep.inB_iff];omega] at kw1
   replace kw1:=H9 kw1
   have kw2:=fun W=>zam st 1125899906842624 W (by omega) (by omega)
   rw [show Rep.inB (-1125899906842624) 1125899906842624 st=true from by rw [Rep.inB_iff];omega] at kw2
   replace kw2:=H9 kw2
   have t3:decide (sh<sb)=false:=by simp;omega
   have t4:decide (sr<0)=false:=by simp;omega
   have t5:decide (1125899906842624<sr)=false:=by simp;omega
   have t6:decide (sx<0)=false:=by simp;omega
   have t7:decide (1125899906842624<sx)=false:=by simp;omega
   have t8:decide (sy<0)=true:=by simp;omega
   go_enter Tryz.func115,Tryz.ntmps115
   go_wp2_with fail
   refine (kw0.out _).mono ?_
   rintro e w1 ⟨rfl,rfl⟩
   go_wp2_with fail
   refine (kw1.out _).mono ?_
   rintro e w1 ⟨rfl,rfl⟩
   go_wp2_with fail
   refine (kw2.out _).mono ?_
   rintro e w1 ⟨rfl,rfl⟩
   go_wp2
   go_ret
   exact ⟨by rw [HV.out];rfl,Bel.push (Bel.refl w) _⟩
 by_cases c9:sy≤1125899906842624
 rotate_left
 · have hv:Rep.okS ⟨s0,sb,sh,sr,sx,sy,st,sj⟩=false:=Rep.okS_no _ _ _ _ _ _ _ _ (by omega)
   have HV:=H9 hv
   clear hv
   have kw0:=fun W=>zam sb 1125899906842624 W (by omega) (by omega)
   rw [show Rep.inB (-1125899906842624) 1125899906842624 sb=true from by rw [Rep.inB_iff];omega] at kw0
   replace kw0:=H9 kw0
   have kw1:=fun W=>zam sh 1125899906842624 W (by omega) (by omega)
   rw [show Rep.inB (-1125899906842624) 1125899906842624 sh=true from by rw [Rep.inB_iff];omega] at kw1
   replace kw1:=H9 kw1
   have kw2:=fun W=>zam st 1125899906842624 W (by omega) (by omega)
   rw [show Rep.inB (-1125899906842624) 1125899906842624 st=true from by rw [Rep.inB_iff];omega] at kw2
   replace kw2:=H9 kw2
   have t3:decide (sh<sb)=false:=by simp;omega
   have t4:decide (sr<0)=false:=by simp;omega
   have t5:decide (1125899906842624<sr)=false:=by simp;omega
   have t6:decide (sx<0)=false:=by simp;omega
   have t7:decide (1125899906842624<sx)=false:=by simp;omega
   have t8:decide (sy<0)=false:=by simp;omega
   have t9:decide (1125899906842624<sy)=true:=by simp;omega
   go_enter Tryz.func115,Tryz.ntmps115
   go_wp2_with fail
   refine (kw0.out _).mono ?_
   rintro e w1 ⟨rfl,rfl⟩
   go_wp2_with fail
   refine (kw1.out _).mono ?_
   rintro e w1 ⟨rfl,rfl⟩
   go_wp2_with fail
   refine (kw2.out _).mono ?_
   rintro e w1 ⟨rfl,rfl⟩
   go_wp2
   go_ret
   exact ⟨by rw [HV.out];rfl,Bel.push (Bel.refl w) _⟩
 by_cases c10:0≤sj
 rotate_left
 · have hv:Rep.okS ⟨s0,sb,sh,sr,sx,sy,st,sj⟩=false:=Rep.okS_no _ _ _ _ _ _ _ _ (by omega)
   have HV:=H9 hv
   clear hv
   have kw0:=fun W=>zam sb 1125899906842624 W (by omega) (by omega)
   rw [show Rep.inB (-1125899906842624) 1125899906842624 sb=true from by rw [Rep.inB_iff];omega] at kw0
   replace kw0:=H9 kw0
   have kw1:=fun W=>zam sh 1125899906842624 W (by omega) (by omega)
   rw [show Rep.inB (-1125899906842624) 1125899906842624 sh=true from by rw [Rep.inB_iff];omega] at kw1
   replace kw1:=H9 kw1
   have kw2:=fun W=>zam st 1125899906842624 W (by omega) (by omega)
   rw [show Rep.inB (-1125899906842624) 1125899906842624 st=true from by rw [Rep.inB_iff];omega] at kw2
   replace kw2:=H9 kw2
   have t3:decide (sh<sb)=false:=by simp;omega
   have t4:decide (sr<0)=false:=by simp;omega
   have t5:decide (1125899906842624<sr)=false:=by simp;omega
   have t6:decide (sx<0)=false:=by simp;omega
   have t7:decide (1125899906842624<sx)=false:=by simp;omega
   have t8:decide (sy<0)=false:=by simp;omega
   have t9:decide (1125899906842624<sy)=false:=by simp;omega
   have t10:decide (0≤sj)=false:=by simp;omega
   go_enter Tryz.func115,Tryz.ntmps115
   go_wp2_with fail
   refine (kw0.out _).mono ?_
   rintro e w1 ⟨rfl,rfl⟩
   go_wp2_with fail
   refine (kw1.out _).mono ?_
   rintro e w1 ⟨rfl,rfl⟩
   go_wp2_with fail
   refine (kw2.out _).mono ?_
   rintro e w1 ⟨rfl,rfl⟩
   go_wp2
   go_ret
   exact ⟨by rw [HV.out];rfl,Bel.push (Bel.refl w) _⟩
 by_cases c11:sj≤72057594037927936
 rotate_left
 · have hv:Rep.okS ⟨s0,sb,sh,sr,sx,sy,st,sj⟩=false:=Rep.okS_no _ _ _ _ _ _ _ _ (by omega)
   have HV:=H9 hv
   clear hv
   have kw0:=fun W=>zam sb 1125899906842624 W (by omega) (by omega)
   rw [show Rep.inB (-1125899906842624) 1125899906842624 sb=true from by rw [Rep.inB_iff];omega] at kw0
   replace kw0:=H9 kw0
   have kw1:=fun W=>zam sh 1125899906842624 W (by omega) (by omega)
   rw [show Rep.inB (-1125899906842624) 1125899906842624 sh=true from by rw [Rep.inB_iff];omega] at kw1
   replace kw1:=H9 kw1
   have kw2:=fun W=>zam st 1125899906842624 W (by omega) (by omega)
   rw [show Rep.inB (-1125899906842624) 1125899906842624 st=true from by rw [Rep.inB_iff];omega] at kw2
   replace kw2:=H9 kw2
   have t3:decide (sh<sb)=false:=by simp;omega
   have t4:decide (sr<0)=false:=by simp;omega
   have t5:decide (1125899906842624<sr)=false:=by simp;omega
   have t6:decide (sx<0)=false:=by simp;omega
   have t7:decide (1125899906842624<sx)=false:=by simp;omega
   have t8:decide (sy<0)=false:=by simp;omega
   have t9:decide (1125899906842624<sy)=false:=by simp;omega
   have t10:decide (0≤sj)=true:=by simp;omega
   have t11:decide (sj≤72057594037927936)=false:=by simp;omega
   go_enter Tryz.func115,Tryz.ntmps115
   go_wp2_with fail
   refine (kw0.out _).mono ?_
   rintro e w1 ⟨rfl,rfl⟩
   go_wp2_with fail
   refine (kw1.out _).mono ?_
   rintro e w1 ⟨rfl,rfl⟩
   go_wp2_with fail
   refine (kw2.out _).mono ?_
   rintro e w1 ⟨rfl,rfl⟩
   go_wp2
   go_ret
   exact ⟨by rw [HV.out];rfl,Bel.push (Bel.refl w) _⟩
 have hv:Rep.okS ⟨s0,sb,sh,sr,sx,sy,st,sj⟩=true:=by rw [Rep.okS_iff];simp only;omega
 have HV:=H9 hv
 clear hv
 have kw0:=fun W=>zam sb 1125899906842624 W (by omega) (by omega)
 rw [show Rep.inB (-1125899906842624) 1125899906842624 sb=true from by rw [Rep.inB_iff];omega] at kw0
 replace kw0:=H9 kw0
 have kw1:=fun W=>zam sh 1125899906842624 W (by omega) (by omega)
 rw [show Rep.inB (-1125899906842624) 1125899906842624 sh=true from by rw [Rep.inB_iff];omega] at kw1
 replace kw1:=H9 kw1
 have kw2:=fun W=>zam st 1125899906842624 W (by omega) (by omega)
 rw [show Rep.inB (-1125899906842624) 1125899906842624 st=true from by rw [Rep.inB_iff];omega] at kw2
 replace kw2:=H9 kw2
 have t3:decide (sh<sb)=false:=by simp;omega
 have t4:decide (sr<0)=false:=by simp;omega
 have t5:decide (1125899906842624<sr)=false:=by simp;omega
 have t6:decide (sx<0)=false:=by simp;omega
 have t7:decide (1125899906842624<sx)=false:=by simp;omega
 have t8:decide (sy<0)=false:=by simp;omega
 have t9:decide (1125899906842624<sy)=false:=by simp;omega
 have t10:decide (0≤sj)=true:=by simp;omega
 have t11:decide (sj≤72057594037927936)=true:=by simp;omega
 go_enter Tryz.func115,Tryz.ntmps115
 go_wp2_with fail
 refine (kw0.out _).mono ?_
 rintro e w1 ⟨rfl,rfl⟩
 go_wp2_with fail
 refine (kw1.out _).mono ?_
 rintro e w1 ⟨rfl,rfl⟩
 go_wp2_with fail
 refine (kw2.out _).mono ?_
 rintro e w1 ⟨rfl,rfl⟩
 go_wp2
 go_ret
 exact ⟨by rw [HV.out];rfl,Bel.push (Bel.refl w) _⟩
end
end Go.Proofs.YtahbecinkciahaaGreat
namespace Go.Proofs.YtahbecinkciahaaGreat
attribute [local go_sem ↓] zae zaf
attribute [local go_sem] zad zag
open Go.RowKit
section
variable (s0:Bool) (sb sh sr sx sy st sj:Int) (w:World)
variable (q a t:Int)
theorem znh:Calls Tryz.prog 45 #[.agg #[.bool s0, .int .i64 sb, .int .i64 sh, .int .i64 sr, .int .i64 sx, .int .i64 sy, .int .i64 st, .int .i64 sj], .int .i64 q, .int .i64 a, .int .i64 t] w fun e w'=>e = .returned (.agg (Rep.arrive ⟨s0,sb,sh,sr,sx,sy,st,sj⟩ q a t).row)∧Below w.heap.size w w':=by
 obtain ⟨R,hR⟩:∃ R,R=Rep.arrive ⟨s0,sb,sh,sr,sx,sy,st,sj⟩ q a t:=⟨_,rfl⟩
 rw [← hR]
 unfold Rep.arrive at hR
 have k0:=fun W=>zir s0 sb sh sr sx sy st sj W
 have k1:=fun W=>zgb q W
 have k2:=fun W=>zgb a W
 have k3:=fun W=>zgb t W
 have hbd:=Rep.okS_bd s0 sb sh sr sx sy st sj
 have hq:=(Rep.inB_iff (-281474976710656) 281474976710656 q).1
 have ha:=(Rep.inB_iff (-281474976710656) 281474976710656 a).1
 have ht:=(Rep.inB_iff (-281474976710656) 281474976710656 t).1
 have HQ:Hid (Rep.small q=true → -281474976710656≤q∧q≤281474976710656):=H9 hq
 have HA:Hid (Rep.small a=true → -281474976710656≤a∧a≤281474976710656):=H9 ha
 have HT:Hid (Rep.small t=true → -281474976710656≤t∧t≤281474976710656):=H9 ht
 clear hq ha ht
 generalize Rep.okS ⟨s0,sb,sh,sr,sx,sy,st,sj⟩=bo at *
 generalize Rep.small q=b1 at *
 generalize Rep.small a=b2 at *
 generalize Rep.small t=b3 at *
 have K0:=H9 k0
 have K1:=H9 k1
 have K2:=H9 k2
 have K3:=H9 k3
 have HBD:=H9 hbd
 clear k0 k1 k2 k3 hbd
 have fin:∀ (w1:World),Below ((w.alloc (.cells #[.bool s0, .int .i64 sb, .int .i64 sh, .int .i64 sr, .int .i64 sx, .int .i64 sy, .int .i64 st, .int .i64 sj] 44)).alloc (.cells #[.bool false, .int .i64 0, .int .i64 0, .int .i64 0, .int .i64 0, .int .i64 0, .int .i64 0, .int .i64 0] 44)).heap.size ((w.alloc (.cells #[.bool s0, .int .i64 sb, .int .i64 sh, .int .i64 sr, .int .i64 sx, .int .i64 sy, .int .i64 st, .int .i64 sj] 44)).alloc (.cells #[.bool false, .int .i64 0, .int .i64 0, .int .i64 0, .int .i64 0, .int .i64 0, .int .i64 0, .int .i64 0] 44)) w1→Hid (Blk w1 w.heap.size 44 #[.bool s0, .int .i64 sb, .int .i64 sh, .int .i64 sr, .int .i64 sx, .int .i64 sy, .int .i64 st, .int .i64 sj])∧Hid (Blk w1 (w.heap.size+1) 44 #[.bool false, .int .i64 0, .int .i64 0, .int .i64 0, .int .i64 0, .int .i64 0, .int .i64 0, .int .i64 0])∧Hid (Bel w w1):=fun w1 hb =>
  ⟨H9 (((Blk.new w 44 #[.bool s0, .int .i64 sb, .int .i64 sh, .int .i64 sr, .int .i64 sx, .int .i64 sy, .int .i64 st, .int .i64 sj]).push _).later hb),H9 ((Blk.new1 w _ 44 #[.bool false, .int .i64 0, .int .i64 0, .int .i64 0, .int .i64 0, .int .i64 0, .int .i64 0, .int .i64 0]).later hb),H9 ((((Bel.refl w).push _).push _).later hb)⟩
 cases bo
 · rw [if_pos (by rfl)] at hR
   subst hR
   go_enter Tryz.func45,Tryz.ntmps45
   go_wp2_with fail
   refine (K0.out _).mono ?_
   rintro e w1 ⟨rfl,hb1⟩
   obtain ⟨B0,B1,U⟩:=fin w1 hb1
   clear hb1 fin
   have h10:w.heap.size+1≠w.heap.size:=by omega
   have h01:w.heap.size≠w.heap.size+1:=by omega
   have f0:=B0.out.at 0 _ rfl
   have f1:=B0.out.at 1 _ rfl
   have f2:=B0.out.at 2 _ rfl
   have f3:=B0.out.at 3 _ rfl
   have f4:=B0.out.at 4 _ rfl
   have f5:=B0.out.at 5 _ rfl
   have f6:=B0.out.at 6 _ rfl
   have f7:=B0.out.at 7 _ rfl
   have fz:=B0.out.frozen
   have r0:=B1.out.at 0 _ rfl
   have r1:=B1.out.at 1 _ rfl
   have r2:=B1.out.at 2 _ rfl
   have r3:=B1.out.at 3 _ rfl
   have r4:=B1.out.at 4 _ rfl
   have r5:=B1.out.at 5 _ rfl
   have r6:=B1.out.at 6 _ rfl
   have r7:=B1.out.at 7 _ rfl
   have rz:=B1.out.frozen
   go_wp2
   have BF:Blk (setRow (w.heap.size+1) w1 0 [.bool false, .int .i64 0, .int .i64 0, .int .i64 0, .int .i64 0, .int .i64 0, .int .i64 0, .int .i64 0]) (w.heap.size+1) 44 #[.bool false, .int .i64 0, .int .i64 0, .int .i64 0, .int .i64 0, .int .i64 0, .int .i64 0, .int .i64 0]:=Blk.setRow B1.out [.bool false, .int .i64 0, .int .i64 0, .int .i64 0, .int .i64 0, .int .i64 0, .int .i64 0, .int .i64 0] rfl
   have UF:Below w.heap.size w (setRow (w.heap.size+1) w1 0 [.bool false, .int .i64 0, .int .i64 0, .int .i64 0, .int .i64 0, .int .i64 0, .int .i64 0, .int .i64 0]):=below_setRow (by omega) [.bool false, .int .i64 0, .int .i64 0, .int .i64 0, .int .i64 0, .int .i64 0, .int .i64 0, .int .i64 0] _ 0 U.out
   simp only [setRow] at BF UF
   exact bodyPost_ret (v := .agg #[.bool false, .int .i64 0, .int .i64 0, .int .i64 0, .int .i64 0, .int .i64 0, .int .i64 0, .int .i64 0]) (zcf Tryz.results45 rfl (run_loadVar_row (P:=Tryz.prog) _ _ _ _ _ _ _ BF Tryz.underlying44 rfl (by kernel_rfl))) rfl ⟨rfl,UF⟩
 · cases b1
   · rw [if_pos (by rfl)] at hR
     subst hR
     go_enter Tryz.func45,Tryz.ntmps45
     go_wp2_with fail
     refine (K0.out _).mono ?_
     rintro e w1 ⟨rfl,hb1⟩
     obtain ⟨B0,B1,U⟩:=fin w1 hb1
     clear hb1 fin
     have h10:w.heap.size+1≠w.heap.size:=by omega
     have h01:w.heap.size≠w.heap.size+1:=by omega
     have f0:=B0.out.at 0 _ rfl
     have f1:=B0.out.at 1 _ rfl
     have f2:=B0.out.at 2 _ rfl
     have f3:=B0.out.at 3 _ rfl
     have f4:=B0.out.at 4 _ rfl
     have f5:=B0.out.at 5 _ rfl
     have f6:=B0.out.at 6 _ rfl
     have f7:=B0.out.at 7 _ rfl
     have fz:=B0.out.frozen
     have r0:=B1.out.at 0 _ rfl
     have r1:=B1.out.at 1 _ rfl
     have r2:=B1.out.at 2 _ rfl
     have r3:=B1.out.at 3 _ rfl
     have r4:=B1.out.at 4 _ rfl
     have r5:=B1.out.at 5 _ rfl
     have r6:=B1.out.at 6 _ rfl
     have r7:=B1.out.at 7 _ rfl
     have rz:=B1.out.frozen
     go_wp2_with fail
     refine (K1.out _).mono ?_
     rintro e w1 ⟨rfl,rfl⟩
     go_wp2
     have BF:Blk (setRow (w.heap.size+1) w1 0 [.bool false, .int .i64 0, .int .i64 0, .int .i64 0, .int .i64 0, .int .i64 0, .int .i64 0, .int .i64 0]) (w.heap.size+1) 44 #[.bool false, .int .i64 0, .int .i64 0, .int .i64 0, .int .i64 0, .int .i64 0, .int .i64 0, .int .i64 0]:=Blk.setRow B1.out [.bool false, .int .i64 0, .int .i64 0, .int .i64 0, .int .i64 0, .int .i64 0, .int .i64 0, .int .i64 0] rfl
     have UF:Below w.heap.size w (setRow (w.heap.size+1) w1 0 [.bool false, .int .i64 0, .int .i64 0, .int .i64 0, .int .i64 0, .int .i64 0, .int .i64 0, .int .i64 0]):=below_setRow (by omega) [.bool false, .int .i64 0, .int .i64 0, .int .i64 0, .int .i64 0, .int .i64 0, .int .i64 0, .int .i64 0] _ 0 U.out
     simp only [setRow] at BF UF
     exact bodyPost_ret (v := .agg #[.bool false, .int .i64 0, .int .i64 0, .int .i64 0, .int .i64 0, .int .i64 0, .int .i64 0, .int .i64 0]) (zcf Tryz.results45 rfl (run_loadVar_row (P:=Tryz.prog) _ _ _ _ _ _ _ BF Tryz.underlying44 rfl (by kernel_rfl))) rfl ⟨rfl,UF⟩
   · cases b2
     · rw [if_pos (by rfl)] at hR
       subst hR
       go_enter Tryz.func45,Tryz.ntmps45
       go_wp2_with fail
       refine (K0.out _).mono ?_
       rintro e w1 ⟨rfl,hb1⟩
       obtain ⟨B0,B1,U⟩:=fin w1 hb1
       clear hb1 fin
       have h10:w.heap.size+1≠w.heap.size:=by omega
       have h01:w.heap.size≠w.heap.size+1:=by omega
       have f0:=B0.out.at 0 _ rfl
       have f1:=B0.out.at 1 _ rfl
       have f2:=B0.out.at 2 _ rfl
       have f3:=B0.out.at 3 _ rfl
       have f4:=B0.out.at 4 _ rfl
       have f5:=B0.out.at 5 _ rfl
       have f6:=B0.out.at 6 _ rfl
       have f7:=B0.out.at 7 _ rfl
       have fz:=B0.out.frozen
       have r0:=B1.out.at 0 _ rfl
       have r1:=B1.out.at 1 _ rfl
       have r2:=B1.out.at 2 _ rfl
       have r3:=B1.out.at 3 _ rfl
       have r4:=B1.out.at 4 _ rfl
       have r5:=B1.out.at 5 _ rfl
       have r6:=B1.out.at 6 _ rfl
       have r7:=B1.out.at 7 _ rfl
       have rz:=B1.out.frozen
       go_wp2_with fail
       refine (K1.out _).mono ?_
       rintro e w1 ⟨rfl,rfl⟩
       go_wp2_with fail
       refine (K2.out _).mono ?_
       rintro e w1 ⟨rfl,rfl⟩
       go_wp2
       have BF:Blk (setRow (w.heap.size+1) w1 0 [.bool false, .int .i64 0, .int .i64 0, .int .i64 0, .int .i64 0, .int .i64 0, .int .i64 0, .int .i64 0]) (w.heap.size+1) 44 #[.bool false, .int .i64 0, .int .i64 0, .int .i64 0, .int .i64 0, .int .i64 0, .int .i64 0, .int .i64 0]:=Blk.setRow B1.out [.bool false, .int .i64 0, .int .i64 0, .int .i64 0, .int .i64 0, .int .i64 0, .int .i64 0, .int .i64 0] rfl
       have UF:Below w.heap.size w (setRow (w.heap.size+1) w1 0 [.bool false, .int .i64 0, .int .i64 0, .int .i64 0, .int .i64 0, .int .i64 0, .int .i64 0, .int .i64 0]):=below_setRow (by omega) [.bool false, .int .i64 0, .int .i64 0, .int .i64 0, .int .i64 0, .int .i64 0, .int .i64 0, .int .i64 0] _ 0 U.out
       simp only [setRow] at BF UF
       exact bodyPost_ret (v := .agg #[.bool false, .int .i64 0, .int .i64 0, .int .i64 0, .int .i64 0, .int .i64 0, .int .i64 0, .int .i64 0]) (zcf Tryz.results45 rfl (run_loadVar_row (P:=Tryz.prog) _ _ _ _ _ _ _ BF Tryz.underlying44 rfl (by kernel_rfl))) rfl ⟨rfl,UF⟩
     · cases b3
       · rw [if_pos (by rfl)] at hR
         subst hR
         go_enter Tryz.func45,Tryz.ntmps45
         go_wp2_with fail
         refine (K0.out _).mono ?_
         rintro e w1 ⟨rfl,hb1⟩
         obtain ⟨B0,B1,U⟩:=fin w1 hb1
         clear hb1 fin
         have h10:w.heap.size+1≠w.heap.size:=by omega
         have h01:w.heap.size≠w.heap.size+1:=by omega
         have f0:=B0.out.at 0 _ rfl
         have f1:=B0.out.at 1 _ rfl
         have f2:=B0.out.at 2 _ rfl
         have f3:=B0.out.at 3 _ rfl
         have f4:=B0.out.at 4 _ rfl
         have f5:=B0.out.at 5 _ rfl
         have f6:=B0.out.at 6 _ rfl
         have f7:=B0.out.at 7 _ rfl
         have fz:=B0.out.frozen
         have r0:=B1.out.at 0 _ rfl
         have r1:=B1.out.at 1 _ rfl
         have r2:=B1.out.at 2 _ rfl
         have r3:=B1.out.at 3 _ rfl
         have r4:=B1.out.at 4 _ rfl
         have r5:=B1.out.at 5 _ rfl
         have r6:=B1.out.at 6 _ rfl
         have r7:=B1.out.at 7 _ rfl
         have rz:=B1.out.frozen
         go_wp2_with fail
         refine (K1.out _).mono ?_
         rintro e w1 ⟨rfl,rfl⟩
         go_wp2_with fail
         refine (K2.out _).mono ?_
         rintro e w1 ⟨rfl,rfl⟩
         go_wp2_with fail
         refine (K3.out _).mono ?_
         rintro e w1 ⟨rfl,rfl⟩
         go_wp2
         have BF:Blk (setRow (w.heap.size+1) w1 0 [.bool false, .int .i64 0, .int .i64 0, .int .i64 0, .int .i64 0, .int .i64 0, .int .i64 0, .int .i64 0]) (w.heap.size+1) 44 #[.bool false, .int .i64 0, .int .i64 0, .int .i64 0, .int .i64 0, .int .i64 0, .int .i64 0, .int .i64 0]:=Blk.setRow B1.out [.bool false, .int .i64 0, .int .i64 0, .int .i64 0, .int .i64 0, .int .i64 0, .int .i64 0, .int .i64 0] rfl
         have UF:Below w.heap.size w (setRow (w.heap.size+1) w1 0 [.bool false, .int .i64 0, .int .i64 0, .int .i64 0, .int .i64 0, .int .i64 0, .int .i64 0, .int .i64 0]):=below_setRow (by omega) [.bool false, .int .i64 0, .int .i64 0, .int .i64 0, .int .i64 0, .int .i64 0, .int .i64 0, .int .i64 0] _ 0 U.out
         simp only [setRow] at BF UF
         exact bodyPost_ret (v := .agg #[.bool false, .int .i64 0, .int .i64 0, .int .i64 0, .int .i64 0, .int .i64 0, .int .i64 0, .int .i64 0]) (zcf Tryz.results45 rfl (run_loadVar_row (P:=Tryz.prog) _ _ _ _ _ _ _ BF Tryz.underlying44 rfl (by kernel_rfl))) rfl ⟨rfl,UF⟩
       · rw [if_neg (by simp)] at hR
         obtain ⟨c1,c2,c3,c4,c5,c6,c7,c8,c9,c10,c11,c12,c13,c14,c15⟩:=HBD.out rfl
         obtain ⟨q0,q1⟩:=HQ.out rfl
         obtain ⟨a0,a1⟩:=HA.out rfl
         obtain ⟨t0,t1⟩:=HT.out rfl
         cases s0
         · rw [if_pos rfl] at hR
           subst hR
           go_enter Tryz.func45,Tryz.ntmps45
           go_wp2_with fail
           refine (K0.out _).mono ?_
           rintro e w1 ⟨rfl,hb1⟩
           obtain ⟨B0,B1,U⟩:=fin w1 hb1
           clear hb1 fin
           have h10:w.heap.size+1≠w.heap.size:=by omega
           have h01:w.heap.size≠w.heap.size+1:=by omega
           have f0:=B0.out.at 0 _ rfl
           have f1:=B0.out.at 1 _ rfl
           have f2:=B0.out.at 2 _ rfl
           have f3:=B0.out.at 3 _ rfl
           have f4:=B0.out.at 4 _ rfl
           have f5:=B0.out.at 5 _ rfl
           have f6:=B0.out.at 6 _ rfl
           have f7:=B0.out.at 7 _ rfl
           have fz:=B0.out.frozen
           have r0:=B1.out.at 0 _ rfl
           have r1:=B1.out.at 1 _ rfl
           have r2:=B1.out.at 2 _ rfl
           have r3:=B1.out.at 3 _ rfl
           have r4:=B1.out.at 4 _ rfl
           have r5:=B1.out.at 5 _ rfl
           have r6:=B1.out.at 6 _ rfl
           have r7:=B1.out.at 7 _ rfl
           have rz:=B1.out.frozen
           go_wp2_with fail
           refine (K1.out _).mono ?_
           rintro e w1 ⟨rfl,rfl⟩
           go_wp2_with fail
           refine (K2.out _).mono ?_
           rintro e w1 ⟨rfl,rfl⟩
           go_wp2_with fail
           refine (K3.out _).mono ?_
           rintro e w1 ⟨rfl,rfl⟩
           go_wp2
           have BF:Blk (setRow (w.heap.size+1) w1 0 [.bool true, .int .i64 q, .int .i64 q, .int .i64 1, .int .i64 0, .int .i64 0, .int .i64 (a-t), .int .i64 0]) (w.heap.size+1) 44 #[.bool true, .int .i64 q, .int .i64 q, .int .i64 1, .int .i64 0, .int .i64 0, .int .i64 (a-t), .int .i64 0]:=Blk.setRow B1.out [.bool true, .int .i64 q, .int .i64 q, .int .i64 1, .int .i64 0, .int .i64 0, .int .i64 (a-t), .int .i64 0] rfl
           have UF:Below w.heap.size w (setRow (w.heap.size+1) w1 0 [.bool true, .int .i64 q, .int .i64 q, .int .i64 1, .int .i64 0, .int .i64 0, .int .i64 (a-t), .int .i64 0]):=below_setRow (by omega) [.bool true, .int .i64 q, .int .i64 q, .int .i64 1, .int .i64 0, .int .i64 0, .int .i64 (a-t), .int .i64 0] _ 0 U.out
           simp only [setRow] at BF UF
           exact bodyPost_ret (v := .agg #[.bool true, .int .i64 q, .int .i64 q, .int .i64 1, .int .i64 0, .int .i64 0, .int .i64 (a-t), .int .i64 0]) (zcf Tryz.results45 rfl (run_loadVar_row (P:=Tryz.prog) _ _ _ _ _ _ _ BF Tryz.underlying44 rfl (by kernel_rfl))) rfl ⟨rfl,UF⟩
         · rw [if_neg (by simp)] at hR
           obtain ⟨u,hu⟩:∃ u,u=a-t-st:=⟨_,rfl⟩
           rw [← hu] at hR
           unfold Rep.absI at hR
           by_cases hneg:u<0
           · rw [if_pos hneg,hu] at hR
             subst hR
             have hn1:a-t-st<0:=by omega
             clear hu hneg
             go_enter Tryz.func45,Tryz.ntmps45
             go_wp2_with fail
             refine (K0.out _).mono ?_
             rintro e w1 ⟨rfl,hb1⟩
             obtain ⟨B0,B1,U⟩:=fin w1 hb1
             clear hb1 fin
             have h10:w.heap.size+1≠w.heap.size:=by omega
             have h01:w.heap.size≠w.heap.size+1:=by omega
             have f0:=B0.out.at 0 _ rfl
             have f1:=B0.out.at 1 _ rfl
             have f2:=B0.out.at 2 _ rfl
             have f3:=B0.out.at 3 _ rfl
             have f4:=B0.out.at 4 _ rfl
             have f5:=B0.out.at 5 _ rfl
             have f6:=B0.out.at 6 _ rfl
             have f7:=B0.out.at 7 _ rfl
             have fz:=B0.out.frozen
             have r0:=B1.out.at 0 _ rfl
             have r1:=B1.out.at 1 _ rfl
             have r2:=B1.out.at 2 _ rfl
             have r3:=B1.out.at 3 _ rfl
             have r4:=B1.out.at 4 _ rfl
             have r5:=B1.out.at 5 _ rfl
             have r6:=B1.out.at 6 _ rfl
             have r7:=B1.out.at 7 _ rfl
             have rz:=B1.out.frozen
             go_wp2_with fail
             refine (K1.out _).mono ?_
             rintro e w1 ⟨rfl,rfl⟩
             go_wp2_with fail
             refine (K2.out _).mono ?_
             rintro e w1 ⟨rfl,rfl⟩
             go_wp2_with fail
             refine (K3.out _).mono ?_
             rintro e w1 ⟨rfl,rfl⟩
             go_wp2
             have BF:Blk (setRow (w.heap.size+1) (((((w1.setCell ⟨w.heap.size,1,none⟩ (.int .i64 (min sb q))).setCell ⟨w.heap.size,2,none⟩ (.int .i64 (max sh q))).setCell ⟨w.heap.size,3,none⟩ (.int .i64 (sr+1))).setCell ⟨w.heap.size,7,none⟩ (.int .i64 (sj+(-(a-t-st)-(sj+8) / 16)))).setCell ⟨w.heap.size,6,none⟩ (.int .i64 (a-t))) 0 [.bool true, .int .i64 (min sb q), .int .i64 (max sh q), .int .i64 (sr+1), .int .i64 sx, .int .i64 sy, .int .i64 (a-t), .int .i64 (sj+(-(a-t-st)-(sj+8) / 16))]) (w.heap.size+1) 44 #[.bool true, .int .i64 (min sb q), .int .i64 (max sh q), .int .i64 (sr+1), .int .i64 sx, .int .i64 sy, .int .i64 (a-t), .int .i64 (sj+(-(a-t-st)-(sj+8) / 16))]:=Blk.setRow (((((B1.out.far h10 (.int .i64 (min sb q))).far h10 (.int .i64 (max sh q))).far h10 (.int .i64 (sr+1))).far h10 (.int .i64 (sj+(-(a-t-st)-(sj+8) / 16)))).far h10 (.int .i64 (a-t))) [.bool true, .int .i64 (min sb q), .int .i64 (max sh q), .int .i64 (sr+1), .int .i64 sx, .int .i64 sy, .int .i64 (a-t), .int .i64 (sj+(-(a-t-st)-(sj+8) / 16))] rfl
             have UF:Below w.heap.size w (setRow (w.heap.size+1) (((((w1.setCell ⟨w.heap.size,1,none⟩ (.int .i64 (min sb q))).setCell ⟨w.heap.size,2,none⟩ (.int .i64 (max sh q))).setCell ⟨w.heap.size,3,none⟩ (.int .i64 (sr+1))).setCell ⟨w.heap.size,7,none⟩ (.int .i64 (sj+(-(a-t-st)-(sj+8) / 16)))).setCell ⟨w.heap.size,6,none⟩ (.int .i64 (a-t))) 0 [.bool true, .int .i64 (min sb q), .int .i64 (max sh q), .int .i64 (sr+1), .int .i64 sx, .int .i64 sy, .int .i64 (a-t), .int .i64 (sj+(-(a-t-st)-(sj+8) / 16))]):=below_setRow (by omega) [.bool true, .int .i64 (min sb q), .int .i64 (max sh q), .int .i64 (sr+1), .int .i64 sx, .int .i64 sy, .int .i64 (a-t), .int .i64 (sj+(-(a-t-st)-(sj+8) / 16))] _ 0 (Below.setCell (Below.setCell (Below.setCell (Below.setCell (Below.setCell U.out (by exact Nat.le_refl _) (.int .i64 (min sb q))) (by exact Nat.le_refl _) (.int .i64 (max sh q))) (by exact Nat.le_refl _) (.int .i64 (sr+1))) (by exact Nat.le_refl _) (.int .i64 (sj+(-(a-t-st)-(sj+8) / 16)))) (by exact Nat.le_refl _) (.int .i64 (a-t)))
             simp only [setRow] at BF UF
             exact bodyPost_ret (v := .agg #[.bool true, .int .i64 (min sb q), .int .i64 (max sh q), .int .i64 (sr+1), .int .i64 sx, .int .i64 sy, .int .i64 (a-t), .int .i64 (sj+(-(a-t-st)-(sj+8) / 16))]) (zcf Tryz.results45 rfl (run_loadVar_row (P:=Tryz.prog) _ _ _ _ _ _ _ BF Tryz.underlying44 rfl (by kernel_rfl))) rfl ⟨rfl,UF⟩
           · rw [if_neg hneg,hu] at hR
             subst hR
             have hn1:0≤a-t-st:=by omega
             clear hu hneg
             go_enter Tryz.func45,Tryz.ntmps45
             go_wp2_with fail
             refine (K0.out _).mono ?_
             rintro e w1 ⟨rfl,hb1⟩
             obtain ⟨B0,B1,U⟩:=fin w1 hb1
             clear hb1 fin
             have h10:w.heap.size+1≠w.heap.size:=by omega
             have h01:w.heap.size≠w.heap.size+1:=by omega
             have f0:=B0.out.at 0 _ rfl
             have f1:=B0.out.at 1 _ rfl
             have f2:=B0.out.at 2 _ rfl
             have f3:=B0.out.at 3 _ rfl
             have f4:=B0.out.at 4 _ rfl
             have f5:=B0.out.at 5 _ rfl
             have f6:=B0.out.at 6 _ rfl
             have f7:=B0.out.at 7 _ rfl
             have fz:=B0.out.frozen
             have r0:=B1.out.at 0 _ rfl
             have r1:=B1.out.at 1 _ rfl
             have r2:=B1.out.at 2 _ rfl
             have r3:=B1.out.at 3 _ rfl
             have r4:=B1.out.at 4 _ rfl
             have r5:=B1.out.at 5 _ rfl
             have r6:=B1.out.at 6 _ rfl
             have r7:=B1.out.at 7 _ rfl
             have rz:=B1.out.frozen
             go_wp2_with fail
             refine (K1.out _).mono ?_
             rintro e w1 ⟨rfl,rfl⟩
             go_wp2_with fail
             refine (K2.out _).mono ?_
             rintro e w1 ⟨rfl,rfl⟩
             go_wp2_with fail
             refine (K3.out _).mono ?_
             rintro e w1 ⟨rfl,rfl⟩
             go_wp2
             have BF:Blk (setRow (w.heap.size+1) (((((w1.setCell ⟨w.heap.size,1,none⟩ (.int .i64 (min sb q))).setCell ⟨w.heap.size,2,none⟩ (.int .i64 (max sh q))).setCell ⟨w.heap.size,3,none⟩ (.int .i64 (sr+1))).setCell ⟨w.heap.size,7,none⟩ (.int .i64 (sj+((a-t-st)-(sj+8) / 16)))).setCell ⟨w.heap.size,6,none⟩ (.int .i64 (a-t))) 0 [.bool true, .int .i64 (min sb q), .int .i64 (max sh q), .int .i64 (sr+1), .int .i64 sx, .int .i64 sy, .int .i64 (a-t), .int .i64 (sj+((a-t-st)-(sj+8) / 16))]) (w.heap.size+1) 44 #[.bool true, .int .i64 (min sb q), .int .i64 (max sh q), .int .i64 (sr+1), .int .i64 sx, .int .i64 sy, .int .i64 (a-t), .int .i64 (sj+((a-t-st)-(sj+8) / 16))]:=Blk.setRow (((((B1.out.far h10 (.int .i64 (min sb q))).far h10 (.int .i64 (max sh q))).far h10 (.int .i64 (sr+1))).far h10 (.int .i64 (sj+((a-t-st)-(sj+8) / 16)))).far h10 (.int .i64 (a-t))) [.bool true, .int .i64 (min sb q), .int .i64 (max sh q), .int .i64 (sr+1), .int .i64 sx, .int .i64 sy, .int .i64 (a-t), .int .i64 (sj+((a-t-st)-(sj+8) / 16))] rfl
             have UF:Below w.heap.size w (setRow (w.heap.size+1) (((((w1.setCell ⟨w.heap.size,1,none⟩ (.int .i64 (min sb q))).setCell ⟨w.heap.size,2,none⟩ (.int .i64 (max sh q))).setCell ⟨w.heap.size,3,none⟩ (.int .i64 (sr+1))).setCell ⟨w.heap.size,7,none⟩ (.int .i64 (sj+((a-t-st)-(sj+8) / 16)))).setCell ⟨w.heap.size,6,none⟩ (.int .i64 (a-t))) 0 [.bool true, .int .i64 (min sb q), .int .i64 (max sh q), .int .i64 (sr+1), .int .i64 sx, .int .i64 sy, .int .i64 (a-t), .int .i64 (sj+((a-t-st)-(sj+8) / 16))]):=below_setRow (by omega) [.bool true, .int .i64 (min sb q), .int .i64 (max sh q), .int .i64 (sr+1), .int .i64 sx, .int .i64 sy, .int .i64 (a-t), .int .i64 (sj+((a-t-st)-(sj+8) / 16))] _ 0 (Below.setCell (Below.setCell (Below.setCell (Below.setCell (Below.setCell U.out (by exact Nat.le_refl _) (.int .i64 (min sb q))) (by exact Nat.le_refl _) (.int .i64 (max sh q))) (by exact Nat.le_refl _) (.int .i64 (sr+1))) (by exact Nat.le_refl _) (.int .i64 (sj+((a-t-st)-(sj+8) / 16)))) (by exact Nat.le_refl _) (.int .i64 (a-t)))
             simp only [setRow] at BF UF
             exact bodyPost_ret (v := .agg #[.bool true, .int .i64 (min sb q), .int .i64 (max sh q), .int .i64 (sr+1), .int .i64 sx, .int .i64 sy, .int .i64 (a-t), .int .i64 (sj+((a-t-st)-(sj+8) / 16))]) (zcf Tryz.results45 rfl (run_loadVar_row (P:=Tryz.prog) _ _ _ _ _ _ _ BF Tryz.underlying44 rfl (by kernel_rfl))) rfl ⟨rfl,UF⟩
theorem zjx:Calls Tryz.prog 53 #[.agg #[.bool s0, .int .i64 sb, .int .i64 sh, .int .i64 sr, .int .i64 sx, .int .i64 sy, .int .i64 st, .int .i64 sj], .int .i64 q, .int .i64 a, .int .i64 t] w fun e w'=>e = .returned (.agg (Rep.arrive ⟨s0,sb,sh,sr,sx,sy,st,sj⟩ q a t).row)∧Below w.heap.size w w':=by
 obtain ⟨R,hR⟩:∃ R,R=Rep.arrive ⟨s0,sb,sh,sr,sx,sy,st,sj⟩ q a t:=⟨_,rfl⟩
 rw [← hR]
 unfold Rep.arrive at hR
 have k0:=fun W=>zgs s0 sb sh sr sx sy st sj W
 have k1:=fun W=>zam q 281474976710656 W (by omega) (by omega)
 have k2:=fun W=>zam a 281474976710656 W (by omega) (by omega)
 have k3:=fun W=>zam t 281474976710656 W (by omega) (by omega)
 have hbd:=Rep.okS_bd s0 sb sh sr sx sy st sj
 rw [show Rep.inB (-281474976710656) 281474976710656 q=Rep.small q from rfl] at k1
 rw [show Rep.inB (-281474976710656) 281474976710656 a=Rep.small a from rfl] at k2
 rw [show Rep.inB (-281474976710656) 281474976710656 t=Rep.small t from rfl] at k3
 have hq:=(Rep.inB_iff (-281474976710656) 281474976710656 q).1
 have ha:=(Rep.inB_iff (-281474976710656) 281474976710656 a).1
 have ht:=(Rep.inB_iff (-281474976710656) 281474976710656 t).1
 have HQ:Hid (Rep.small q=true → -281474976710656≤q∧q≤281474976710656):=H9 hq
 have HA:Hid (Rep.small a=true → -281474976710656≤a∧a≤281474976710656):=H9 ha
 have HT:Hid (Rep.small t=true → -281474976710656≤t∧t≤281474976710656):=H9 ht
 clear hq ha ht
 generalize Rep.okS ⟨s0,sb,sh,sr,sx,sy,st,sj⟩=bo at *
 generalize Rep.small q=b1 at *
 generalize Rep.small a=b2 at *
 generalize Rep.small t=b3 at *
 have K0:=H9 k0
 have K1:=H9 k1
 have K2:=H9 k2
 have K3:=H9 k3
 have HBD:=H9 hbd
 clear k0 k1 k2 k3 hbd
 have fin:∀ (w1:World),Below ((w.alloc (.cells #[.bool s0, .int .i64 sb, .int .i64 sh, .int .i64 sr, .int .i64 sx, .int .i64 sy, .int .i64 st, .int .i64 sj] 44)).alloc (.cells #[.bool false, .int .i64 0, .int .i64 0, .int .i64 0, .int .i64 0, .int .i64 0, .int .i64 0, .int .i64 0] 44)).heap.size ((w.alloc (.cells #[.bool s0, .int .i64 sb, .int .i64 sh, .int .i64 sr, .int .i64 sx, .int .i64 sy, .int .i64 st, .int .i64 sj] 44)).alloc (.cells #[.bool false, .int .i64 0, .int .i64 0, .int .i64 0, .int .i64 0, .int .i64 0, .int .i64 0, .int .i64 0] 44)) w1→Hid (Blk w1 w.heap.size 44 #[.bool s0, .int .i64 sb, .int .i64 sh, .int .i64 sr, .int .i64 sx, .int .i64 sy, .int .i64 st, .int .i64 sj])∧Hid (Blk w1 (w.heap.size+1) 44 #[.bool false, .int .i64 0, .int .i64 0, .int .i64 0, .int .i64 0, .int .i64 0, .int .i64 0, .int .i64 0])∧Hid (Bel w w1):=fun w1 hb =>
  ⟨H9 (((Blk.new w 44 #[.bool s0, .int .i64 sb, .int .i64 sh, .int .i64 sr, .int .i64 sx, .int .i64 sy, .int .i64 st, .int .i64 sj]).push _).later hb),H9 ((Blk.new1 w _ 44 #[.bool false, .int .i64 0, .int .i64 0, .int .i64 0, .int .i64 0, .int .i64 0, .int .i64 0, .int .i64 0]).later hb),H9 ((((Bel.refl w).push _).push _).later hb)⟩
 cases bo
 · rw [if_pos (by rfl)] at hR
   subst hR
   go_enter Tryz.func53,Tryz.ntmps53
   go_wp2_with fail
   refine (K0.out _).mono ?_
   rintro e w1 ⟨rfl,hb1⟩
   obtain ⟨B0,B1,U⟩:=fin w1 hb1
   clear hb1 fin
   have h10:w.heap.size+1≠w.heap.size:=by omega
   have h01:w.heap.size≠w.heap.size+1:=by omega
   have f0:=B0.out.at 0 _ rfl
   have f1:=B0.out.at 1 _ rfl
   have f2:=B0.out.at 2 _ rfl
   have f3:=B0.out.at 3 _ rfl
   have f4:=B0.out.at 4 _ rfl
   have f5:=B0.out.at 5 _ rfl
   have f6:=B0.out.at 6 _ rfl
   have f7:=B0.out.at 7 _ rfl
   have fz:=B0.out.frozen
   have r0:=B1.out.at 0 _ rfl
   have r1:=B1.out.at 1 _ rfl
   have r2:=B1.out.at 2 _ rfl
   have r3:=B1.out.at 3 _ rfl
   have r4:=B1.out.at 4 _ rfl
   have r5:=B1.out.at 5 _ rfl
   have r6:=B1.out.at 6 _ rfl
   have r7:=B1.out.at 7 _ rfl
   have rz:=B1.out.frozen
   go_wp2
   have BF:Blk (setRow (w.heap.size+1) w1 0 [.bool false, .int .i64 0, .int .i64 0, .int .i64 0, .int .i64 0, .int .i64 0, .int .i64 0, .int .i64 0]) (w.heap.size+1) 44 #[.bool false, .int .i64 0, .int .i64 0, .int .i64 0, .int .i64 0, .int .i64 0, .int .i64 0, .int .i64 0]:=Blk.setRow B1.out [.bool false, .int .i64 0, .int .i64 0, .int .i64 0, .int .i64 0, .int .i64 0, .int .i64 0, .int .i64 0] rfl
   have UF:Below w.heap.size w (setRow (w.heap.size+1) w1 0 [.bool false, .int .i64 0, .int .i64 0, .int .i64 0, .int .i64 0, .int .i64 0, .int .i64 0, .int .i64 0]):=below_setRow (by omega) [.bool false, .int .i64 0, .int .i64 0, .int .i64 0, .int .i64 0, .int .i64 0, .int .i64 0, .int .i64 0] _ 0 U.out
   simp only [setRow] at BF UF
   exact bodyPost_ret (v := .agg #[.bool false, .int .i64 0, .int .i64 0, .int .i64 0, .int .i64 0, .int .i64 0, .int .i64 0, .int .i64 0]) (zcf Tryz.results53 rfl (run_loadVar_row (P:=Tryz.prog) _ _ _ _ _ _ _ BF Tryz.underlying44 rfl (by kernel_rfl))) rfl ⟨rfl,UF⟩
 · cases b1
   · rw [if_pos (by rfl)] at hR
     subst hR
     go_enter Tryz.func53,Tryz.ntmps53
     go_wp2_with fail
     refine (K0.out _).mono ?_
     rintro e w1 ⟨rfl,hb1⟩
     obtain ⟨B0,B1,U⟩:=fin w1 hb1
     clear hb1 fin
     have h10:w.heap.size+1≠w.heap.size:=by omega
     have h01:w.heap.size≠w.heap.size+1:=by omega
     have f0:=B0.out.at 0 _ rfl
     have f1:=B0.out.at 1 _ rfl
     have f2:=B0.out.at 2 _ rfl
     have f3:=B0.out.at 3 _ rfl
     have f4:=B0.out.at 4 _ rfl
     have f5:=B0.out.at 5 _ rfl
     have f6:=B0.out.at 6 _ rfl
     have f7:=B0.out.at 7 _ rfl
     have fz:=B0.out.frozen
     have r0:=B1.out.at 0 _ rfl
     have r1:=B1.out.at 1 _ rfl
     have r2:=B1.out.at 2 _ rfl
     have r3:=B1.out.at 3 _ rfl
     have r4:=B1.out.at 4 _ rfl
     have r5:=B1.out.at 5 _ rfl
     have r6:=B1.out.at 6 _ rfl
     have r7:=B1.out.at 7 _ rfl
     have rz:=B1.out.frozen
     go_wp2_with fail
     refine (K1.out _).mono ?_
     rintro e w1 ⟨rfl,rfl⟩
     go_wp2
     have BF:Blk (setRow (w.heap.size+1) w1 0 [.bool false, .int .i64 0, .int .i64 0, .int .i64 0, .int .i64 0, .int .i64 0, .int .i64 0, .int .i64 0]) (w.heap.size+1) 44 #[.bool false, .int .i64 0, .int .i64 0, .int .i64 0, .int .i64 0, .int .i64 0, .int .i64 0, .int .i64 0]:=Blk.setRow B1.out [.bool false, .int .i64 0, .int .i64 0, .int .i64 0, .int .i64 0, .int .i64 0, .int .i64 0, .int .i64 0] rfl
     have UF:Below w.heap.size w (setRow (w.heap.size+1) w1 0 [.bool false, .int .i64 0, .int .i64 0, .int .i64 0, .int .i64 0, .int .i64 0, .int .i64 0, .int .i64 0]):=below_setRow (by omega) [.bool false, .int .i64 0, .int .i64 0, .int .i64 0, .int .i64 0, .int .i64 0, .int .i64 0, .int .i64 0] _ 0 U.out
     simp only [setRow] at BF UF
     exact bodyPost_ret (v := .agg #[.bool false, .int .i64 0, .int .i64 0, .int .i64 0, .int .i64 0, .int .i64 0, .int .i64 0, .int .i64 0]) (zcf Tryz.results53 rfl (run_loadVar_row (P:=Tryz.prog) _ _ _ _ _ _ _ BF Tryz.underlying44 rfl (by kernel_rfl))) rfl ⟨rfl,UF⟩
   · cases b2
     · rw [if_pos (by rfl)] at hR
       subst hR
       go_enter Tryz.func53,Tryz.ntmps53
       go_wp2_with fail
       refine (K0.out _).mono ?_
       rintro e w1 ⟨rfl,hb1⟩
       obtain ⟨B0,B1,U⟩:=fin w1 hb1
       clear hb1 fin
       have h10:w.heap.size+1≠w.heap.size:=by omega
       have h01:w.heap.size≠w.heap.size+1:=by omega
       have f0:=B0.out.at 0 _ rfl
       have f1:=B0.out.at 1 _ rfl
       have f2:=B0.out.at 2 _ rfl
       have f3:=B0.out.at 3 _ rfl
       have f4:=B0.out.at 4 _ rfl
       have f5:=B0.out.at 5 _ rfl
       have f6:=B0.out.at 6 _ rfl
       have f7:=B0.out.at 7 _ rfl
       have fz:=B0.out.frozen
       have r0:=B1.out.at 0 _ rfl
       have r1:=B1.out.at 1 _ rfl
       have r2:=B1.out.at 2 _ rfl
       have r3:=B1.out.at 3 _ rfl
       have r4:=B1.out.at 4 _ rfl
       have r5:=B1.out.at 5 _ rfl
       have r6:=B1.out.at 6 _ rfl
       have r7:=B1.out.at 7 _ rfl
       have rz:=B1.out.frozen
       go_wp2_with fail
       refine (K1.out _).mono ?_
       rintro e w1 ⟨rfl,rfl⟩
       go_wp2_with fail
       refine (K2.out _).mono ?_
       rintro e w1 ⟨rfl,rfl⟩
       go_wp2
       have BF:Blk (setRow (w.heap.size+1) w1 0 [.bool false, .int .i64 0, .int .i64 0, .int .i64 0, .int .i64 0, .int .i64 0, .int .i64 0, .int .i64 0]) (w.heap.size+1) 44 #[.bool false, .int .i64 0, .int .i64 0, .int .i64 0, .int .i64 0, .int .i64 0, .int .i64 0, .int .i64 0]:=Blk.setRow B1.out [.bool false, .int .i64 0, .int .i64 0, .int .i64 0, .int .i64 0, .int .i64 0, .int .i64 0, .int .i64 0] rfl
       have UF:Below w.heap.size w (setRow (w.heap.size+1) w1 0 [.bool false, .int .i64 0, .int .i64 0, .int .i64 0, .int .i64 0, .int .i64 0, .int .i64 0, .int .i64 0]):=below_setRow (by omega) [.bool false, .int .i64 0, .int .i64 0, .int .i64 0, .int .i64 0, .int .i64 0, .int .i64 0, .int .i64 0] _ 0 U.out
       simp only [setRow] at BF UF
       exact bodyPost_ret (v := .agg #[.bool false, .int .i64 0, .int .i64 0, .int .i64 0, .int .i64 0, .int .i64 0, .int .i64 0, .int .i64 0]) (zcf Tryz.results53 rfl (run_loadVar_row (P:=Tryz.prog) _ _ _ _ _ _ _ BF Tryz.underlying44 rfl (by kernel_rfl))) rfl ⟨rfl,UF⟩
     · cases b3
       · rw [if_pos (by rfl)] at hR
         subst hR
         go_enter Tryz.func53,Tryz.ntmps53
         go_wp2_with fail
         refine (K0.out _).mono ?_
         rintro e w1 ⟨rfl,hb1⟩
         obtain ⟨B0,B1,U⟩:=fin w1 hb1
         clear hb1 fin
         have h10:w.heap.size+1≠w.heap.size:=by omega
         have h01:w.heap.size≠w.heap.size+1:=by omega
         have f0:=B0.out.at 0 _ rfl
         have f1:=B0.out.at 1 _ rfl
         have f2:=B0.out.at 2 _ rfl
         have f3:=B0.out.at 3 _ rfl
         have f4:=B0.out.at 4 _ rfl
         have f5:=B0.out.at 5 _ rfl
         have f6:=B0.out.at 6 _ rfl
         have f7:=B0.out.at 7 _ rfl
         have fz:=B0.out.frozen
         have r0:=B1.out.at 0 _ rfl
         have r1:=B1.out.at 1 _ rfl
         have r2:=B1.out.at 2 _ rfl
         have r3:=B1.out.at 3 _ rfl
         have r4:=B1.out.at 4 _ rfl
         have r5:=B1.out.at 5 _ rfl
         have r6:=B1.out.at 6 _ rfl
         have r7:=B1.out.at 7 _ rfl
         have rz:=B1.out.frozen
         go_wp2_with fail
         refine (K1.out _).mono ?_
         rintro e w1 ⟨rfl,rfl⟩
         go_wp2_with fail
         refine (K2.out _).mono ?_
         rintro e w1 ⟨rfl,rfl⟩
         go_wp2_with fail
         refine (K3.out _).mono ?_
         rintro e w1 ⟨rfl,rfl⟩
         go_wp2
         have BF:Blk (setRow (w.heap.size+1) w1 0 [.bool false, .int .i64 0, .int .i64 0, .int .i64 0, .int .i64 0, .int .i64 0, .int .i64 0, .int .i64 0]) (w.heap.size+1) 44 #[.bool false, .int .i64 0, .int .i64 0, .int .i64 0, .int .i64 0, .int .i64 0, .int .i64 0, .int .i64 0]:=Blk.setRow B1.out [.bool false, .int .i64 0, .int .i64 0, .int .i64 0, .int .i64 0, .int .i64 0, .int .i64 0, .int .i64 0] rfl
         have UF:Below w.heap.size w (setRow (w.heap.size+1) w1 0 [.bool false, .int .i64 0, .int .i64 0, .int .i64 0, .int .i64 0, .int .i64 0, .int .i64 0, .int .i64 0]):=below_setRow (by omega) [.bool false, .int .i64 0, .int .i64 0, .int .i64 0, .int .i64 0, .int .i64 0, .int .i64 0, .int .i64 0] _ 0 U.out
         simp only [setRow] at BF UF
         exact bodyPost_ret (v := .agg #[.bool false, .int .i64 0, .int .i64 0, .int .i64 0, .int .i64 0, .int .i64 0, .int .i64 0, .int .i64 0]) (zcf Tryz.results53 rfl (run_loadVar_row (P:=Tryz.prog) _ _ _ _ _ _ _ BF Tryz.underlying44 rfl (by kernel_rfl))) rfl ⟨rfl,UF⟩
       · rw [if_neg (by simp)] at hR
         obtain ⟨c1,c2,c3,c4,c5,c6,c7,c8,c9,c10,c11,c12,c13,c14,c15⟩:=HBD.out rfl
         obtain ⟨q0,q1⟩:=HQ.out rfl
         obtain ⟨a0,a1⟩:=HA.out rfl
         obtain ⟨t0,t1⟩:=HT.out rfl
         cases s0
         · rw [if_pos rfl] at hR
           subst hR
           go_enter Tryz.func53,Tryz.ntmps53
           go_wp2_with fail
           refine (K0.out _).mono ?_
           rintro e w1 ⟨rfl,hb1⟩
           obtain ⟨B0,B1,U⟩:=fin w1 hb1
           clear hb1 fin
           have h10:w.heap.size+1≠w.heap.size:=by omega
           have h01:w.heap.size≠w.heap.size+1:=by omega
           have f0:=B0.out.at 0 _ rfl
           have f1:=B0.out.at 1 _ rfl
           have f2:=B0.out.at 2 _ rfl
           have f3:=B0.out.at 3 _ rfl
           have f4:=B0.out.at 4 _ rfl
           have f5:=B0.out.at 5 _ rfl
           have f6:=B0.out.at 6 _ rfl
           have f7:=B0.out.at 7 _ rfl
           have fz:=B0.out.frozen
           have r0:=B1.out.at 0 _ rfl
           have r1:=B1.out.at 1 _ rfl
           have r2:=B1.out.at 2 _ rfl
           have r3:=B1.out.at 3 _ rfl
           have r4:=B1.out.at 4 _ rfl
           have r5:=B1.out.at 5 _ rfl
           have r6:=B1.out.at 6 _ rfl
           have r7:=B1.out.at 7 _ rfl
           have rz:=B1.out.frozen
           go_wp2_with fail
           refine (K1.out _).mono ?_
           rintro e w1 ⟨rfl,rfl⟩
           go_wp2_with fail
           refine (K2.out _).mono ?_
           rintro e w1 ⟨rfl,rfl⟩
           go_wp2_with fail
           refine (K3.out _).mono ?_
           rintro e w1 ⟨rfl,rfl⟩
           go_wp2
           have BF:Blk (setRow (w.heap.size+1) w1 0 [.bool true, .int .i64 q, .int .i64 q, .int .i64 1, .int .i64 0, .int .i64 0, .int .i64 (a-t), .int .i64 0]) (w.heap.size+1) 44 #[.bool true, .int .i64 q, .int .i64 q, .int .i64 1, .int .i64 0, .int .i64 0, .int .i64 (a-t), .int .i64 0]:=Blk.setRow B1.out [.bool true, .int .i64 q, .int .i64 q, .int .i64 1, .int .i64 0, .int .i64 0, .int .i64 (a-t), .int .i64 0] rfl
           have UF:Below w.heap.size w (setRow (w.heap.size+1) w1 0 [.bool true, .int .i64 q, .int .i64 q, .int .i64 1, .int .i64 0, .int .i64 0, .int .i64 (a-t), .int .i64 0]):=below_setRow (by omega) [.bool true, .int .i64 q, .int .i64 q, .int .i64 1, .int .i64 0, .int .i64 0, .int .i64 (a-t), .int .i64 0] _ 0 U.out
           simp only [setRow] at BF UF
           exact bodyPost_ret (v := .agg #[.bool true, .int .i64 q, .int .i64 q, .int .i64 1, .int .i64 0, .int .i64 0, .int .i64 (a-t), .int .i64 0]) (zcf Tryz.results53 rfl (run_loadVar_row (P:=Tryz.prog) _ _ _ _ _ _ _ BF Tryz.underlying44 rfl (by kernel_rfl))) rfl ⟨rfl,UF⟩
         · rw [if_neg (by simp)] at hR
           obtain ⟨u,hu⟩:∃ u,u=a-t-st:=⟨_,rfl⟩
           rw [← hu] at hR
           unfold Rep.absI at hR
           have hd:max (a-t-st) (st-(a-t))=if u<0 then -u else u:=by rw [hu];split<;>omega
           rw [← hd] at hR
           clear hd hu
           by_cases h1:q<sb
           · rw [show min sb q=q by omega] at hR
             by_cases h2:sh<q
             · exfalso;omega
             · rw [show max sh q=sh by omega,← Int.add_sub_assoc] at hR
               subst hR
               have h2':q≤sh:=by omega
               go_enter Tryz.func53,Tryz.ntmps53
               go_wp2_with fail
               refine (K0.out _).mono ?_
               rintro e w1 ⟨rfl,hb1⟩
               obtain ⟨B0,B1,U⟩:=fin w1 hb1
               clear hb1 fin
               have h10:w.heap.size+1≠w.heap.size:=by omega
               have h01:w.heap.size≠w.heap.size+1:=by omega
               have f0:=B0.out.at 0 _ rfl
               have f1:=B0.out.at 1 _ rfl
               have f2:=B0.out.at 2 _ rfl
               have f3:=B0.out.at 3 _ rfl
               have f4:=B0.out.at 4 _ rfl
               have f5:=B0.out.at 5 _ rfl
               have f6:=B0.out.at 6 _ rfl
               have f7:=B0.out.at 7 _ rfl
               have fz:=B0.out.frozen
               have r0:=B1.out.at 0 _ rfl
               have r1:=B1.out.at 1 _ rfl
               have r2:=B1.out.at 2 _ rfl
               have r3:=B1.out.at 3 _ rfl
               have r4:=B1.out.at 4 _ rfl
               have r5:=B1.out.at 5 _ rfl
               have r6:=B1.out.at 6 _ rfl
               have r7:=B1.out.at 7 _ rfl
               have rz:=B1.out.frozen
               go_wp2_with fail
               refine (K1.out _).mono ?_
               rintro e w1 ⟨rfl,rfl⟩
               go_wp2_with fail
               refine (K2.out _).mono ?_
               rintro e w1 ⟨rfl,rfl⟩
               go_wp2_with fail
               refine (K3.out _).mono ?_
               rintro e w1 ⟨rfl,rfl⟩
               go_wp2
               have BF:Blk (setRow (w.heap.size+1) ((((w1.setCell ⟨w.heap.size,1,none⟩ (.int .i64 q)).setCell ⟨w.heap.size,3,none⟩ (.int .i64 (sr+1))).setCell ⟨w.heap.size,7,none⟩ (.int .i64 (sj+max (a-t-st) (st-(a-t))-(sj+8) / 16))).setCell ⟨w.heap.size,6,none⟩ (.int .i64 (a-t))) 0 [.bool true, .int .i64 q, .int .i64 sh, .int .i64 (sr+1), .int .i64 sx, .int .i64 sy, .int .i64 (a-t), .int .i64 (sj+max (a-t-st) (st-(a-t))-(sj+8) / 16)]) (w.heap.size+1) 44 #[.bool true, .int .i64 q, .int .i64 sh, .int .i64 (sr+1), .int .i64 sx, .int .i64 sy, .int .i64 (a-t), .int .i64 (sj+max (a-t-st) (st-(a-t))-(sj+8) / 16)]:=Blk.setRow ((((B1.out.far h10 (.int .i64 q)).far h10 (.int .i64 (sr+1))).far h10 (.int .i64 (sj+max (a-t-st) (st-(a-t))-(sj+8) / 16))).far h10 (.int .i64 (a-t))) [.bool true, .int .i64 q, .int .i64 sh, .int .i64 (sr+1), .int .i64 sx, .int .i64 sy, .int .i64 (a-t), .int .i64 (sj+max (a-t-st) (st-(a-t))-(sj+8) / 16)] rfl
               have UF:Below w.heap.size w (setRow (w.heap.size+1) ((((w1.setCell ⟨w.heap.size,1,none⟩ (.int .i64 q)).setCell ⟨w.heap.size,3,none⟩ (.int .i64 (sr+1))).setCell ⟨w.heap.size,7,none⟩ (.int .i64 (sj+max (a-t-st) (st-(a-t))-(sj+8) / 16))).setCell ⟨w.heap.size,6,none⟩ (.int .i64 (a-t))) 0 [.bool true, .int .i64 q, .int .i64 sh, .int .i64 (sr+1), .int .i64 sx, .int .i64 sy, .int .i64 (a-t), .int .i64 (sj+max (a-t-st) (st-(a-t))-(sj+8) / 16)]):=below_setRow (by omega) [.bool true, .int .i64 q, .int .i64 sh, .int .i64 (sr+1), .int .i64 sx, .int .i64 sy, .int .i64 (a-t), .int .i64 (sj+max (a-t-st) (st-(a-t))-(sj+8) / 16)] _ 0 (Below.setCell (Below.setCell (Below.setCell (Below.setCell U.out (by exact Nat.le_refl _) (.int .i64 q)) (by exact Nat.le_refl _) (.int .i64 (sr+1))) (by exact Nat.le_refl _) (.int .i64 (sj+max (a-t-st) (st-(a-t))-(sj+8) / 16))) (by exact Nat.le_refl _) (.int .i64 (a-t)))
               simp only [setRow] at BF UF
               exact bodyPost_ret (v := .agg #[.bool true, .int .i64 q, .int .i64 sh, .int .i64 (sr+1), .int .i64 sx, .int .i64 sy, .int .i64 (a-t), .int .i64 (sj+max (a-t-st) (st-(a-t))-(sj+8) / 16)]) (zcf Tryz.results53 rfl (run_loadVar_row (P:=Tryz.prog) _ _ _ _ _ _ _ BF Tryz.underlying44 rfl (by kernel_rfl))) rfl ⟨rfl,UF⟩
           · rw [show min sb q=sb by omega] at hR
             by_cases h2:sh<q
             · rw [show max sh q=q by omega,← Int.add_sub_assoc] at hR
               subst hR
               have h1':sb≤q:=by omega
               go_enter Tryz.func53,Tryz.ntmps53
               go_wp2_with fail
               refine (K0.out _).mono ?_
               rintro e w1 ⟨rfl,hb1⟩
               obtain ⟨B0,B1,U⟩:=fin w1 hb1
               clear hb1 fin
               have h10:w.heap.size+1≠w.heap.size:=by omega
               have h01:w.heap.size≠w.heap.size+1:=by omega
               have f0:=B0.out.at 0 _ rfl
               have f1:=B0.out.at 1 _ rfl
               have f2:=B0.out.at 2 _ rfl
               have f3:=B0.out.at 3 _ rfl
               have f4:=B0.out.at 4 _ rfl
               have f5:=B0.out.at 5 _ rfl
               have f6:=B0.out.at 6 _ rfl
               have f7:=B0.out.at 7 _ rfl
               have fz:=B0.out.frozen
               have r0:=B1.out.at 0 _ rfl
               have r1:=B1.out.at 1 _ rfl
               have r2:=B1.out.at 2 _ rfl
               have r3:=B1.out.at 3 _ rfl
               have r4:=B1.out.at 4 _ rfl
               have r5:=B1.out.at 5 _ rfl
               have r6:=B1.out.at 6 _ rfl
               have r7:=B1.out.at 7 _ rfl
               have rz:=B1.out.frozen
               go_wp2_with fail
               refine (K1.out _).mono ?_
               rintro e w1 ⟨rfl,rfl⟩
               go_wp2_with fail
               refine (K2.out _).mono ?_
               rintro e w1 ⟨rfl,rfl⟩
               go_wp2_with fail
               refine (K3.out _).mono ?_
               rintro e w1 ⟨rfl,rfl⟩
               go_wp2
               have BF:Blk (setRow (w.heap.size+1) ((((w1.setCell ⟨w.heap.size,2,none⟩ (.int .i64 q)).setCell ⟨w.heap.size,3,none⟩ (.int .i64 (sr+1))).setCell ⟨w.heap.size,7,none⟩ (.int .i64 (sj+max (a-t-st) (st-(a-t))-(sj+8) / 16))).setCell ⟨w.heap.size,6,none⟩ (.int .i64 (a-t))) 0 [.bool true, .int .i64 sb, .int .i64 q, .int .i64 (sr+1), .int .i64 sx, .int .i64 sy, .int .i64 (a-t), .int .i64 (sj+max (a-t-st) (st-(a-t))-(sj+8) / 16)]) (w.heap.size+1) 44 #[.bool true, .int .i64 sb, .int .i64 q, .int .i64 (sr+1), .int .i64 sx, .int .i64 sy, .int .i64 (a-t), .int .i64 (sj+max (a-t-st) (st-(a-t))-(sj+8) / 16)]:=Blk.setRow ((((B1.out.far h10 (.int .i64 q)).far h10 (.int .i64 (sr+1))).far h10 (.int .i64 (sj+max (a-t-st) (st-(a-t))-(sj+8) / 16))).far h10 (.int .i64 (a-t))) [.bool true, .int .i64 sb, .int .i64 q, .int .i64 (sr+1), .int .i64 sx, .int .i64 sy, .int .i64 (a-t), .int .i64 (sj+max (a-t-st) (st-(a-t))-(sj+8) / 16)] rfl
               have UF:Below w.heap.size w (setRow (w.heap.size+1) ((((w1.setCell ⟨w.heap.size,2,none⟩ (.int .i64 q)).setCell ⟨w.heap.size,3,none⟩ (.int .i64 (sr+1))).setCell ⟨w.heap.size,7,none⟩ (.int .i64 (sj+max (a-t-st) (st-(a-t))-(sj+8) / 16))).setCell ⟨w.heap.size,6,none⟩ (.int .i64 (a-t))) 0 [.bool true, .int .i64 sb, .int .i64 q, .int .i64 (sr+1), .int .i64 sx, .int .i64 sy, .int .i64 (a-t), .int .i64 (sj+max (a-t-st) (st-(a-t))-(sj+8) / 16)]):=below_setRow (by omega) [.bool true, .int .i64 sb, .int .i64 q, .int .i64 (sr+1), .int .i64 sx, .int .i64 sy, .int .i64 (a-t), .int .i64 (sj+max (a-t-st) (st-(a-t))-(sj+8) / 16)] _ 0 (Below.setCell (Below.setCell (Below.setCell (Below.setCell U.out (by exact Nat.le_refl _) (.int .i64 q)) (by exact Nat.le_refl _) (.int .i64 (sr+1))) (by exact Nat.le_refl _) (.int .i64 (sj+max (a-t-st) (st-(a-t))-(sj+8) / 16))) (by exact Nat.le_refl _) (.int .i64 (a-t)))
               simp only [setRow] at BF UF
               exact bodyPost_ret (v := .agg #[.bool true, .int .i64 sb, .int .i64 q, .int .i64 (sr+1), .int .i64 sx, .int .i64 sy, .int .i64 (a-t), .int .i64 (sj+max (a-t-st) (st-(a-t))-(sj+8) / 16)]) (zcf Tryz.results53 rfl (run_loadVar_row (P:=Tryz.prog) _ _ _ _ _ _ _ BF Tryz.underlying44 rfl (by kernel_rfl))) rfl ⟨rfl,UF⟩
             · rw [show max sh q=sh by omega,← Int.add_sub_assoc] at hR
               subst hR
               have h1':sb≤q:=by omega
               have h2':q≤sh:=by omega
               go_enter Tryz.func53,Tryz.ntmps53
               go_wp2_with fail
               refine (K0.out _).mono ?_
               rintro e w1 ⟨rfl,hb1⟩
               obtain ⟨B0,B1,U⟩:=fin w1 hb1
               clear hb1 fin
               have h10:w.heap.size+1≠w.heap.size:=by omega
               have h01:w.heap.size≠w.heap.size+1:=by omega
               have f0:=B0.out.at 0 _ rfl
               have f1:=B0.out.at 1 _ rfl
               have f2:=B0.out.at 2 _ rfl
               have f3:=B0.out.at 3 _ rfl
               have f4:=B0.out.at 4 _ rfl
               have f5:=B0.out.at 5 _ rfl
               have f6:=B0.out.at 6 _ rfl
               have f7:=B0.out.at 7 _ rfl
               have fz:=B0.out.frozen
               have r0:=B1.out.at 0 _ rfl
               have r1:=B1.out.at 1 _ rfl
               have r2:=B1.out.at 2 _ rfl
               have r3:=B1.out.at 3 _ rfl
               have r4:=B1.out.at 4 _ rfl
               have r5:=B1.out.at 5 _ rfl
               have r6:=B1.out.at 6 _ rfl
               have r7:=B1.out.at 7 _ rfl
               have rz:=B1.out.frozen
               go_wp2_with fail
               refine (K1.out _).mono ?_
               rintro e w1 ⟨rfl,rfl⟩
               go_wp2_with fail
               refine (K2.out _).mono ?_
               rintro e w1 ⟨rfl,rfl⟩
               go_wp2_with fail
               refine (K3.out _).mono ?_
               rintro e w1 ⟨rfl,rfl⟩
               go_wp2
               have BF:Blk (setRow (w.heap.size+1) (((w1.setCell ⟨w.heap.size,3,none⟩ (.int .i64 (sr+1))).setCell ⟨w.heap.size,7,none⟩ (.int .i64 (sj+max (a-t-st) (st-(a-t))-(sj+8) / 16))).setCell ⟨w.heap.size,6,none⟩ (.int .i64 (a-t))) 0 [.bool true, .int .i64 sb, .int .i64 sh, .int .i64 (sr+1), .int .i64 sx, .int .i64 sy, .int .i64 (a-t), .int .i64 (sj+max (a-t-st) (st-(a-t))-(sj+8) / 16)]) (w.heap.size+1) 44 #[.bool true, .int .i64 sb, .int .i64 sh, .int .i64 (sr+1), .int .i64 sx, .int .i64 sy, .int .i64 (a-t), .int .i64 (sj+max (a-t-st) (st-(a-t))-(sj+8) / 16)]:=Blk.setRow (((B1.out.far h10 (.int .i64 (sr+1))).far h10 (.int .i64 (sj+max (a-t-st) (st-(a-t))-(sj+8) / 16))).far h10 (.int .i64 (a-t))) [.bool true, .int .i64 sb, .int .i64 sh, .int .i64 (sr+1), .int .i64 sx, .int .i64 sy, .int .i64 (a-t), .int .i64 (sj+max (a-t-st) (st-(a-t))-(sj+8) / 16)] rfl
               have UF:Below w.heap.size w (setRow (w.heap.size+1) (((w1.setCell ⟨w.heap.size,3,none⟩ (.int .i64 (sr+1))).setCell ⟨w.heap.size,7,none⟩ (.int .i64 (sj+max (a-t-st) (st-(a-t))-(sj+8) / 16))).setCell ⟨w.heap.size,6,none⟩ (.int .i64 (a-t))) 0 [.bool true, .int .i64 sb, .int .i64 sh, .int .i64 (sr+1), .int .i64 sx, .int .i64 sy, .int .i64 (a-t), .int .i64 (sj+max (a-t-st) (st-(a-t))-(sj+8) / 16)]):=below_setRow (by omega) [.bool true, .int .i64 sb, .int .i64 sh, .int .i64 (sr+1), .int .i64 sx, .int .i64 sy, .int .i64 (a-t), .int .i64 (sj+max (a-t-st) (st-(a-t))-(sj+8) / 16)] _ 0 (Below.setCell (Below.setCell (Below.setCell U.out (by exact Nat.le_refl _) (.int .i64 (sr+1))) (by exact Nat.le_refl _) (.int .i64 (sj+max (a-t-st) (st-(a-t))-(sj+8) / 16))) (by exact Nat.le_refl _) (.int .i64 (a-t)))
               simp only [setRow] at BF UF
               exact bodyPost_ret (v := .agg #[.bool true, .int .i64 sb, .int .i64 sh, .int .i64 (sr+1), .int .i64 sx, .int .i64 sy, .int .i64 (a-t), .int .i64 (sj+max (a-t-st) (st-(a-t))-(sj+8) / 16)]) (zcf Tryz.results53 rfl (run_loadVar_row (P:=Tryz.prog) _ _ _ _ _ _ _ BF Tryz.underlying44 rfl (by kernel_rfl))) rfl ⟨rfl,UF⟩
end
theorem zpo {w W:World} {p:Sb.Pt} {A:Option Addr} {l:List TW} {n c:Nat} {x:Rx} {now:Int} (C:RC w p A l n c x now) (S:RS w W p A n c x) (fn t:Int) (J:Jb.Jt) (jp:List Jb.Wt) (jv:Int) (hJ:Jb.put p.jt now ⟨fn,t,x.mrk,x.ty,x.pl⟩=(J,jp,jv,0)) (a:Act) (ha:FrD w.heap.size now fn t a):firstWp Tryz.prog rcD_code (bodyPost Tryz.prog Tryz.f11 (RecvR ({ p with st:=Rep.arrive p.st fn (8*now) t,jt:=J,seed:=(Sb.sounds p.seed jp).1 }, jv,(Sb.sounds p.seed jp).2) w)) a W:=by
 obtain ⟨s,rfl,e1,e3,e5,e6,e15,e17,_⟩:=ha
 rw [r164,e1,e3,e5,e6,e15,e17]
 clear e1 e3 e5 e6 e15 e17
 have hlen:(Jb.put p.jt now ⟨fn,t,x.mrk,x.ty,x.pl⟩).2.1=Jb.due now p.jt.q:=by
  have h:=congrArg (fun x=>x.2.2.2) hJ
  unfold Jb.put at h ⊢
  split
  · rfl
  · rename_i hh;rw [if_neg hh] at h;exact absurd h hh
 rw [hJ] at hlen
 replace hlen:jp=Jb.due now p.jt.q:=hlen
 have HOP:=H9 (show ∀ a∈jp,OkW a by rw [hlen];exact zce C.ok)
 have hm:jp.length≤100000:=by
  rw [hlen]
  have h1:=zei now p.jt.q
  have h2:=congrArg List.length C.q
  have h3:=C.len
  have h4:=C.n5
  simp at h2
  omega
 have HM:=H9 hm
 have k4:∀ W,Calls Tryz.prog 45 #[.agg #[.bool p.st.seen, .int .i64 p.st.base, .int .i64 p.st.high, .int .i64 p.st.got, .int .i64 p.st.wexp, .int .i64 p.st.wrec, .int .i64 p.st.trans, .int .i64 p.st.jit], .int .i64 fn, .int .i64 (8*now), .int .i64 t] W fun e w'=>e = .returned (.agg (Rep.arrive p.st fn (8*now) t).row)∧Below W.heap.size W w':=fun W=>znh (s0:=p.st.seen) (sb:=p.st.base) (sh:=p.st.high) (sr:=p.st.got) (sx:=p.st.wexp) (sy:=p.st.wrec) (st:=p.st.trans) (sj:=p.st.jit) (q:=fn) (a:=8*now) (t:=t) (w:=W)
 have k5:=H9 fun (W:World) hW hI=>zrt p.jt A l n c now ⟨fn,t,x.mrk,x.ty,x.pl⟩ x.B x.pl.length x.pc W C.q C.len C.n5 C.cap C.cm hW C.sq rfl (by have:=C.h15;show x.pl.length≤100000;omega) hI
 unfold JPutW JV at k5
 rw [hJ] at k5
 dsimp only at k5
 replace k4:=H9 k4
 have hs0:=C.s0
 have hs1:=C.s1
 have hw8:wrap64 (8*now)=8*now:=IntWalk.wrap64_in _ ⟨by have:=C.n0;omega,by have:=C.n1;omega⟩
 have HA:=H9 C.av
 have HI:=H9 C.pl
 generalize hst:Rep.arrive p.st fn (8*now) t=ST at *
 clear hm hlen hJ hst C
 refine zau ?_
 intro _ _
 go_wp2_with (first|(refine zab rfl 44 (.tmp 122) rfl (w.heap.size) 32 rfl 48 (PL p A n c) S.b0 8 _ Tryz.underlying44 zbq (show 32+8≤48 by decide) (#[.bool p.st.seen, .int .i64 p.st.base, .int .i64 p.st.high, .int .i64 p.st.got, .int .i64 p.st.wexp, .int .i64 p.st.wrec, .int .i64 p.st.trans, .int .i64 p.st.jit]) (by rfl) rfl ?_)|fail)
 refine (k4.out _).mono ?_
 rintro e w6 ⟨rfl,hb1⟩
 replace S:=S.later hb1
 clear hb1 k4
 go_upto_region 26 with (first|(refine zac rfl 44 (.tmp 129) (.tmp 128) rfl (w.heap.size) 32 rfl 48 (PL p A n c) S.b0 ([.bool ST.seen, .int .i64 ST.base, .int .i64 ST.high, .int .i64 ST.got, .int .i64 ST.wexp, .int .i64 ST.wrec, .int .i64 ST.trans, .int .i64 ST.jit]) rfl zbq (show 32+8≤48 by decide) rfl (PL { p with st:=ST } A n c) rfl ?_;intro WG BG OG)|fail)
 replace S:=S.over OG BG
 clear BG OG
 have x0:=S.c0
 have x1:=S.c1
 have x9:=S.c9
 have BM:=H9 (Blk.new WG 103 #[.int .i64 fn, .int .i64 t, .bool x.mrk, .int .u8 x.ty, .slice x.B x.pl.length x.pc])
 obtain ⟨g4,hg4⟩:∃ g,g=WG.heap.size:=⟨_,rfl⟩
 replace S:=S.push (.cells #[.int .i64 fn, .int .i64 t, .bool x.mrk, .int .u8 x.ty, .slice x.B x.pl.length x.pc] 103)
 obtain ⟨W7,hW7⟩:∃ W,W=WG.alloc (Obj.cells #[.int .i64 fn, .int .i64 t, .bool x.mrk, .int .u8 x.ty, .slice x.B x.pl.length x.pc] 103):=⟨_,rfl⟩
 rw [← hg4,← hW7] at BM
 go_upto_region 27 with fail
 rw [← hg4]
 rw [← hW7] at S ⊢
 clear hW7 hg4 x0 x1 x9
 have m0:=BM.out.at 0 _ rfl
 have m1:=BM.out.at 1 _ rfl
 have m2:=BM.out.at 2 _ rfl
 have m3:=BM.out.at 3 _ rfl
 have m4:=BM.out.at 4 _ rfl
 have hL:=S.b2.lt
 have hLw:=S.u.size
 go_wp2_with (first|(refine zab rfl 40 (.tmp 140) rfl (w.heap.size) 14 rfl 48 (PL { p with st:=ST } A n c) S.b0 14 _ Tryz.underlying40 zaw (show 14+14≤48 by decide) (#[.int .i64 p.jt.least, .int .i64 p.jt.most, .int .i64 p.jt.now, .bool p.jt.on, .int .i64 p.jt.zero, .int .i64 p.jt.first, .int .i64 p.jt.high, .int .i64 p.jt.done, .int .i64 p.jt.spread, .int .i64 p.jt.trans, .slice A n c, .int .i64 p.jt.late, .int .i64 p.jt.twice, .int .i64 p.jt.played]) (by rfl) rfl ?_)|fail)
 refine (k5.out _ (HA.out.later S.u) (HI.out.later S.u)).mono ?_
 rintro e w8 ⟨A1,c1,l1,A2,c2,l2,rfl,hl1,hl2,hW1,hW2,hc2,hm2,hb1,hc1,hm1⟩
 replace S:=S.later hb1
 have HL1:=H9 hl1
 have HL2:=H9 hl2
 have HOK:=H9 (zrf hl1 HOP.out hW1.cap)
 have hlen1:l1.length≤100000:=by have h1:=congrArg List.length hl1;have h2:=HM.out;simp at h1;omega
 have hs8:=hb1.size
 have BJ:=H9 (Blk.new w8 40 (JW J A2 l2.length c2).toArray)
 obtain ⟨g5,hg5⟩:∃ g,g=w8.heap.size:=⟨_,rfl⟩
 obtain ⟨W9,hW9⟩:∃ W,W=w8.alloc (.cells (JW J A2 l2.length c2).toArray 40):=⟨_,rfl⟩
 have BB:=H9 (show Below w8.heap.size w8 W9 by rw [hW9];exact (Below.refl _ _).alloc (Nat.le_refl _) _)
 rw [← hg5,← hW9] at BJ
 clear hb1 hl1 hl2 m0 m1 m2 m3 m4 BM k5
 go_upto_region 30 with fail
 rw [← hg5]
 change Code.wp _ _ _ _ (w8.alloc (Obj.cells (JW J A2 l2.length c2).toArray 40))
 rw [← hW9]
 replace S:=S.later BB.out
 have HW1:=H9 (hW1.later BB.out)
 have HW2:=H9 (hW2.later BB.out)
 clear hW9 hg5 hW1 hW2 BB
 go_upto_region 31 with (first|(refine zab rfl 40 (.tmp 19) rfl (g5) 0 rfl 40 (JW J A2 l2.length c2) BJ.out 14 _ Tryz.underlying40 zaw (show 0+14≤14 by decide) ((JW J A2 l2.length c2).toArray) (by rfl) rfl ?_)|(refine zac rfl 40 (.tmp 154) (.tmp 153) rfl (w.heap.size) 14 rfl 48 (PL { p with st:=ST } A n c) S.b0 (JW J A2 l2.length c2) rfl zaw (show 14+14≤48 by decide) rfl (PL { p with st:=ST,jt:=J } A2 l2.length c2) rfl ?_;intro WH BH OH)|fail)
 have hW1:=H9 (HW1.out.step OH (by omega))
 have hW2:=H9 (HW2.out.step OH (by omega))
 replace S:=S.over OH BH
 clear BH OH
 clear HW1 HW2 BJ
 obtain ⟨q1,hq1⟩:∃ q:Sb.Pt,q = { p with st:=ST,jt:=J } := ⟨_,rfl⟩
 rw [← hq1] at S
 have k6:=H9 fun (W:World) hW=>zhd q1 (by rw [hq1];exact hs0) (by rw [hq1];exact hs1) A2 l2.length c2 (PA q1 A2 l2.length c2) rfl A1 l1 l1.length c1 W rfl hlen1 hW HOK.out
 unfold SoundsR at k6
 rw [HL1.out] at k6
 obtain ⟨q2,hq2⟩:∃ q:Sb.Pt,q = { q1 with seed:=(Sb.sounds q1.seed jp).1 } := ⟨_,rfl⟩
 rw [← hq2] at k6
 have HQ1:=H9 hq1
 have HQ2:=H9 hq2
 clear hq1 hq2 hs0 hs1
 go_wp2_with (first|(refine zab rfl 48 (.tmp 3) rfl (w.heap.size) 0 rfl 48 (PL q1 A2 l2.length c2) S.b0 48 _ Tryz.underlying48 zah (show 0+48≤48 by decide) (PA q1 A2 l2.length c2) (by rfl) rfl ?_)|fail)
 refine (k6.out _ hW1.out.rows).mono ?_
 rintro e w10 ⟨SA,sc,ls,rfl,hls,hso,hb1⟩
 have hbase:w.heap.size≤WH.heap.size:=S.u.size
 have hB2l:=S.b2.lt
 replace S:=S.later hb1
 replace hW2:=H9 (hW2.out.later hb1)
 have HLS:=H9 hls
 have HSO:=H9 hso
 have hsz3:=hb1.size
 clear hls hso hb1 hW1
 go_upto_region 32 with (first|(refine zac rfl 48 (.tmp 3) (.tmp 159) rfl (w.heap.size) 0 rfl 48 (PL q1 A2 l2.length c2) S.b0 (PL q2 A2 l2.length c2) rfl zah (show 0+48≤48 by decide) rfl (PL q2 A2 l2.length c2) rfl ?_;intro WI BI OI)|fail)
 have hW3:=H9 (hW2.out.step OI (by omega))
 replace HSO:=H9 (HSO.out.only OI (by omega))
 replace S:=S.over OI BI
 clear BI OI
 clear hW2
 go_wp2_with (first|(refine zab rfl 48 (.tmp 3) rfl (w.heap.size) 0 rfl 48 (PL q2 A2 l2.length c2) S.b0 48 _ Tryz.underlying48 zah (show 0+48≤48 by decide) (PA q2 A2 l2.length c2) (by rfl) rfl ?_)|(refine zac rfl 48 (.tmp 6) (.tmp 161) rfl (w.heap.size+1+1) 0 rfl 48 (PL Sb.Pt.zero none 0 0) S.b2 (PL q2 A2 l2.length c2) rfl zah (show 0+48≤48 by decide) rfl (PL q2 A2 l2.length c2) rfl ?_;intro WK2 BK2 OK2)|fail)
 have hW4:=(hW3.out.step OK2 (by omega)).less (lo':=w.heap.size) (by omega)
 refine bodyPost_ret (v := .tuple #[.agg (PA q2 A2 l2.length c2), .int .u8 jv, .slice SA l1.length sc, .int .u8 0]) (zar Tryz.results11 rfl (PB.load BK2) rfl rfl rfl) rfl ⟨A2,l2.length,c2,l2,SA,sc,l1.length,ls,WH.heap.size+3,?_,HL2.out,rfl,hc2,hm2,hW4,?_,by omega,HSO.out.only OK2 (by omega),OK2.bel S.u (by omega)⟩
 · rw [HQ2.out,HQ1.out]
 · rw [HLS.out,HQ1.out]
theorem ztw {w W:World} {p:Sb.Pt} {A:Option Addr} {l:List TW} {n c:Nat} {x:Rx} {now:Int} (C:RC w p A l n c x now) (S:RS w W p A n c x) (fn t:Int) (on:Bool) (J:Jb.Jt) (jp:List Jb.Wt) (jv:Int) (hJ:Jb.put p.jt now ⟨fn,t,x.mrk,x.ty,x.pl⟩=(J,jp,jv,0)) (a:Act) (ha:FrE w.heap.size now on fn t a):firstWp Tryz.prog rcE_code (bodyPost Tryz.prog Tryz.f11 (RecvR ({ p with ht:=if on=false∨p.ht<t then t else p.ht,st:=Rep.arrive p.st fn (8*now) t,jt:=J,seed:=(Sb.sounds p.seed jp).1 }, jv,(Sb.sounds p.seed jp).2) w)) a W:=by
 obtain ⟨s,rfl,e1,e3,e5,e6,e13,e15,e17,_⟩:=ha
 rw [r164,e1,e3,e5,e6,e13,e15,e17]
 clear e1 e3 e5 e6 e13 e15 e17
 have HJ:=H9 hJ
 clear hJ
 cases on
 · rw [if_pos (Or.inl rfl)]
   refine zay ?_
   intro _ _ _ _
   have x31:=S.b0.cell 31 _ rfl
   have z31:=Blk.frozen S.b0 31
   go_upto_region 25 with fail
   obtain ⟨V,hV⟩:∃ V,V=W.setCell ⟨w.heap.size,31,none⟩ (.int .i64 t):=⟨_,rfl⟩
   rw [← hV]
   have S2:RS w V { p with ht:=t } A n c x:=by rw [hV];exact S.set 31 _ rfl
   refine zas (by assumption) ?_
   exact zpo (p := { p with ht:=t }) (C.with rfl rfl) S2 fn t J jp jv HJ.out _ FrD.mk
 by_cases ht:p.ht<t
 · rw [if_pos (Or.inr ht)]
   refine zay ?_
   intro _ _ _ _
   have x31:=S.b0.cell 31 _ rfl
   have z31:=Blk.frozen S.b0 31
   go_upto_region 25 with fail
   obtain ⟨V,hV⟩:∃ V,V=W.setCell ⟨w.heap.size,31,none⟩ (.int .i64 t):=⟨_,rfl⟩
   rw [← hV]
   have S2:RS w V { p with ht:=t } A n c x:=by rw [hV];exact S.set 31 _ rfl
   refine zas (by assumption) ?_
   exact zpo (p := { p with ht:=t }) (C.with rfl rfl) S2 fn t J jp jv HJ.out _ FrD.mk
 · rw [if_neg (by rintro (h|h);cases h;exact ht h)]
   refine zay ?_
   intro _ _ _ _
   have x31:=S.b0.cell 31 _ rfl
   go_upto_region 25 with fail
   refine zas (by assumption) ?_
   exact zpo C S fn t J jp jv HJ.out _ FrD.mk
theorem zwj {w W:World} {p:Sb.Pt} {A:Option Addr} {l:List TW} {n c:Nat} {x:Rx} {now:Int} (C:RC w p A l n c x now) (S:RS w W p A n c x) (gt:Nat) (fn t:Int) (on:Bool) (h101:¬x.ty=101) (ht0 : -140737488355328≤p.ht) (ht1:p.ht≤140737488355328) (ht:t=if on=true then Pk.near p.ht x.ti 4294967296 else x.ti) (J:Jb.Jt) (jp:List Jb.Wt) (jv:Int) (hJ:Jb.put p.jt now ⟨fn,t,x.mrk,x.ty,x.pl⟩=(J,jp,jv,0)) (a:Act) (ha:FrC w.heap.size now gt on fn a):firstWp Tryz.prog rcC_code (bodyPost Tryz.prog Tryz.f11 (RecvR ({ p with ht:=if on=false∨p.ht<t then t else p.ht,st:=Rep.arrive p.st fn (8*now) t,jt:=J,seed:=(Sb.sounds p.seed jp).1 }, jv,(Sb.sounds p.seed jp).2) w)) a W:=by
 obtain ⟨s,rfl,e1,e3,e5,e6,e11,e13,e15,_⟩:=ha
 rw [r164,e1,e3,e5,e6,e11,e13,e15]
 clear e1 e3 e5 e6 e11 e13 e15
 have HJ:=H9 hJ
 have t0:=C.t0
 have t1:=C.t1
 have hwt:IntKind.i64.wrap x.ti=x.ti:=by simp only [IntKind.wrap,IntKind.bits,IntKind.signed];simp;omega
 have x1:=S.c1
 have x3:=S.c3
 clear hJ
 cases on
 · rw [if_neg (by decide)] at ht
   subst ht
   refine zay ?_
   intro _ _ _ _
   go_upto_region 23 with fail
   refine zbk (by assumption) (by assumption) ?_
   exact ztw C S fn x.ti false J jp jv HJ.out _ FrE.mk
 rw [if_pos rfl] at ht
 have x31:=S.b0.cell 31 _ rfl
 have k1:=H9 fun W=>zgl (w:=W) (last:=p.ht) (x:=x.ti) t0 t1 (by omega) (by omega)
 rw [← ht] at k1
 clear ht
 refine zay ?_
 intro _ _ _ _
 go_upto_region 23 with (first|(refine (k1.out _).mono ?_;rintro e w' ⟨rfl,rfl⟩)|fail)
 refine zbk (by assumption) (by assumption) ?_
 exact ztw C S fn t true J jp jv HJ.out _ FrE.mk
end Go.Proofs.YtahbecinkciahaaGreat
