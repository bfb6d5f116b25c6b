/- Layer 30: Valid of the program: the numbers. -/
import Derived.Test.YtbcgnddpkiemoaaGreatVoFunQ
set_option linter.unusedVariables false
set_option linter.unusedSimpArgs false
set_option maxRecDepth 100000
set_option maxHeartbeats 12800000
namespace Go.Proofs.YtbcgnddpkiemoaaGreat
section
attribute [local go_sem ↓] zab zac
attribute [local go_sem] zaa zad
open Go.RowKit
theorem zvs {s:Jb.Jt} (h:¬s.nums):Jb.valid s=false:=by unfold Jb.valid;rw [decide_eq_false_iff_not];exact fun h2=>h h2.1
theorem zxk {s:Jb.Jt} (h:¬Jb.cfg s.least s.most):Jb.valid s=false:=by unfold Jb.valid;rw [decide_eq_false_iff_not];exact fun h2=>h h2.2.1
theorem zdr {s:Jb.Jt} (h:¬s.cnts):Jb.valid s=false:=by unfold Jb.valid;rw [decide_eq_false_iff_not];exact fun h2=>h h2.2.2.1
theorem zjl {s:Jb.Jt} (h:¬s.rest):Jb.valid s=false:=by unfold Jb.valid;rw [decide_eq_false_iff_not];exact fun h2=>h h2.2.2.2.1
theorem zud {s:Jb.Jt} (h1:s.nums) (h2:Jb.cfg s.least s.most) (h3:s.cnts) (h4:s.rest):Jb.valid s=decide (Jb.okQ s.now s.high s.q):=by
 unfold Jb.valid Jb.Jt.ok
 simp only [h1,h2,h3,h4,true_and]
theorem zmm (le M nw:Int) (on:Bool) (ze fi hi dn sp tr:Int) (A:Option Addr) (l:List TW) (n qc:Nat) (la tw pd:Int) (w:World) (hn:l.length=n) (hx:¬(Jb.Jt.nums ⟨le,M,nw,on,ze,fi,hi,dn,sp,tr,l.map TW.w,la,tw,pd⟩)):Calls Tryz.prog 80 #[.agg #[.int .i64 le, .int .i64 M, .int .i64 nw, .bool on, .int .i64 ze, .int .i64 fi, .int .i64 hi, .int .i64 dn, .int .i64 sp, .int .i64 tr, .slice A n qc, .int .i64 la, .int .i64 tw, .int .i64 pd]] w fun e w'=>e = .returned (.bool (Jb.valid ⟨le,M,nw,on,ze,fi,hi,dn,sp,tr,l.map TW.w,la,tw,pd⟩))∧Below w.heap.size w w':=by
 rw [zvs hx]
 have hc:(nw<0)∨(0≤nw∧281474976710656<nw)∨(0≤nw∧nw≤281474976710656∧ze < -1125899906842624)∨(0≤nw∧nw≤281474976710656 ∧ -1125899906842624≤ze∧1125899906842624<ze)∨(0≤nw∧nw≤281474976710656 ∧ -1125899906842624≤ze∧ze≤1125899906842624∧tr < -1125899906842624)∨(0≤nw∧nw≤281474976710656 ∧ -1125899906842624≤ze∧ze≤1125899906842624 ∧ -1125899906842624≤tr∧1125899906842624<tr)∨(0≤nw∧nw≤281474976710656 ∧ -1125899906842624≤ze∧ze≤1125899906842624 ∧ -1125899906842624≤tr∧tr≤1125899906842624∧fi < -281474976710656)∨(0≤nw∧nw≤281474976710656 ∧ -1125899906842624≤ze∧ze≤1125899906842624 ∧ -1125899906842624≤tr∧tr≤1125899906842624 ∧ -281474976710656≤fi∧281474976710656<fi)∨(0≤nw∧nw≤281474976710656 ∧ -1125899906842624≤ze∧ze≤1125899906842624 ∧ -1125899906842624≤tr∧tr≤1125899906842624 ∧ -281474976710656≤fi∧fi≤281474976710656∧hi < -1)∨(0≤nw∧nw≤281474976710656 ∧ -1125899906842624≤ze∧ze≤1125899906842624 ∧ -1125899906842624≤tr∧tr≤1125899906842624 ∧ -281474976710656≤fi∧fi≤281474976710656 ∧ -1≤hi∧281474976710656<hi)∨(0≤nw∧nw≤281474976710656 ∧ -1125899906842624≤ze∧ze≤1125899906842624 ∧ -1125899906842624≤tr∧tr≤1125899906842624 ∧ -281474976710656≤fi∧fi≤281474976710656 ∧ -1≤hi∧hi≤281474976710656∧dn < -1)∨(0≤nw∧nw≤281474976710656 ∧ -1125899906842624≤ze∧ze≤1125899906842624 ∧ -1125899906842624≤tr∧tr≤1125899906842624 ∧ -281474976710656≤fi∧fi≤281474976710656 ∧ -1≤hi∧hi≤281474976710656 ∧ -1≤dn∧281474976710656<dn)∨(0≤nw∧nw≤281474976710656 ∧ -1125899906842624≤ze∧ze≤1125899906842624 ∧ -1125899906842624≤tr∧tr≤1125899906842624 ∧ -281474976710656≤fi∧fi≤281474976710656 ∧ -1≤hi∧hi≤281474976710656 ∧ -1≤dn∧dn≤281474976710656∧sp<0)∨(0≤nw∧nw≤281474976710656 ∧ -1125899906842624≤ze∧ze≤1125899906842624 ∧ -1125899906842624≤tr∧tr≤1125899906842624 ∧ -281474976710656≤fi∧fi≤281474976710656 ∧ -1≤hi∧hi≤281474976710656 ∧ -1≤dn∧dn≤281474976710656∧0≤sp∧72057594037927936<sp):=by
  by_cases B:0≤nw
  rotate_left
  · have q0:nw<0:=by omega
    left;exact q0
  by_cases p1:nw≤281474976710656
  rotate_left
  · have q1:281474976710656<nw:=by omega
    right;left;exact ⟨B,q1⟩
  by_cases C : -1125899906842624≤ze
  rotate_left
  · have q2:ze < -1125899906842624:=by omega
    right;right;left;exact ⟨B,p1,q2⟩
  by_cases D:ze≤1125899906842624
  rotate_left
  · have c:1125899906842624<ze:=by omega
    right;right;right;left;exact ⟨B,p1,C,c⟩
  by_cases E : -1125899906842624≤tr
  rotate_left
  · have b:tr < -1125899906842624:=by omega
    right;right;right;right;left;exact ⟨B,p1,C,D,b⟩
  by_cases F:tr≤1125899906842624
  rotate_left
  · have Z:1125899906842624<tr:=by omega
    right;right;right;right;right;left;exact ⟨B,p1,C,D,E,Z⟩
  by_cases G : -281474976710656≤fi
  rotate_left
  · have Y:fi < -281474976710656:=by omega
    right;right;right;right;right;right;left;exact ⟨B,p1,C,D,E,F,Y⟩
  by_cases H:fi≤281474976710656
  rotate_left
  · have X:281474976710656<fi:=by omega
    right;right;right;right;right;right;right;left;exact ⟨B,p1,C,D,E,F,G,X⟩
  by_cases I : -1≤hi
  rotate_left
  · have V:hi < -1:=by omega
    right;right;right;right;right;right;right;right;left;exact ⟨B,p1,C,D,E,F,G,H,V⟩
  by_cases K:hi≤281474976710656
  rotate_left
  · have q9:281474976710656<hi:=by omega
    right;right;right;right;right;right;right;right;right;left;exact ⟨B,p1,C,D,E,F,G,H,I,q9⟩
  by_cases N : -1≤dn
  rotate_left
  · have f:dn < -1:=by omega
    right;right;right;right;right;right;right;right;right;right;left;exact ⟨B,p1,C,D,E,F,G,H,I,K,f⟩
  by_cases P:dn≤281474976710656
  rotate_left
  · have g:281474976710656<dn:=by omega
    right;right;right;right;right;right;right;right;right;right;right;left;exact ⟨B,p1,C,D,E,F,G,H,I,K,N,g⟩
  by_cases p12:0≤sp
  rotate_left
  · have h:sp<0:=by omega
    right;right;right;right;right;right;right;right;right;right;right;right;left;exact ⟨B,p1,C,D,E,F,G,H,I,K,N,P,h⟩
  by_cases d:sp≤72057594037927936
  rotate_left
  · have i:72057594037927936<sp:=by omega
    right;right;right;right;right;right;right;right;right;right;right;right;right;exact ⟨B,p1,C,D,E,F,G,H,I,K,N,P,p12,i⟩
  exact absurd (show Jb.Jt.nums ⟨le,M,nw,on,ze,fi,hi,dn,sp,tr,l.map TW.w,la,tw,pd⟩ from ⟨⟨B,p1⟩,⟨C,D⟩,⟨E,F⟩,⟨G,H⟩,⟨I,K⟩,⟨N,P⟩,⟨p12,d⟩⟩) hx
 clear hx
 rcases hc with h0|⟨h0,h1⟩|⟨h0,h1,h2⟩|⟨h0,h1,h2,h3⟩|⟨h0,h1,h2,h3,h4⟩|⟨h0,h1,h2,h3,h4,h5⟩|⟨h0,h1,h2,h3,h4,h5,h6⟩|⟨h0,h1,h2,h3,h4,h5,h6,J⟩|⟨h0,h1,h2,h3,h4,h5,h6,J,L⟩|⟨h0,h1,h2,h3,h4,h5,h6,J,L,O⟩|⟨h0,h1,h2,h3,h4,h5,h6,J,L,O,R⟩|⟨h0,h1,h2,h3,h4,h5,h6,J,L,O,R,T⟩|⟨h0,h1,h2,h3,h4,h5,h6,J,L,O,R,T,U⟩|⟨h0,h1,h2,h3,h4,h5,h6,J,L,O,R,T,U,j⟩
 all_goals
  go_enter Tryz.func80,Tryz.ntmps80
  go_wp2_with fail
  go_ret
  exact ⟨by rfl,(Below.refl _ _).alloc (Nat.le_refl _) _⟩
end
end Go.Proofs.YtbcgnddpkiemoaaGreat
