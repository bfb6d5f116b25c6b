/- Layer 30: Valid of the program: the numbers. -/
import Derived.Test.YtbcgnddpkiemoaaGreatVoFunQ
set_option linter.unusedVariables false
set_option linter.unusedSimpArgs false
set_option maxRecDepth 100000
set_option maxHeartbeats 12800000
namespace Go.Proofs.YtbcgnddpkiemoaaGreat
attribute [local go_sem ↓] zab zac
attribute [local go_sem] zaa zad
open Go.RowKit
theorem zux {s:Jb.Jt} (h:¬s.nums):Jb.valid s=false:=by unfold Jb.valid;rw [decide_eq_false_iff_not];exact fun h2=>h h2.1
theorem zwu {s:Jb.Jt} (h:¬Jb.cfg s.least s.most):Jb.valid s=false:=by unfold Jb.valid;rw [decide_eq_false_iff_not];exact fun h2=>h h2.2.1
theorem zdo {s:Jb.Jt} (h:¬s.cnts):Jb.valid s=false:=by unfold Jb.valid;rw [decide_eq_false_iff_not];exact fun h2=>h h2.2.2.1
theorem zjc {s:Jb.Jt} (h:¬s.rest):Jb.valid s=false:=by unfold Jb.valid;rw [decide_eq_false_iff_not];exact fun h2=>h h2.2.2.2.1
theorem ztc {s:Jb.Jt} (h1:s.nums) (h2:Jb.cfg s.least s.most) (h3:s.cnts) (h4:s.rest):Jb.valid s=decide (Jb.okQ s.now s.high s.q):=by
 unfold Jb.valid Jb.Jt.ok
 simp only [h1,h2,h3,h4,true_and]
theorem zmi (le mo nw:Int) (on:Bool) (ze fi hi dn sp tr:Int) (A:Option Addr) (l:List TW) (n qc:Nat) (la tw pd:Int) (w:World) (hn:l.length=n) (hx:¬(Jb.Jt.nums ⟨le,mo,nw,on,ze,fi,hi,dn,sp,tr,l.map TW.w,la,tw,pd⟩)):Calls Tryz.prog 80 #[.agg #[.int .i64 le, .int .i64 mo, .int .i64 nw, .bool on, .int .i64 ze, .int .i64 fi, .int .i64 hi, .int .i64 dn, .int .i64 sp, .int .i64 tr, .slice A n qc, .int .i64 la, .int .i64 tw, .int .i64 pd]] w fun e w'=>e = .returned (.bool (Jb.valid ⟨le,mo,nw,on,ze,fi,hi,dn,sp,tr,l.map TW.w,la,tw,pd⟩))∧Below w.heap.size w w':=by
 rw [zux hx]
 have hc:(nw<0)∨(0≤nw∧281474976710656<nw)∨(0≤nw∧nw≤281474976710656∧ze < -1125899906842624)∨(0≤nw∧nw≤281474976710656 ∧ -1125899906842624≤ze∧1125899906842624<ze)∨(0≤nw∧nw≤281474976710656 ∧ -1125899906842624≤ze∧ze≤1125899906842624∧tr < -1125899906842624)∨(0≤nw∧nw≤281474976710656 ∧ -1125899906842624≤ze∧ze≤1125899906842624 ∧ -1125899906842624≤tr∧1125899906842624<tr)∨(0≤nw∧nw≤281474976710656 ∧ -1125899906842624≤ze∧ze≤1125899906842624 ∧ -1125899906842624≤tr∧tr≤1125899906842624∧fi < -281474976710656)∨(0≤nw∧nw≤281474976710656 ∧ -1125899906842624≤ze∧ze≤1125899906842624 ∧ -1125899906842624≤tr∧tr≤1125899906842624 ∧ -281474976710656≤fi∧281474976710656<fi)∨(0≤nw∧nw≤281474976710656 ∧ -1125899906842624≤ze∧ze≤1125899906842624 ∧ -1125899906842624≤tr∧tr≤1125899906842624 ∧ -281474976710656≤fi∧fi≤281474976710656∧hi < -1)∨(0≤nw∧nw≤281474976710656 ∧ -1125899906842624≤ze∧ze≤1125899906842624 ∧ -1125899906842624≤tr∧tr≤1125899906842624 ∧ -281474976710656≤fi∧fi≤281474976710656 ∧ -1≤hi∧281474976710656<hi)∨(0≤nw∧nw≤281474976710656 ∧ -1125899906842624≤ze∧ze≤1125899906842624 ∧ -1125899906842624≤tr∧tr≤1125899906842624 ∧ -281474976710656≤fi∧fi≤281474976710656 ∧ -1≤hi∧hi≤281474976710656∧dn < -1)∨(0≤nw∧nw≤281474976710656 ∧ -1125899906842624≤ze∧ze≤1125899906842624 ∧ -1125899906842624≤tr∧tr≤1125899906842624 ∧ -281474976710656≤fi∧fi≤281474976710656 ∧ -1≤hi∧hi≤281474976710656 ∧ -1≤dn∧281474976710656<dn)∨(0≤nw∧nw≤281474976710656 ∧ -1125899906842624≤ze∧ze≤1125899906842624 ∧ -1125899906842624≤tr∧tr≤1125899906842624 ∧ -281474976710656≤fi∧fi≤281474976710656 ∧ -1≤hi∧hi≤281474976710656 ∧ -1≤dn∧dn≤281474976710656∧sp<0)∨(0≤nw∧nw≤281474976710656 ∧ -1125899906842624≤ze∧ze≤1125899906842624 ∧ -1125899906842624≤tr∧tr≤1125899906842624 ∧ -281474976710656≤fi∧fi≤281474976710656 ∧ -1≤hi∧hi≤281474976710656 ∧ -1≤dn∧dn≤281474976710656∧0≤sp∧72057594037927936<sp):=by
  by_cases p0:0≤nw
  rotate_left
  · have q0:nw<0:=by omega
    left;exact q0
  by_cases p1:nw≤281474976710656
  rotate_left
  · have q1:281474976710656<nw:=by omega
    right;left;exact ⟨p0,q1⟩
  by_cases p2 : -1125899906842624≤ze
  rotate_left
  · have q2:ze < -1125899906842624:=by omega
    right;right;left;exact ⟨p0,p1,q2⟩
  by_cases p3:ze≤1125899906842624
  rotate_left
  · have q3:1125899906842624<ze:=by omega
    right;right;right;left;exact ⟨p0,p1,p2,q3⟩
  by_cases p4 : -1125899906842624≤tr
  rotate_left
  · have q4:tr < -1125899906842624:=by omega
    right;right;right;right;left;exact ⟨p0,p1,p2,p3,q4⟩
  by_cases p5:tr≤1125899906842624
  rotate_left
  · have q5:1125899906842624<tr:=by omega
    right;right;right;right;right;left;exact ⟨p0,p1,p2,p3,p4,q5⟩
  by_cases p6 : -281474976710656≤fi
  rotate_left
  · have q6:fi < -281474976710656:=by omega
    right;right;right;right;right;right;left;exact ⟨p0,p1,p2,p3,p4,p5,q6⟩
  by_cases p7:fi≤281474976710656
  rotate_left
  · have q7:281474976710656<fi:=by omega
    right;right;right;right;right;right;right;left;exact ⟨p0,p1,p2,p3,p4,p5,p6,q7⟩
  by_cases p8 : -1≤hi
  rotate_left
  · have q8:hi < -1:=by omega
    right;right;right;right;right;right;right;right;left;exact ⟨p0,p1,p2,p3,p4,p5,p6,p7,q8⟩
  by_cases p9:hi≤281474976710656
  rotate_left
  · have q9:281474976710656<hi:=by omega
    right;right;right;right;right;right;right;right;right;left;exact ⟨p0,p1,p2,p3,p4,p5,p6,p7,p8,q9⟩
  by_cases p10 : -1≤dn
  rotate_left
  · have q10:dn < -1:=by omega
    right;right;right;right;right;right;right;right;right;right;left;exact ⟨p0,p1,p2,p3,p4,p5,p6,p7,p8,p9,q10⟩
  by_cases p11:dn≤281474976710656
  rotate_left
  · have q11:281474976710656<dn:=by omega
    right;right;right;right;right;right;right;right;right;right;right;left;exact ⟨p0,p1,p2,p3,p4,p5,p6,p7,p8,p9,p10,q11⟩
  by_cases p12:0≤sp
  rotate_left
  · have q12:sp<0:=by omega
    right;right;right;right;right;right;right;right;right;right;right;right;left;exact ⟨p0,p1,p2,p3,p4,p5,p6,p7,p8,p9,p10,p11,q12⟩
  by_cases p13:sp≤72057594037927936
  rotate_left
  · have q13:72057594037927936<sp:=by omega
    right;right;right;right;right;right;right;right;right;right;right;right;right;exact ⟨p0,p1,p2,p3,p4,p5,p6,p7,p8,p9,p10,p11,p12,q13⟩
  exact absurd (show Jb.Jt.nums ⟨le,mo,nw,on,ze,fi,hi,dn,sp,tr,l.map TW.w,la,tw,pd⟩ from ⟨⟨p0,p1⟩,⟨p2,p3⟩,⟨p4,p5⟩,⟨p6,p7⟩,⟨p8,p9⟩,⟨p10,p11⟩,⟨p12,p13⟩⟩) hx
 clear hx
 rcases hc with h0|⟨h0,h1⟩|⟨h0,h1,h2⟩|⟨h0,h1,h2,h3⟩|⟨h0,h1,h2,h3,h4⟩|⟨h0,h1,h2,h3,h4,h5⟩|⟨h0,h1,h2,h3,h4,h5,h6⟩|⟨h0,h1,h2,h3,h4,h5,h6,h7⟩|⟨h0,h1,h2,h3,h4,h5,h6,h7,h8⟩|⟨h0,h1,h2,h3,h4,h5,h6,h7,h8,h9⟩|⟨h0,h1,h2,h3,h4,h5,h6,h7,h8,h9,h10⟩|⟨h0,h1,h2,h3,h4,h5,h6,h7,h8,h9,h10,h11⟩|⟨h0,h1,h2,h3,h4,h5,h6,h7,h8,h9,h10,h11,h12⟩|⟨h0,h1,h2,h3,h4,h5,h6,h7,h8,h9,h10,h11,h12,h13⟩
 all_goals
  go_enter Tryz.func80,Tryz.ntmps80
  go_wp2_with fail
  go_ret
  exact ⟨by rfl,(Below.refl _ _).alloc (Nat.le_refl _) _⟩
end Go.Proofs.YtbcgnddpkiemoaaGreat
