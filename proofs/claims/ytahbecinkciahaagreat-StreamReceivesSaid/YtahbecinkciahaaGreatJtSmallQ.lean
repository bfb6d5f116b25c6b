/- Layer 30: the small functions. -/
import Derived.Test.YtahbecinkciahaaGreatSs9Q
import Derived.Laws.Bits64b
import Derived.BigQuiet
import Derived.Deep.QuietTactic
import Derived.Maps.AppendAt
import Derived.Deep.AppendLies
import Derived.OwnWalk
import Derived.Laws.CopyOwn
import Derived.Laws.Rows
import Derived.Deep.LoopGhost
import Derived.Deep.CutRange
import Derived.Deep.DeepCutAuto
import Derived.RegionCalls
import Derived.Deep.RegionWith
import Derived.Deep.RegionHeld3
import Derived.Maps.OwnOps
import Derived.Maps.Views
set_option linter.unusedVariables false
set_option linter.unusedSimpArgs false
set_option maxRecDepth 100000
set_option maxHeartbeats 12800000
namespace Go.Proofs.YtahbecinkciahaaGreat
attribute [local go_sem ↓] zae zaf
attribute [local go_sem] zad zag
open Go.RowKit
theorem zat (x:Int) (h0 : -9223372036854775808≤x) (h1:x≤9223372036854775807):IntKind.i64.wrap x=x:=by
 by_cases h:0≤x
 · have e:x % 2 ^ 64=x:=Int.emod_eq_of_lt h (by omega)
   simp only [IntKind.wrap,IntKind.bits,IntKind.signed,e]
   rw [if_neg (by simp;omega)]
 · have e:x % 2 ^ 64=x+2 ^ 64:=by omega
   simp only [IntKind.wrap,IntKind.bits,IntKind.signed,e]
   rw [if_pos (by simp;omega)]
   omega
theorem zwr {k:IntKind} {a b:Int} (h:a=b):Ending.returned (.int k a) = .returned (.int k b):=by rw [h]
theorem ziz {a b:Bool} (h:a=b):Ending.returned (.bool a) = .returned (.bool b):=by rw [h]
theorem zgu (x:Int) (w:World) (x0 : -9223372036854775808≤x) (x1:x≤9223372036854775807):Calls Tryz.prog 150 #[.int .i64 x] w fun e w'=>e = .returned (.int .i64 (x / 8))∧w=w':=by
 go_enter Tryz.func150,Tryz.ntmps150
 go_wp2_with fail
 go_ret
 exact ⟨by rfl,rfl⟩
theorem zfl (x:Int) (w:World) (x0 : -9223372036854775000≤x) (x1:x≤9223372036854775000):Calls Tryz.prog 119 #[.int .i64 x] w fun e w'=>e = .returned (.int .i64 (x / 8))∧w=w':=by
 obtain ⟨q,hq⟩:∃ q,x.tdiv 8=q:=⟨_,rfl⟩
 obtain ⟨r,hr⟩:∃ r,x.tmod 8=r:=⟨_,rfl⟩
 have hqr:8*q+r=x:=by rw [← hq,← hr];exact Int.mul_tdiv_add_tmod x 8
 have hb1:=Int.tmod_lt_of_pos x (show (0:Int)<8 by decide)
 have hb2 : -8<r:=by
  by_cases h:0≤x
  · have:=Int.tmod_nonneg 8 h;omega
  · have h3:=Int.tmod_lt_of_pos (-x) (show (0:Int)<8 by decide)
    rw [Int.neg_tmod] at h3
    omega
 rw [hr] at hb1
 obtain ⟨y,hy⟩:∃ y,y=x / 8:=⟨_,rfl⟩
 rw [← hy]
 have hqb : -1152921504606846976≤q∧q≤1152921504606846976:=by omega
 obtain ⟨hqb1,hqb2⟩:=hqb
 by_cases hneg:r<0
 · have hY:y=q-1:=by omega
   have HY:=H9 hY
   clear hY hy hqr
   go_enter Tryz.func119,Tryz.ntmps119
   go_wp2_with fail
   go_ret
   exact ⟨zwr HY.out.symm,rfl⟩
 · have hY:y=q:=by
    have:0≤r:=by omega
    omega
   have HY:=H9 hY
   have hnn:0≤r:=by omega
   clear hY hy hqr
   go_enter Tryz.func119,Tryz.ntmps119
   go_wp2_with fail
   go_ret
   exact ⟨zwr HY.out.symm,rfl⟩
theorem zaz (n lo hi:Int) (w:World) (b:Bool) (hb:b=decide (lo≤n∧n≤hi)):Calls Tryz.prog 127 #[.int .i64 n, .int .i64 lo, .int .i64 hi] w fun e w'=>e = .returned (.bool b)∧w=w':=by
 by_cases h1:lo≤n
 · have hv:b=decide (n≤hi):=by rw [hb];simp [h1]
   clear hb
   subst hv
   go_enter Tryz.func127,Tryz.ntmps127
   go_wp2_with fail
   go_ret
   exact ⟨by rfl,rfl⟩
 · have hv:b=false:=by rw [hb];simp [h1]
   clear hb
   subst hv
   have h1':n<lo:=by omega
   go_enter Tryz.func127,Tryz.ntmps127
   go_wp2_with fail
   go_ret
   exact ⟨by rfl,rfl⟩
theorem zme (x:Int) (w:World):Calls Tryz.prog 163 #[.int .i64 x] w fun e w'=>e = .returned (.bool false)∧w=w':=by
 go_enter Tryz.func163,Tryz.ntmps163
 go_wp2_with fail
 go_ret
 exact ⟨by simp,rfl⟩
theorem zsq (x y:Int) (w:World):Calls Tryz.prog 151 #[.int .i64 x, .int .i64 y] w fun e w'=>e = .returned (.int .i64 (if x<y then -1 else if y<x then 1 else 0))∧w=w':=by
 obtain ⟨R,hR⟩:∃ R:Int,R=if x<y then -1 else if y<x then 1 else 0:=⟨_,rfl⟩
 rw [← hR]
 have hc:(x<y∧R = -1)∨(¬x<y∧y<x∧R=1)∨(¬x<y∧¬y<x∧R=0):=by
  by_cases h1:x<y
  · left;exact ⟨h1,by rw [hR,if_pos h1]⟩
  · by_cases h2:y<x
    · right;left;exact ⟨h1,h2,by rw [hR,if_neg h1,if_pos h2]⟩
    · right;right;exact ⟨h1,h2,by rw [hR,if_neg h1,if_neg h2]⟩
 clear hR
 rcases hc with ⟨h1,rfl⟩|⟨h1,h2,rfl⟩|⟨h1,h2,rfl⟩
 all_goals
  go_enter Tryz.func151,Tryz.ntmps151
  go_wp2_with fail
  refine (zme _ _).mono ?_
  rintro e w1 ⟨rfl,rfl⟩
  go_wp2_with fail
  refine (zme _ _).mono ?_
  rintro e w1 ⟨rfl,rfl⟩
  go_wp2_with fail
  go_ret
  exact ⟨rfl,rfl⟩
theorem zmf (x:Int) (w:World):Calls Tryz.prog 164 #[.int .i64 x] w fun e w'=>e = .returned (.bool false)∧w=w':=by
 go_enter Tryz.func164,Tryz.ntmps164
 go_wp2_with fail
 go_ret
 exact ⟨by simp,rfl⟩
theorem zsr (x y:Int) (w:World):Calls Tryz.prog 152 #[.int .i64 x, .int .i64 y] w fun e w'=>e = .returned (.int .i64 (if x<y then -1 else if y<x then 1 else 0))∧w=w':=by
 obtain ⟨R,hR⟩:∃ R:Int,R=if x<y then -1 else if y<x then 1 else 0:=⟨_,rfl⟩
 rw [← hR]
 have hc:(x<y∧R = -1)∨(¬x<y∧y<x∧R=1)∨(¬x<y∧¬y<x∧R=0):=by
  by_cases h1:x<y
  · left;exact ⟨h1,by rw [hR,if_pos h1]⟩
  · by_cases h2:y<x
    · right;left;exact ⟨h1,h2,by rw [hR,if_neg h1,if_pos h2]⟩
    · right;right;exact ⟨h1,h2,by rw [hR,if_neg h1,if_neg h2]⟩
 clear hR
 rcases hc with ⟨h1,rfl⟩|⟨h1,h2,rfl⟩|⟨h1,h2,rfl⟩
 all_goals
  go_enter Tryz.func152,Tryz.ntmps152
  go_wp2_with fail
  refine (zmf _ _).mono ?_
  rintro e w1 ⟨rfl,rfl⟩
  go_wp2_with fail
  refine (zmf _ _).mono ?_
  rintro e w1 ⟨rfl,rfl⟩
  go_wp2_with fail
  go_ret
  exact ⟨rfl,rfl⟩
theorem zgv (l m:Int) (w:World) (v:Bool) (hv:v=decide (1≤l∧l≤m∧m≤1000)):Calls Tryz.prog 123 #[.agg #[.int .i64 l, .int .i64 m]] w fun e w'=>e = .returned (.bool v)∧Below w.heap.size w w':=by
 have hc:(l<1∧v=false)∨(1≤l∧m<l∧v=false)∨(1≤l∧l≤m∧1000<m∧v=false)∨(1≤l∧l≤m∧m≤1000∧v=true):=by
  by_cases p0:1≤l
  rotate_left
  · have q0:l<1:=by omega
    have hf:v=false:=by rw [hv,decide_eq_false_iff_not];intro hx;omega
    left;exact ⟨q0,hf⟩
  by_cases p1:l≤m
  rotate_left
  · have q1:m<l:=by omega
    have hf:v=false:=by rw [hv,decide_eq_false_iff_not];intro hx;omega
    right;left;exact ⟨p0,q1,hf⟩
  by_cases p2:m≤1000
  rotate_left
  · have q2:1000<m:=by omega
    have hf:v=false:=by rw [hv,decide_eq_false_iff_not];intro hx;omega
    right;right;left;exact ⟨p0,p1,q2,hf⟩
  have ht:v=true:=by rw [hv,decide_eq_true_iff];omega
  right;right;right;exact ⟨p0,p1,p2,ht⟩
 clear hv
 rcases hc with ⟨h0,rfl⟩|⟨h0,h1,rfl⟩|⟨h0,h1,h2,rfl⟩|⟨h0,h1,h2,rfl⟩
 all_goals
  go_enter Tryz.func123,Tryz.ntmps123
  go_wp2_with fail
  go_ret
  exact ⟨by first|(simp;done)|(simp;omega),(Below.refl _ _).alloc (Nat.le_refl _) _⟩
theorem zkj (l m:Int) (w:World) (v:Bool) (hv:v=decide (1≤l∧l≤m∧m≤1000)):Calls Tryz.prog 124 #[.agg #[.int .i64 l, .int .i64 m]] w fun e w'=>e = .returned (.bool v)∧Below w.heap.size w w':=by
 have hc:(l<1∧v=false)∨(1≤l∧m<l∧v=false)∨(1≤l∧l≤m∧1000<m∧v=false)∨(1≤l∧l≤m∧m≤1000∧v=true):=by
  by_cases p0:1≤l
  rotate_left
  · have q0:l<1:=by omega
    have hf:v=false:=by rw [hv,decide_eq_false_iff_not];intro hx;omega
    left;exact ⟨q0,hf⟩
  by_cases p1:l≤m
  rotate_left
  · have q1:m<l:=by omega
    have hf:v=false:=by rw [hv,decide_eq_false_iff_not];intro hx;omega
    right;left;exact ⟨p0,q1,hf⟩
  by_cases p2:m≤1000
  rotate_left
  · have q2:1000<m:=by omega
    have hf:v=false:=by rw [hv,decide_eq_false_iff_not];intro hx;omega
    right;right;left;exact ⟨p0,p1,q2,hf⟩
  have ht:v=true:=by rw [hv,decide_eq_true_iff];omega
  right;right;right;exact ⟨p0,p1,p2,ht⟩
 clear hv
 rcases hc with ⟨h0,rfl⟩|⟨h0,h1,rfl⟩|⟨h0,h1,h2,rfl⟩|⟨h0,h1,h2,rfl⟩
 all_goals
  go_enter Tryz.func124,Tryz.ntmps124
  go_wp2_with fail
  go_ret
  exact ⟨by first|(simp;done)|(simp;omega),(Below.refl _ _).alloc (Nat.le_refl _) _⟩
theorem zgw (sq ti:Int) (mk:Bool) (ty:Int) (A:Option Addr) (n c:Nat) (w:World) (v:Bool) (hv:v=decide ((0≤sq∧sq≤281474976710656)∧(-281474976710656≤ti∧ti≤281474976710656)∧n≤1500)):Calls Tryz.prog 146 #[.agg #[.int .i64 sq, .int .i64 ti, .bool mk, .int .u8 ty, .slice A n c]] w fun e w'=>e = .returned (.bool v)∧Below w.heap.size w w':=by
 have hc:(sq<0∧v=false)∨(0≤sq∧281474976710656<sq∧v=false)∨(0≤sq∧sq≤281474976710656∧ti < -281474976710656∧v=false)∨(0≤sq∧sq≤281474976710656 ∧ -281474976710656≤ti∧281474976710656<ti∧v=false)∨(0≤sq∧sq≤281474976710656 ∧ -281474976710656≤ti∧ti≤281474976710656∧1500<(n:Int)∧v=false)∨(0≤sq∧sq≤281474976710656 ∧ -281474976710656≤ti∧ti≤281474976710656∧(n:Int)≤1500∧v=true):=by
  by_cases p0:0≤sq
  rotate_left
  · have q0:sq<0:=by omega
    have hf:v=false:=by rw [hv,decide_eq_false_iff_not];intro hx;omega
    left;exact ⟨q0,hf⟩
  by_cases p1:sq≤281474976710656
  rotate_left
  · have q1:281474976710656<sq:=by omega
    have hf:v=false:=by rw [hv,decide_eq_false_iff_not];intro hx;omega
    right;left;exact ⟨p0,q1,hf⟩
  by_cases p2 : -281474976710656≤ti
  rotate_left
  · have q2:ti < -281474976710656:=by omega
    have hf:v=false:=by rw [hv,decide_eq_false_iff_not];intro hx;omega
    right;right;left;exact ⟨p0,p1,q2,hf⟩
  by_cases p3:ti≤281474976710656
  rotate_left
  · have q3:281474976710656<ti:=by omega
    have hf:v=false:=by rw [hv,decide_eq_false_iff_not];intro hx;omega
    right;right;right;left;exact ⟨p0,p1,p2,q3,hf⟩
  by_cases p4:(n:Int)≤1500
  rotate_left
  · have q4:1500<(n:Int):=by omega
    have hf:v=false:=by rw [hv,decide_eq_false_iff_not];intro hx;omega
    right;right;right;right;left;exact ⟨p0,p1,p2,p3,q4,hf⟩
  have ht:v=true:=by rw [hv,decide_eq_true_iff];omega
  right;right;right;right;right;exact ⟨p0,p1,p2,p3,p4,ht⟩
 clear hv
 rcases hc with ⟨h0,rfl⟩|⟨h0,h1,rfl⟩|⟨h0,h1,h2,rfl⟩|⟨h0,h1,h2,h3,rfl⟩|⟨h0,h1,h2,h3,h4,rfl⟩|⟨h0,h1,h2,h3,h4,rfl⟩
 all_goals
  go_enter Tryz.func146,Tryz.ntmps146
  go_wp2_with fail
  go_ret
  exact ⟨by first|(simp;done)|(simp;omega),(Below.refl _ _).alloc (Nat.le_refl _) _⟩
theorem zdh (sq ti:Int) (mk:Bool) (ty:Int) (A:Option Addr) (n c:Nat) (w:World) (hn:n≤1000000000) (v:Bool) (hv:v=decide ((0≤sq∧sq≤281474976710656)∧(-281474976710656≤ti∧ti≤281474976710656)∧n≤1500)):Calls Tryz.prog 118 #[.agg #[.int .i64 sq, .int .i64 ti, .bool mk, .int .u8 ty, .slice A n c]] w fun e w'=>e = .returned (.bool v)∧Below w.heap.size w w':=by
 obtain ⟨b1,hb1⟩:∃ b,b=decide (0≤sq∧sq≤281474976710656):=⟨_,rfl⟩
 obtain ⟨b2,hb2⟩:∃ b,b=decide (-281474976710656≤ti∧ti≤281474976710656):=⟨_,rfl⟩
 have k1:=H9 fun W=>zaz sq 0 281474976710656 W b1 hb1
 have k2:=H9 fun W=>zaz ti (-281474976710656) 281474976710656 W b2 hb2
 have hV:v=(b1&&(b2&&decide ((n:Int)≤1500))):=by
  rw [hv,hb1,hb2,← Bool.decide_and,← Bool.decide_and]
  congr 1
  rw [eq_iff_iff]
  omega
 have HV:=H9 hV
 clear hv hb1 hb2 hV
 cases b1
 · go_enter Tryz.func118,Tryz.ntmps118
   go_wp2_with fail
   refine (k1.out _).mono ?_
   rintro e w1 ⟨rfl,rfl⟩
   go_wp2_with fail
   go_ret
   exact ⟨ziz (by rw [HV.out];rfl),(Below.refl _ _).alloc (Nat.le_refl _) _⟩
 cases b2
 · go_enter Tryz.func118,Tryz.ntmps118
   go_wp2_with fail
   refine (k1.out _).mono ?_
   rintro e w1 ⟨rfl,rfl⟩
   go_wp2_with fail
   refine (k2.out _).mono ?_
   rintro e w1 ⟨rfl,rfl⟩
   go_wp2_with fail
   go_ret
   exact ⟨ziz (by rw [HV.out];rfl),(Below.refl _ _).alloc (Nat.le_refl _) _⟩
 · go_enter Tryz.func118,Tryz.ntmps118
   go_wp2_with fail
   refine (k1.out _).mono ?_
   rintro e w1 ⟨rfl,rfl⟩
   go_wp2_with fail
   refine (k2.out _).mono ?_
   rintro e w1 ⟨rfl,rfl⟩
   go_wp2_with fail
   go_ret
   exact ⟨ziz (by rw [HV.out];simp),(Below.refl _ _).alloc (Nat.le_refl _) _⟩
theorem zfm (a0 s0 t0 y0 a1 s1 t1 y1:Int) (m0 m1:Bool) (A0 A1:Option Addr) (n0 c0 n1 c1:Nat) (w:World):Calls Tryz.prog 109 #[.agg #[.int .i64 a0, .int .i64 s0, .int .i64 t0, .bool m0, .int .u8 y0, .slice A0 n0 c0], .agg #[.int .i64 a1, .int .i64 s1, .int .i64 t1, .bool m1, .int .u8 y1, .slice A1 n1 c1]] w fun e w'=>e = .returned (.int .i64 (if a0<a1 then -1 else if a1<a0 then 1 else if s0<s1 then -1 else if s1<s0 then 1 else 0))∧Below w.heap.size w w':=by
 obtain ⟨R,hR⟩:∃ R:Int,R=if a0<a1 then -1 else if a1<a0 then 1 else if s0<s1 then -1 else if s1<s0 then 1 else 0:=⟨_,rfl⟩
 rw [← hR]
 have k1:=fun W=>zsq a0 a1 W
 have k2:=fun W=>zsr s0 s1 W
 obtain ⟨p,hp⟩:∃ p:Int,p=if a0<a1 then -1 else if a1<a0 then 1 else 0:=⟨_,rfl⟩
 obtain ⟨q,hq⟩:∃ q:Int,q=if s0<s1 then -1 else if s1<s0 then 1 else 0:=⟨_,rfl⟩
 rw [← hp] at k1
 rw [← hq] at k2
 have hc:(p≠0∧R=p)∨(p=0∧R=q):=by
  by_cases h1:a0<a1
  · left;rw [hp,hR,if_pos h1,if_pos h1];exact ⟨by decide,rfl⟩
  · by_cases h2:a1<a0
    · left;rw [hp,hR,if_neg h1,if_pos h2,if_neg h1,if_pos h2];exact ⟨by decide,rfl⟩
    · right;rw [hp,hR,hq,if_neg h1,if_neg h2,if_neg h1,if_neg h2];exact ⟨rfl,rfl⟩
 have K1:=H9 k1
 have K2:=H9 k2
 clear k1 k2 hp hq hR
 rcases hc with ⟨h1,rfl⟩|⟨rfl,rfl⟩
 · have hb:(R != 0)=true:=by simpa using h1
   clear h1
   go_enter Tryz.func109,Tryz.ntmps109
   go_wp2_with fail
   refine (K1.out _).mono ?_
   rintro e w1 ⟨rfl,rfl⟩
   go_wp2_with fail
   go_ret
   exact ⟨rfl,(((Below.refl _ _).alloc (Nat.le_refl _) _).alloc (by simp) _)⟩
 · go_enter Tryz.func109,Tryz.ntmps109
   go_wp2_with fail
   refine (K1.out _).mono ?_
   rintro e w1 ⟨rfl,rfl⟩
   go_wp2_with fail
   refine (K2.out _).mono ?_
   rintro e w1 ⟨rfl,rfl⟩
   go_wp2_with fail
   go_ret
   exact ⟨rfl,(((Below.refl _ _).alloc (Nat.le_refl _) _).alloc (by simp) _)⟩
theorem zdb (a0 s0 t0 y0 a1 s1 t1 y1:Int) (m0 m1:Bool) (A0 A1:Option Addr) (n0 c0 n1 c1:Nat) (w:World) (v:Bool) (hv:v=decide (a0<a1∨(a0=a1∧s0<s1))):Calls Tryz.prog 156 #[.agg #[.int .i64 a0, .int .i64 s0, .int .i64 t0, .bool m0, .int .u8 y0, .slice A0 n0 c0], .agg #[.int .i64 a1, .int .i64 s1, .int .i64 t1, .bool m1, .int .u8 y1, .slice A1 n1 c1]] w fun e w'=>e = .returned (.bool v)∧Below w.heap.size w w':=by
 have hc:(a0<a1∧v=true)∨(a1≤a0∧(a0==a1)=false∧v=false)∨(a1≤a0∧(a0==a1)=true∧s0<s1∧v=true)∨(a1≤a0∧(a0==a1)=true∧s1≤s0∧v=false):=by
  by_cases h1:a0<a1
  · left;exact ⟨h1,by rw [hv];simp [h1]⟩
  · right
    by_cases h2:a0=a1
    · right
      by_cases h3:s0<s1
      · left;exact ⟨by omega,by simpa using h2,h3,by rw [hv,decide_eq_true_iff];omega⟩
      · right;exact ⟨by omega,by simpa using h2,by omega,by rw [hv,decide_eq_false_iff_not];omega⟩
    · left;exact ⟨by omega,by simpa using h2,by rw [hv,decide_eq_false_iff_not];omega⟩
 clear hv
 rcases hc with ⟨h1,rfl⟩|⟨h1,h2,rfl⟩|⟨h1,h2,h3,rfl⟩|⟨h1,h2,h3,rfl⟩
 all_goals
  go_enter Tryz.func156,Tryz.ntmps156
  go_wp2_with fail
  go_ret
  exact ⟨by first|rfl|(simp;done)|(simp;omega),(((Below.refl _ _).alloc (Nat.le_refl _) _).alloc (by simp) _)⟩
theorem zja (le mo nw:Int) (on:Bool) (ze fi hi dn sp tr:Int) (QA:Option Addr) (qn qc:Nat) (la tw pd:Int) (t:Int) (w:World) (z0 : -1125899906842624≤ze) (z1:ze≤1125899906842624) (f0 : -281474976710656≤fi) (f1:fi≤281474976710656) (t0 : -281474976710656≤t) (t1:t≤281474976710656):Calls Tryz.prog 106 #[.agg #[.int .i64 le, .int .i64 mo, .int .i64 nw, .bool on, .int .i64 ze, .int .i64 fi, .int .i64 hi, .int .i64 dn, .int .i64 sp, .int .i64 tr, .slice QA qn qc, .int .i64 la, .int .i64 tw, .int .i64 pd], .int .i64 t] w fun e w'=>e = .returned (.int .i64 (ze+(t-fi) / 8))∧Below w.heap.size w w':=by
 obtain ⟨d,hd⟩:∃ d,d=t-fi:=⟨_,rfl⟩
 have e1:t-fi=d:=hd.symm
 have ew:IntKind.i64.wrap (t-fi)=d:=by rw [zat _ (by omega) (by omega)];exact e1
 have k1:=H9 fun W=>zgu d W (by omega) (by omega)
 rw [e1]
 obtain ⟨y,hy⟩:∃ y,y=d / 8:=⟨_,rfl⟩
 have hyb : -140737488355328≤y∧y≤140737488355328:=by omega
 obtain ⟨y0,y1⟩:=hyb
 rw [← hy] at k1 ⊢
 have ez:IntKind.i64.wrap (ze+y)=ze+y:=zat _ (by omega) (by omega)
 have U:=H9 ((Bel.refl w).push (.cells #[.int .i64 le, .int .i64 mo, .int .i64 nw, .bool on, .int .i64 ze, .int .i64 fi, .int .i64 hi, .int .i64 dn, .int .i64 sp, .int .i64 tr, .slice QA qn qc, .int .i64 la, .int .i64 tw, .int .i64 pd] 40))
 clear hd hy
 go_enter Tryz.func106,Tryz.ntmps106
 go_wp2_with fail
 go_quiet ((go_at_call 150;exact Calls.quiet_of_same ((k1.out _).mono fun _ _ h=>⟨h.1,h.2.symm⟩)))
 go_wp2_with fail
 go_ret
 exact ⟨by first|rfl|simp,U.out.drewN _⟩
end Go.Proofs.YtahbecinkciahaaGreat
namespace Go.Proofs.YtahbecinkciahaaGreat
open Go.RowKit
section
variable {P:Program} {w:World}
theorem zmg {base size n:Nat} {e:TypeId} {v:Value} {xs:List Value} (h:w.ownsRow base e size v n xs):∃ A c,v = .slice A n c:=by
 rcases h.2 with ⟨rfl,rfl⟩|⟨g,cap,_,hv,_⟩
 · exact ⟨none,0,rfl⟩
 · exact ⟨_,cap,hv⟩
theorem zdf (base:Nat) (t ty e:TypeId) (i:TypeInfo) (size:Nat) (ht:P.underlying t=some (.slice e)) (hi:P.info? e=some i)
 (v:Value) (n:Nat) (xs:List Value) (qo:w.ownsRow base e size v n xs) (A:Option Addr) (c:Nat) (hA:A=none):(Builtin.append_ #[t,t] ty #[v, .slice A 0 c]).run P w = .ok v w:=by
 subst hA
 rcases qo.2 with ⟨rfl,rfl⟩|⟨g,cap,cur,rfl,_,_,hnc,_⟩
 · simp [Builtin.append_,run_underlying ht,sizeOf,typeInfo,hi,Builtin.lenOf,Builtin.firstCells]
 · simp [Builtin.append_,run_underlying ht,sizeOf,typeInfo,hi,Builtin.lenOf,Builtin.firstCells,hnc,storeCells]
theorem zfn (base:Nat) (t ty e:TypeId) (z:Value) (bytes:Nat) (ht:P.underlying t=some (.slice e)) (hinfo:(P.info? e).map (fun i=>(i.zero,i.size,i.bytes))=some (some z,1,bytes)) (hzs:z.cells.size=1)
 (v:Value) (n:Nat) (xs:List Value) (qo:w.ownsRow base e 1 v n xs)
 (B:Nat) (k:IntKind) (A:Option Addr) (c:Nat) (zs:List Int) (hr:IntsAt w B k A zs) (h63:n+zs.length≤maxLen) (hbytes:(n+zs.length)*bytes≤140737488355328) (hbase:base≤w.heap.size) :
 ∃ A' c' w',(Builtin.append_ #[t,t] ty #[v, .slice A zs.length c]).run P w = .ok (.slice A' (n+zs.length) c') w'∧Owns w' base e 1 A' (n+zs.length) c' (xs++zs.map (Value.int k))∧w.grownBy w' v.ownBlock ∧
  (ownB A'=v.ownBlock∨ownB A'=some w.heap.size):=by
 obtain ⟨i,hi,hz0,hz1,hz2⟩:=info_parts hinfo
 have fin:∀ v' w',(Builtin.append_ #[t,t] ty #[v, .slice A zs.length c]).run P w = .ok v' w'→w'.ownsRow base e 1 v' (n+zs.length) (xs++zs.map (Value.int k))→w.grownBy w' v.ownBlock→(v'.ownBlock=v.ownBlock∨v'.ownBlock=some w.heap.size) →
  ∃ A' c' w',(Builtin.append_ #[t,t] ty #[v, .slice A zs.length c]).run P w = .ok (.slice A' (n+zs.length) c') w'∧Owns w' base e 1 A' (n+zs.length) c' (xs++zs.map (Value.int k))∧w.grownBy w' v.ownBlock∧(ownB A'=v.ownBlock∨ownB A'=some w.heap.size):=by
  intro v' w' h1 h2 h3 h4
  obtain ⟨A',c',rfl⟩:=zmg h2
  rw [zbz] at h4
  exact ⟨A',c',w',h1,h2,h3,h4⟩
 rcases A with _|ad
 · have hz:zs=[]:=by
    rcases Nat.eq_zero_or_pos zs.length with h0|h0
    · exact List.eq_nil_of_length_eq_zero h0
    · obtain ⟨b,off,h,_⟩:=hr h0
      cases h
   subst hz
   exact fin v w (zdf base t ty e i 1 ht hi v n xs qo none c rfl) (by simpa using qo) (World.grownBy.refl w _) (.inl rfl)
 · have hcells:∀ (j:Nat) (u:Value),(zs.map (Value.int k))[j]? = some u→w.cell? (ad.add j)=some u:=by
    intro j u hu
    have hj:j<zs.length:=by have:=(List.getElem?_eq_some_iff.1 hu).1;simpa using this
    obtain ⟨b,off,h,_,hc⟩:=hr (by omega)
    injection h with h
    subst h
    have:=hc j hj
    rw [List.getElem?_map,List.getElem?_eq_getElem hj] at hu
    injection hu with hu
    subst hu
    rw [List.getD_eq_getElem?_getD,List.getElem?_eq_getElem hj] at this
    by_cases h0:j=0
    · subst h0;exact this
    · simpa [Addr.add,h0] using this
   obtain ⟨v',w',hrun,h2,h3,_,h5⟩:=run_append_own_at (P:=P) w base t ty e i z 1 bytes ht hi hz0 hz1 hz2 hzs (by omega) v n xs qo ad zs.length c (zs.map (Value.int k)) (by simp) hcells (by
    intro u hu
    obtain ⟨x,_,rfl⟩:=List.mem_map.1 hu
    rfl) h63 hbytes hbase
   exact fin v' w' hrun h2 h3 h5
theorem zds {ops:Array Oper} {rest:List Oper} {o:Oper} {a:Act} {Q:Exit→Act→World→Prop} (hgd:o.guard=none) (s x:Operand) (t:TypeId)
 (ho:o.op = .call { callee := .builtin .append,args := #[s,x],argTypes := #[t,t] })
 (base:Nat) (e:TypeId) (bytes:Nat) (z:Value) (ht:P.underlying t=some (.slice e)) (hinfo:(P.info? e).map (fun i=>(i.zero,i.size,i.bytes))=some (some z,1,bytes)) (hzs:z.cells.size=1)
 (A0:Option Addr) (n c0:Nat) (xs:List Value) (hs:a.eval s = .slice A0 n c0) (qo:Owns w base e 1 A0 n c0 xs)
 (B:Nat) (k:IntKind) (A:Option Addr) (c:Nat) (zs:List Int) (hx:a.eval x = .slice A zs.length c) (hr:IntsAt w B k A zs) (h63:n+zs.length≤maxLen) (hbytes:(n+zs.length)*bytes≤140737488355328) (hbase:base≤w.heap.size) (m:Nat) (hm:n+zs.length=m)
 (h:∀ (A':Option Addr) (c':Nat) (w':World),Owns w' base e 1 A' m c' (xs++zs.map (Value.int k))→w.grownBy w' (ownB A0)→(ownB A'=ownB A0∨ownB A'=some w.heap.size)→wpList P ops Q rest (a.put o.dst (.slice A' m c')) w') :
 wpList P ops Q (o::rest) a w:=by
 subst hm
 obtain ⟨A',c',w',hrun,h2,h3,h4⟩:=zfn (P:=P) base t o.type e z bytes ht hinfo hzs (.slice A0 n c0) n xs qo B k A c zs hr h63 hbytes hbase
 rw [zbz] at h3 h4
 refine wpList_plain hgd fun K hK => ?_
 unfold Oper.wp execOp
 simp only [ho,resolve,invoke,builtin,Sem.run_bind,Sem.run_pure,Result.andThen_ok,List.map_toArray,List.map_cons,List.map_nil,hs,hx,hrun]
 exact hK _ _ (h A' c' w' h2 h3 h4)
end
theorem Owns.cap {w:World} {base size n c:Nat} {e:TypeId} {A:Option Addr} {xs:List Value} (h:Owns w base e size A n c xs):n≤c:=by
 rcases h.2 with ⟨hv,h0⟩|⟨g,cap,cur,hv,_,_,hnc,_⟩
 · injection hv with _ h1 h2
   omega
 · injection hv with _ _ h2
   omega
theorem Owns.capm {w:World} {base size n c:Nat} {e:TypeId} {A:Option Addr} {xs:List Value} (h:Owns w base e size A n c xs):c≤maxLen:=by
 rcases h.2 with ⟨hv,h0⟩|⟨g,cap,cur,hv,_,_,hnc,hr⟩
 · injection hv with _ h1 h2
   unfold maxLen;omega
 · injection hv with _ _ h2
   have:=hr.1
   omega
def Grow (w0:World) (A0:Option Addr) (w:World) (A:Option Addr):Prop :=
 w0.grownBy w (ownB A0)∧(ownB A=ownB A0∨∀ g,ownB A=some g→w0.heap.size≤g)
section
variable {w0 w w':World} {A0 A A':Option Addr}
theorem Grow.refl (w:World) (A:Option Addr):Grow w A w A:=⟨World.grownBy.refl w _, .inl rfl⟩
theorem Grow.size (h:Grow w0 A0 w A):w0.heap.size≤w.heap.size:=h.1.size
theorem Grow.step (h:Grow w0 A0 w A) (hg:w.grownBy w' (ownB A)) (hat:ownB A'=ownB A∨∀ g,ownB A'=some g→w.heap.size≤g):Grow w0 A0 w' A':=by
 refine ⟨⟨hg.os.trans h.1.os,hg.tape.trans h.1.tape,hg.output.trans h.1.output,Nat.le_trans h.1.size hg.size,fun k hk hne => ?_⟩,?_⟩
 · have h1:=h.1.block k hk hne
   have h2:some k≠ownB A:=by
    rcases h.2 with e|e
    · rw [e];exact hne
    · intro e2
      have:=e k e2.symm
      omega
   exact (hg.block k (Nat.lt_of_lt_of_le hk h.1.size) h2).trans h1
 · rcases hat with e|e
   · rw [e];exact h.2
   · exact .inr fun g hg'=>Nat.le_trans h.1.size (e g hg')
theorem Grow.alloc (h:Grow w0 A0 w A) (o:Obj):Grow w0 A0 (w.alloc o) A:=h.step (World.grownBy_alloc w o _) (.inl rfl)
theorem Grow.drew (h:Grow w0 A0 w A):Grow w0 A0 w.drew A:=⟨⟨h.1.os,h.1.tape,h.1.output,h.1.size,h.1.block⟩,h.2⟩
theorem Grow.below (h:Grow w0 A0 w A) (hb:Below w.heap.size w w'):Grow w0 A0 w' A :=
 h.step ⟨hb.os,hb.tape,hb.output,hb.size,fun k hk _=>hb.block k hk⟩ (.inl rfl)
theorem Grow.trans {w1:World} {A1:Option Addr} (h:Grow w0 A0 w A) (h2:Grow w A w1 A1):Grow w0 A0 w1 A1:=h.step h2.1 h2.2
theorem Grow.blk {g:Nat} {t:TypeId} {cs:Array Value} (h:Grow w0 A0 w A) (hb:Blk w0 g t cs) (hne:some g≠ownB A0):Blk w g t cs:=hb.grown h.1 hne
theorem Grow.cell {a:Addr} {v:Value} (h:Grow w0 A0 w A) (hc:w0.cell? a=some v) (hne:some a.block≠ownB A0):w.cell? a=some v:=h.1.cell hc hne
theorem Grow.bel {a:World} {base size n c:Nat} {e:TypeId} {xs:List Value} (h:Grow w0 A0 w A) (ho:Owns w0 base e size A0 n c xs) (hb:Bel a w0) (hbase:a.heap.size≤base):Bel a w :=
 zca hb ho h.1 (Below.size hb) hbase
end
theorem zaq {P:Program} {w0:World} {ops:Array Oper} {rest:List Oper} {o:Oper} {a:Act} {Q:Exit→Act→World→Prop} (hgd:o.guard=none) (s x:Operand) (t:TypeId)
 (ho:o.op = .call { callee := .builtin .append,args := #[s,x],argTypes := #[t,t] })
 (base:Nat) (e:TypeId) (size bytes:Nat) (z:Value) (ht:P.underlying t=some (.slice e)) (hinfo:(P.info? e).map (fun i=>(i.zero,i.size,i.bytes))=some (some z,size,bytes))
 (hzs:z.cells.size=size) (hsz:0<size) (A:Option Addr) (n c:Nat) (xs:List Value) (hs:a.eval s = .slice A n c) (qo:Owns w0 base e size A n c xs)
 (cs:List Value) (hl:cs.length=size) (h1:∀ u∈cs,u.oneCell'=true) (hx:a.eval x = .slice (some ⟨w0.heap.size,0,none⟩) 1 1)
 (h63:n+1≤maxLen) (hbytes:(n+1)*bytes≤140737488355328) (hbase:base≤w0.heap.size)
 (h:∀ (A':Option Addr) (c':Nat) (w':World),Owns w' base e size A' (n+1) c' (xs++cs)→w0.grownBy w' (ownB A)→(ownB A'=ownB A∨∀ g,ownB A'=some g→w0.heap.size≤g) →
  wpList P ops Q rest (a.put o.dst (.slice A' (n+1) c')) w'):wpList P ops Q (o::rest) a (w0.alloc (.cells cs.toArray e)):=by
 obtain ⟨i,hi,hz0,hz1,hz2⟩:=info_parts hinfo
 refine wpList_append_lies (w0.alloc (.cells cs.toArray e)) hgd s x t ho base e i z size bytes ht hi hz0 hz1 hz2 hzs hsz _ n xs hs (qo.alloc _) ⟨w0.heap.size,0,none⟩ 1 1 cs hx (by omega) ?_ h1 (by omega) h63 hbytes (by simp;omega) _ rfl ?_
 · intro j u hu
   have hc:=zhf w0 cs e j
   rw [← hu,← hc]
   by_cases h0:j=0
   · subst h0;rfl
   · simp [Addr.add,h0]
 · intro g cap w' hown' hg hat hlt
   rw [zbz] at hg hat
   have hsz':=hg.size
   refine h _ _ w' hown' ⟨hg.os,hg.tape,hg.output,Nat.le_trans (by simp) hsz',fun k hk hne=>(hg.block k (by simp;omega) hne).trans (Below.heap_alloc w0 _ k hk)⟩ ?_
   rcases hat with e|e
   · exact .inl e.symm
   · refine .inr fun g' hg' => ?_
     injection hg' with hg'
     rw [← hg',e];simp
def be:Nat→Int→List Int
 | 0,_ => []
 | n+1,x=>be n (x / 256) ++ [x % 256]
end Go.Proofs.YtahbecinkciahaaGreat
namespace Go.Proofs.YtahbecinkciahaaGreat
attribute [local go_sem ↓] zae zaf
attribute [local go_sem] zad zag
open Go.RowKit
theorem zvk:(Tryz.prog.info? 5).map (fun i=>(i.zero,i.size,i.bytes))=some (some (.int .u8 0),1,1):=by kernel_rfl
def u8s (l:List Int):List Value:=l.map (Value.int .u8)
theorem zss {w:World} {g:Nat} {t:TypeId} {bs:List Int} (h:Blk w g t (u8s bs).toArray):IntsAt w w.heap.size .u8 (some ⟨g,0,none⟩) bs:=fun h0=>by
 refine ⟨g,0,rfl,h.lt,fun i hi => ?_⟩
 rw [Nat.zero_add,h.cell i]
 simp [u8s,List.getElem?_eq_getElem hi,List.getD_eq_getElem?_getD]
def MediaR (sq ti:Int) (mk:Bool) (ty:Int) (pl:List Int) (w:World) (e:Ending) (w':World):Prop :=
 ∃ (A':Option Addr) (c':Nat),e = .returned (.agg #[.int .i64 sq, .int .i64 ti, .bool mk, .int .u8 ty, .slice A' pl.length c'])∧IntsNew w.heap.size w' .u8 A' pl∧Below w.heap.size w w'∧pl.length≤c'
theorem zht (sq ti:Int) (mk:Bool) (ty:Int) (A:Option Addr) (c:Nat) (w:World):Calls Tryz.prog 107 #[.agg #[.int .i64 sq, .int .i64 ti, .bool mk, .int .u8 ty, .slice A 0 c]] w (MediaR sq ti mk ty [] w):=by
 go_enter Tryz.func107,Tryz.ntmps107
 go_wp2_with fail
 have U:=H9 (((Bel.refl w).push (.cells #[.int .i64 sq, .int .i64 ti, .bool mk, .int .u8 ty, .slice none 0 0] 103)).push (.cells #[.int .i64 sq, .int .i64 ti, .bool mk, .int .u8 ty, .slice none 0 0] 103))
 have B:=H9 (Blk.new1 w (.cells #[.int .i64 sq, .int .i64 ti, .bool mk, .int .u8 ty, .slice none 0 0] 103) 103 #[.int .i64 sq, .int .i64 ti, .bool mk, .int .u8 ty, .slice none 0 0])
 exact bodyPost_ret (v := .agg #[.int .i64 sq, .int .i64 ti, .bool mk, .int .u8 ty, .slice none 0 0]) (zcf Tryz.results107 rfl (run_loadVar_row (P:=Tryz.prog) _ _ _ _ _ _ _ B.out Tryz.underlying103 rfl (by kernel_rfl))) rfl ⟨none,0,rfl,IntsNew.nil,U.out,Nat.le_refl _⟩
theorem zgh (sq ti:Int) (mk:Bool) (ty:Int) (A:Option Addr) (pl:List Int) (c:Nat) (w:World) (hA:IntsAt w w.heap.size .u8 A pl) (hl:pl.length≤1000000) (h0:0<pl.length):Calls Tryz.prog 107 #[.agg #[.int .i64 sq, .int .i64 ti, .bool mk, .int .u8 ty, .slice A pl.length c]] w (MediaR sq ti mk ty pl w):=by
 obtain ⟨b,off,rfl,hbB,qc⟩:=hA h0
 obtain ⟨W0,hW0⟩:∃ W0,W0=(w.alloc (.cells #[.int .i64 sq, .int .i64 ti, .bool mk, .int .u8 ty, .slice (some ⟨b,off,none⟩) pl.length c] 103)).alloc (.cells #[.int .i64 0, .int .i64 0, .bool false, .int .u8 0, .slice none 0 0] 103):=⟨_,rfl⟩
 have hmk:=run_make_row' (P:=Tryz.prog) 22 5 (.int .u8 0) 1 Tryz.underlying22 zvk rfl .i64 .i64 pl.length (by omega) (by omega) W0
 obtain ⟨cur,hcur⟩:∃ cur:List Value,cur=(madeCells #[.int .u8 0] pl.length).toList:=⟨_,rfl⟩
 have hcl:cur.length=pl.length:=by rw [hcur];simp [madeCells]
 have hs0:W0.heap.size=w.heap.size+1+1:=by rw [hW0];simp
 obtain ⟨W1,hW1⟩:∃ W1,W1=W0.alloc (.cells (madeCells #[.int .u8 0] pl.length) 5):=⟨_,rfl⟩
 have hB:Blk W1 (w.heap.size+1+1) 5 cur.toArray:=by rw [hW1,hcur,Array.toArray_toList,← hs0];exact Blk.new _ _ _
 have hU:Below W0.heap.size W0 W1:=by rw [hW1];exact (Below.refl _ _).alloc (Nat.le_refl _) _
 have BX:Blk W0 w.heap.size 103 #[.int .i64 sq, .int .i64 ti, .bool mk, .int .u8 ty, .slice (some ⟨b,off,none⟩) pl.length c]:=by rw [hW0];exact (Blk.new w _ _).push _
 have BZ:Blk W0 (w.heap.size+1) 103 #[.int .i64 0, .int .i64 0, .bool false, .int .u8 0, .slice none 0 0]:=by rw [hW0];exact Blk.new1 w _ _ _
 have UW:Bel w W0:=by rw [hW0];exact ((Bel.refl w).push _).push _
 rw [← hW1,hs0] at hmk
 have hl1:¬pl.length=0:=by omega
 have hl2:¬pl=[]:=by intro h5;rw [h5] at hl1;exact hl1 rfl
 have hl3:(0:Int)<(pl.length:Int):=by omega
 have hsp:splice cur 0 (u8s pl)=u8s pl:=by simp [splice,u8s,hcl]
 have UW1:Bel w W1:=UW.later hU
 have HC:∀ j v,(u8s pl)[j]? = some v→W1.cell? ((⟨b,off,none⟩:Addr).add j)=some v:=by
  intro j v hv
  have hj:j<pl.length:=by
   have:=(List.getElem?_eq_some_iff.1 hv).1
   simpa [u8s] using this
  have:=(UW1.cell (p:=⟨b,off+j,none⟩) hbB).trans (qc j hj)
  rw [show ((⟨b,off,none⟩:Addr).add j)=⟨b,off+j,none⟩ by simp [Addr.add],this]
  simp [u8s,List.getElem?_eq_getElem hj] at hv
  rw [← hv];simp [List.getD_eq_getElem?_getD,List.getElem?_eq_getElem hj]
 have x4:=(BX.later hU).at 4 _ rfl
 have HCC:=H9 HC
 have HB:=H9 hB
 have HU:=H9 hU
 have HSP:=H9 hsp
 have HCL:=H9 hcl
 have HBX:=H9 BX
 have HBZ:=H9 BZ
 have HUW:=H9 UW
 have HS0:=H9 hs0
 have hmk':=hmk
 rw [hW0] at hmk'
 clear HC hB hU hsp qc hA hcl BX BZ UW UW1 hs0 hW1 hcur hmk
 go_enter Tryz.func107,Tryz.ntmps107
 go_wp2_with (refine wpList_copy_splice (o := ⟨some 15, _, _, _, _, _⟩) rfl (.tmp 12) (.tmp 14) 22 22 rfl 5 Tryz.underlying22 (by kernel_rfl) _ _ _ _ _ _ rfl rfl (w.heap.size + 1 + 1) 0 cur 5 HB.out (u8s pl) (by simp [u8s]) (fun _ => ⟨rfl, _, rfl, HCC.out⟩) (by rw [HCL.out]; simp [u8s]) (by intro v hv; simp [u8s] at hv; obtain ⟨z, _, rfl⟩ := hv; rfl) W0.heap.size W0 HU.out (by rw [HS0.out]; exact Nat.le_refl _) ?_
              intro w2 hB2 hU2
              have hz2:=(HBX.out.later hU2).frozen
              have x0:=(HBX.out.later hU2).at 0 _ rfl
              have x1:=(HBX.out.later hU2).at 1 _ rfl
              have x2:=(HBX.out.later hU2).at 2 _ rfl
              have x3:=(HBX.out.later hU2).at 3 _ rfl
              have x4':=(HBX.out.later hU2).at 4 _ rfl
              have zz:=(HBZ.out.later hU2).frozen
              have y0:=(HBZ.out.later hU2).at 0 _ rfl
              have y1:=(HBZ.out.later hU2).at 1 _ rfl
              have y2:=(HBZ.out.later hU2).at 2 _ rfl
              have y3:=(HBZ.out.later hU2).at 3 _ rfl
              have y4:=(HBZ.out.later hU2).at 4 _ rfl)
 rw [HSP.out] at hB2
 have BF:=Blk.setRow ((HBZ.out.later hU2).far (p:=⟨w.heap.size,4,none⟩) (by simp) (.slice (some ⟨w.heap.size+1+1,0,none⟩) pl.length pl.length)) [.int .i64 sq, .int .i64 ti, .bool mk, .int .u8 ty, .slice (some ⟨w.heap.size+1+1,0,none⟩) pl.length pl.length] rfl
 have IN:IntsNew (w.heap.size+1+1) w2 .u8 (some ⟨w.heap.size+1+1,0,none⟩) pl:=⟨zss hB2.out,fun _ b' off' e=>by cases e;exact Nat.le_refl _⟩
 have R3:=(IntsNew.setRow (g:=w.heap.size+1) (n:=w.heap.size+1+1) (by omega) [.int .i64 sq, .int .i64 ti, .bool mk, .int .u8 ty, .slice (some ⟨w.heap.size+1+1,0,none⟩) pl.length pl.length] _ 0 (IN.setCell (p:=⟨w.heap.size,4,none⟩) (by simp;omega) (.slice (some ⟨w.heap.size+1+1,0,none⟩) pl.length pl.length))).less (m:=w.heap.size) (by omega)
 have UF:=below_setRow (g:=w.heap.size+1) (by omega) [.int .i64 sq, .int .i64 ti, .bool mk, .int .u8 ty, .slice (some ⟨w.heap.size+1+1,0,none⟩) pl.length pl.length] _ 0 (zal (p:=⟨w.heap.size,4,none⟩) (HUW.out.later hU2) (Nat.le_refl _) (.slice (some ⟨w.heap.size+1+1,0,none⟩) pl.length pl.length))
 simp only [setRow,Nat.zero_add,Nat.reduceAdd] at BF R3 UF
 exact bodyPost_ret (v := .agg #[.int .i64 sq, .int .i64 ti, .bool mk, .int .u8 ty, .slice (some ⟨w.heap.size+1+1,0,none⟩) pl.length pl.length]) (zcf Tryz.results107 rfl (run_loadVar_row (P:=Tryz.prog) _ _ _ _ _ _ _ BF Tryz.underlying103 rfl (by kernel_rfl))) rfl ⟨_,_,rfl,R3,UF,Nat.le_refl _⟩
theorem zdt (sq ti:Int) (mk:Bool) (ty:Int) (A:Option Addr) (pl:List Int) (n c:Nat) (w:World) (B:Nat) (hB:B≤w.heap.size) (hA:IntsAt w B .u8 A pl) (hl:n≤1000000) (hn:pl.length=n):Calls Tryz.prog 107 #[.agg #[.int .i64 sq, .int .i64 ti, .bool mk, .int .u8 ty, .slice A n c]] w (MediaR sq ti mk ty pl w):=by
 subst hn
 by_cases h0:pl.length=0
 · obtain rfl:=List.eq_nil_of_length_eq_zero h0
   exact zht sq ti mk ty A c w
 · exact zgh sq ti mk ty A pl c w (hA.more hB) hl (by omega)
theorem zst (a0 s0 t0 y0:Int) (m0:Bool) (A0:Option Addr) (n0 c0:Nat) (g:Nat) (now:Int) (w:World) (hg:w.cell? ⟨g,0,none⟩=some (.int .i64 now)) (hlt:g<w.heap.size):Calls Tryz.prog 148 #[.agg #[.int .i64 a0, .int .i64 s0, .int .i64 t0, .bool m0, .int .u8 y0, .slice A0 n0 c0], .pointer (some ⟨g,0,none⟩)] w fun e w'=>e = .returned (.bool (decide (now<a0)))∧Below w.heap.size w w':=by
 have hne:¬g=w.heap.size:=by omega
 go_enter Tryz.func148,Tryz.ntmps148
 go_wp2_with fail
 go_ret
 exact ⟨by first|rfl|simp,(Below.refl _ _).alloc (Nat.le_refl _) _⟩
def firstLate (now:Int) (q:List Jb.Wt):Int:=if (Jb.due now q).length=q.length then -1 else ((Jb.due now q).length:Int)
theorem zmh (now:Int):∀ q:List Jb.Wt,(∀ x∈q,x.at_≤now)→Jb.due now q=q
 | [],_=>rfl
 | a :: q, h => by
   unfold Jb.due
   rw [List.takeWhile_cons,if_pos (by simpa using h a List.mem_cons_self)]
   have:=zmh now q (fun x hx=>h x (List.mem_cons_of_mem _ hx))
   unfold Jb.due at this
   rw [this]
theorem ztz (now:Int):∀ (q:List Jb.Wt) (k:Nat) (a:Jb.Wt),q[k]? = some a→(∀ x∈q.take k,x.at_≤now)→now<a.at_→(Jb.due now q).length=k∧k<q.length
 | [],k,a,h,_,_=>by simp at h
 | b :: q, 0, a, h, _, h2 => by
   simp at h
   subst h
   unfold Jb.due
   rw [List.takeWhile_cons,if_neg (by simpa using h2)]
   simp
 | b :: q, k + 1, a, h, h1, h2 => by
   have hb:=h1 b (by simp)
   obtain ⟨e1,e2⟩:=ztz now q k a (by simpa using h) (fun x hx=>h1 x (by simp;exact Or.inr hx)) h2
   unfold Jb.due at e1 ⊢
   rw [List.takeWhile_cons,if_pos (by simpa using hb)]
   simp [e1]
   omega
theorem zqe (A:Option Addr) (l:List TW) (n c:Nat) (g:Nat) (now:Int) (w:World) (hn:l.length=n) (hl:n≤1000000) (hA:Wts w w.heap.size A l) (hg:w.cell? ⟨g,0,none⟩=some (.int .i64 now)) (hlt:g<w.heap.size):Calls Tryz.prog 147 #[.slice A n c, .func (Fn.func 148) #[] #[.pointer (some ⟨g,0,none⟩)]] w fun e w'=>e = .returned (.int .i64 (firstLate now (l.map TW.w)))∧Below w.heap.size w w':=by
 subst hn
 have HA:=H9 hA
 have HG:=H9 hg
 obtain ⟨R,hR⟩:∃ R,R=firstLate now (l.map TW.w):=⟨_,rfl⟩
 rw [← hR]
 have HR:=H9 hR
 clear hA hg hR
 go_enter Tryz.func147,Tryz.ntmps147
 go_wp2_with fail
 go_loopg [8] l.length (fun gk i wr => ∃ k:Nat,gk+k=l.length∧i = .int .i64 k∧Hid (∀ x∈(l.map TW.w).take k,x.at_≤now)∧Hid (Bel w wr))
 case atStart=>exact ⟨0,rfl,rfl,H9 (fun x hx=>by simp at hx),H9 (Bel.refl w)⟩
 case round =>
  obtain ⟨k,hgk,rfl,HT,U⟩:=hrel
  have hi0:(0:Int)≤(k:Int):=by omega
  by_cases hk:k<l.length
  rotate_left
  · obtain rfl:k=l.length:=by omega
    have hi1:(l.length:Int)≤(l.length:Int):=Int.le_refl _
    have hall:=HT.out
    rw [List.take_of_length_le (by simp)] at hall
    have hv:R = -1:=by rw [HR.out];unfold firstLate;rw [zmh now _ hall,if_pos rfl]
    subst hv
    go_wp2_with fail
    go_ret
    exact ⟨rfl,U.out⟩
  have hi1:(k:Int)<(l.length:Int):=by omega
  obtain ⟨a,ha⟩:∃ a,l[k]? = some a:=⟨_,List.getElem?_eq_getElem hk⟩
  obtain ⟨b,off,rfl,hbB,e0,e1,e2,e3,e4,e5⟩:=zbs (HA.out.1.keep (fun p hp=>U.out.cell hp)) ha
  have hcg:=(U.out.cell (p:=⟨g,0,none⟩) hlt).trans HG.out
  have hgl:g<wr.heap.size:=Nat.lt_of_lt_of_le hlt U.out.size
  have k1:=zst a.w.at_ a.w.m.sq a.w.m.ti a.w.m.ty a.w.m.mrk a.B a.w.m.pl.length a.c g now wr hcg hgl
  have hm:(l.map TW.w)[k]? = some a.w:=by rw [List.getElem?_map,ha];rfl
  have HM:=H9 hm
  have K1:=H9 k1
  clear ha hm k1
  by_cases hd:now<a.w.at_
  · have hb:decide (now<a.w.at_)=true:=by simpa using hd
    obtain ⟨d1,d2⟩:=ztz now _ k a.w HM.out HT.out hd
    have hv:R=(k:Int):=by rw [HR.out];unfold firstLate;rw [d1,if_neg (by omega)]
    subst hv
    rw [hb] at K1
    clear hd hb d1 d2
    go_wp2_with fail
    refine (K1.out).mono ?_
    rintro e w1 ⟨rfl,hb1⟩
    go_wp2_with fail
    go_ret
    exact ⟨rfl,U.out.later hb1⟩
  · have hb:decide (now<a.w.at_)=false:=by simpa using hd
    rw [hb] at K1
    have HD:=H9 hd
    clear hd hb
    go_wp2_with fail
    refine (K1.out).mono ?_
    rintro e w1 ⟨rfl,hb1⟩
    have U1:=H9 (U.out.later hb1)
    clear hb1
    go_wp2_with fail
    go_roundg (gk-1)
    case measure=>omega
    case rel =>
     refine ⟨k+1,by omega,by go_num,H9 (fun x hx => ?_),U1⟩
     rw [List.take_add_one,HM.out] at hx
     rcases List.mem_append.1 hx with hx|hx
     · exact HT.out x hx
     · simp at hx
       subst hx
       have:=HD.out
       omega
theorem zsu (a0 s0 t0 y0:Int) (m0:Bool) (A0:Option Addr) (n0 c0:Nat) (g:Nat) (sq:Int) (w:World) (hg:w.cell? ⟨g,0,none⟩=some (.int .i64 sq)) (hlt:g<w.heap.size):Calls Tryz.prog 103 #[.agg #[.int .i64 a0, .int .i64 s0, .int .i64 t0, .bool m0, .int .u8 y0, .slice A0 n0 c0], .pointer (some ⟨g,0,none⟩)] w fun e w'=>e = .returned (.bool (s0==sq))∧Below w.heap.size w w':=by
 have hne:¬g=w.heap.size:=by omega
 go_enter Tryz.func103,Tryz.ntmps103
 go_wp2_with fail
 go_ret
 exact ⟨by first|rfl|simp,(Below.refl _ _).alloc (Nat.le_refl _) _⟩
def AtLeast (b:Bool) (w:World) (e:Ending) (w':World):Prop:=∃ r:Int,e = .returned (.int .i64 r)∧decide (0≤r)=b∧Below w.heap.size w w'
theorem znp (A:Option Addr) (l:List TW) (n c:Nat) (g:Nat) (sq:Int) (w:World) (hn:l.length=n) (hl:n≤1000000) (hA:Wts w w.heap.size A l) (hg:w.cell? ⟨g,0,none⟩=some (.int .i64 sq)) (hlt:g<w.heap.size):Calls Tryz.prog 147 #[.slice A n c, .func (Fn.func 103) #[] #[.pointer (some ⟨g,0,none⟩)]] w (AtLeast ((l.map TW.w).any fun x=>x.m.sq==sq) w):=by
 subst hn
 have HA:=H9 hA
 have HG:=H9 hg
 obtain ⟨R,hR⟩:∃ R,R=(l.map TW.w).any fun x=>x.m.sq==sq:=⟨_,rfl⟩
 rw [← hR]
 have HR:=H9 hR
 clear hA hg hR
 go_enter Tryz.func147,Tryz.ntmps147
 go_wp2_with fail
 go_loopg [8] l.length (fun gk i wr => ∃ k:Nat,gk+k=l.length∧i = .int .i64 k∧Hid (R=((l.map TW.w).drop k).any fun x=>x.m.sq==sq)∧Hid (Bel w wr))
 case atStart=>exact ⟨0,rfl,rfl,H9 (by rw [List.drop_zero];exact HR.out),H9 (Bel.refl w)⟩
 case round =>
  clear HR
  obtain ⟨k,hgk,rfl,HT,U⟩:=hrel
  have hi0:(0:Int)≤(k:Int):=by omega
  by_cases hk:k<l.length
  rotate_left
  · obtain rfl:k=l.length:=by omega
    have hi1:(l.length:Int)≤(l.length:Int):=Int.le_refl _
    have hv:R=false:=by rw [HT.out,List.drop_eq_nil_of_le (by simp)];rfl
    subst hv
    go_wp2_with fail
    go_ret
    exact ⟨-1,rfl,rfl,U.out⟩
  have hi1:(k:Int)<(l.length:Int):=by omega
  obtain ⟨a,ha⟩:∃ a,l[k]? = some a:=⟨_,List.getElem?_eq_getElem hk⟩
  obtain ⟨b,off,rfl,hbB,e0,e1,e2,e3,e4,e5⟩:=zbs (HA.out.1.keep (fun p hp=>U.out.cell hp)) ha
  have hcg:=(U.out.cell (p:=⟨g,0,none⟩) hlt).trans HG.out
  have hgl:g<wr.heap.size:=Nat.lt_of_lt_of_le hlt U.out.size
  have k1:=zsu a.w.at_ a.w.m.sq a.w.m.ti a.w.m.ty a.w.m.mrk a.B a.w.m.pl.length a.c g sq wr hcg hgl
  have hd:(l.map TW.w).drop k=a.w::(l.map TW.w).drop (k+1):=by
   have hm:(l.map TW.w)[k]? = some a.w:=by rw [List.getElem?_map,ha];rfl
   obtain ⟨h1,h2⟩:=List.getElem?_eq_some_iff.1 hm
   rw [List.drop_eq_getElem_cons h1,h2]
  have HD:=H9 hd
  have K1:=H9 k1
  clear ha hd k1
  cases hb:(a.w.m.sq==sq)
  · rw [hb] at K1
    have HN:Hid (R=((l.map TW.w).drop (k+1)).any fun x=>x.m.sq==sq):=H9 (by rw [HT.out,HD.out,List.any_cons,hb,Bool.false_or])
    clear hb HT HD
    go_wp2_with fail
    refine (K1.out).mono ?_
    rintro e w1 ⟨rfl,hb1⟩
    have U1:=H9 (U.out.later hb1)
    clear hb1
    go_wp2_with fail
    go_roundg (gk-1)
    case measure=>omega
    case rel=>exact ⟨k+1,by omega,by go_num,HN,U1⟩
  · rw [hb] at K1
    have hv:R=true:=by rw [HT.out,HD.out,List.any_cons,hb,Bool.true_or]
    subst hv
    clear hb HT HD
    go_wp2_with fail
    refine (K1.out).mono ?_
    rintro e w1 ⟨rfl,hb1⟩
    go_wp2_with fail
    go_ret
    exact ⟨(k:Int),rfl,by simp,U.out.later hb1⟩
theorem zjb (A:Option Addr) (l:List TW) (n c:Nat) (g:Nat) (sq:Int) (w:World) (hn:l.length=n) (hl:n≤1000000) (hA:Wts w w.heap.size A l) (hg:w.cell? ⟨g,0,none⟩=some (.int .i64 sq)) (hlt:g<w.heap.size):Calls Tryz.prog 104 #[.slice A n c, .func (Fn.func 103) #[] #[.pointer (some ⟨g,0,none⟩)]] w fun e w'=>e = .returned (.bool ((l.map TW.w).any fun x=>x.m.sq==sq))∧Below w.heap.size w w':=by
 have k1:=H9 (znp A l n c g sq w hn hl hA hg hlt)
 generalize ((l.map TW.w).any fun x=>x.m.sq==sq)=R at *
 clear hA hg
 go_enter Tryz.func104,Tryz.ntmps104
 go_wp2_with fail
 refine k1.out.mono ?_
 rintro e w1 ⟨r,rfl,hr,hb⟩
 go_wp2_with fail
 go_ret
 first|exact ⟨rfl,hb⟩|exact ⟨ziz hr,hb⟩
theorem zbt:(Tryz.prog.info? 105).map (fun i=>(i.zero,i.size,i.bytes))=some (some (.agg #[.int .i64 0, .int .i64 0, .int .i64 0, .bool false, .int .u8 0, .slice none 0 0]),6,56):=by kernel_rfl
structure QOwn (w:World) (base:Nat) (A:Option Addr) (n c:Nat) (l:List TW):Prop where
 len:l.length=n
 own:Owns w base 105 6 A n c (l.flatMap TW.row)
 pay:∀ a∈l,IntsAt w w.heap.size .u8 a.B a.w.m.pl
 far:∀ a∈l,0<a.w.m.pl.length→∀ b off,a.B=some ⟨b,off,none⟩→some b≠ownB A
 new:∀ a∈l,0<a.w.m.pl.length→∀ b off,a.B=some ⟨b,off,none⟩→base≤b
 cap:∀ a∈l,a.w.m.pl.length≤a.c
theorem QOwn.nil {w:World} {base:Nat} : QOwn w base none 0 0 []:=⟨rfl,Owns.nil,(fun _ h=>by cases h),(fun _ h=>by cases h),(fun _ h=>by cases h),(fun _ h=>by cases h)⟩
theorem QOwn.below {w w':World} {base n c:Nat} {A:Option Addr} {l:List TW} (h:QOwn w base A n c l) (hb:Below w.heap.size w w'):QOwn w' base A n c l :=
 ⟨h.len,h.own.below hb,fun a ha=>(h.pay a ha).later hb,h.far,h.new,h.cap⟩
theorem QOwn.step {wr v1 v2 wn:World} {base k c cn:Nat} {A An:Option Addr} {l:List TW} {a:TW} (h:QOwn wr base A k c l) (hbs:base≤wr.heap.size) (hb:Below wr.heap.size wr v1) (hb2:Below v1.heap.size v1 v2) (hg:v2.grownBy wn (ownB A))
 (qo:Owns wn base 105 6 An (k+1) cn (l.flatMap TW.row++a.row)) (hat:ownB An=ownB A∨∀ g,ownB An=some g→v2.heap.size≤g) (hI:IntsNew wr.heap.size v1 .u8 a.B a.w.m.pl) (hcp:a.w.m.pl.length≤a.c):QOwn wn base An (k+1) cn (l ++ [a]):=by
 have s1:=hb.size
 have s2:=hb2.size
 have s3:=hg.size
 have hA:∀ g,ownB A=some g→g<wr.heap.size:=fun g hg'=>(h.own.block g hg').2
 have key:∀ (x:TW),IntsAt v2 v2.heap.size .u8 x.B x.w.m.pl→(0<x.w.m.pl.length→∀ b off,x.B=some ⟨b,off,none⟩→some b≠ownB A)→IntsAt wn wn.heap.size .u8 x.B x.w.m.pl:=by
  intro x hx hf h0
  obtain ⟨b,off,e,hlt,hc⟩:=hx h0
  exact ⟨b,off,e,by omega,fun i hi=>hg.cell (hc i hi) (hf h0 b off e)⟩
 have farN:∀ b off,0<a.w.m.pl.length→a.B=some ⟨b,off,none⟩→wr.heap.size≤b∧b<v1.heap.size:=by
  intro b off h0 e
  refine ⟨hI.2 h0 b off e,?_⟩
  obtain ⟨b',off',e',hlt,_⟩:=hI.1 h0
  rw [e] at e'
  injection e' with e'
  injection e' with e1 _
  omega
 have farO:∀ x∈l,∀ b off,0<x.w.m.pl.length→x.B=some ⟨b,off,none⟩→b<wr.heap.size:=by
  intro x hx b off h0 e
  obtain ⟨b',off',e',hlt,_⟩:=h.pay x hx h0
  rw [e] at e'
  injection e' with e'
  injection e' with e1 _
  omega
 refine ⟨by simp [h.len],by rw [List.flatMap_append];simpa using qo,fun x hx => ?_,fun x hx h0 b off e => ?_,fun x hx h0 b off e => ?_,fun x hx => ?_⟩
 · rcases List.mem_append.1 hx with hx|hx
   · exact key x (((h.pay x hx).later hb).later hb2) (h.far x hx)
   · obtain rfl:=List.mem_singleton.1 hx
     refine key x (hI.1.later hb2) (fun h0 b off e he => ?_)
     have:=farN b off h0 e
     have:=hA b he.symm
     omega
 · rcases List.mem_append.1 hx with hx|hx
   · rcases hat with e2|e2
     · rw [e2];exact h.far x hx h0 b off e
     · intro he
       have:=farO x hx b off h0 e
       have:=e2 b he.symm
       omega
   · obtain rfl:=List.mem_singleton.1 hx
     have:=farN b off h0 e
     rcases hat with e2|e2
     · rw [e2]
       intro he
       have:=hA b he.symm
       omega
     · intro he
       have:=e2 b he.symm
       omega
 · rcases List.mem_append.1 hx with hx|hx
   · exact h.new x hx h0 b off e
   · obtain rfl:=List.mem_singleton.1 hx
     have:=farN b off h0 e
     omega
 · rcases List.mem_append.1 hx with hx|hx
   · exact h.cap x hx
   · obtain rfl:=List.mem_singleton.1 hx
     exact hcp
theorem QOwn.wts {w:World} {base n c:Nat} {A:Option Addr} {l:List TW} (h:QOwn w base A n c l):Wts w w.heap.size A l:=by
 refine ⟨?_,h.pay⟩
 exact Owns.rows h.own h.len (fun a=>rfl)
theorem zfo {P:Program} {ops:Array Oper} {o:Oper} {a:Act} {w:World} {K:Act→World→Prop} {Q:Exit→Act→World→Prop} {E:Prop} (d:Tmp) (hgd:o.guard=none) (hd:o.dst=some d) (s x:Operand) (t:TypeId)
 (ho:o.op = .call { callee := .builtin .append,args := #[s,x],argTypes := #[t,t] })
 (base:Nat) (e:TypeId) (size bytes:Nat) (z:Value) (ht:P.underlying t=some (.slice e)) (hinfo:(P.info? e).map (fun i=>(i.zero,i.size,i.bytes))=some (some z,size,bytes))
 (hzs:z.cells.size=size) (hsz:0<size) (A:Option Addr) (n c:Nat) (xs:List Value) (hs:a.eval s = .slice A n c) (qo:Owns w base e size A n c xs)
 (g0:Nat) (cs:List Value) (hl:cs.length=size) (h1:∀ u∈cs,u.oneCell'=true) (hx:a.eval x = .slice (some ⟨g0,0,none⟩) 1 1) (hb:Blk w g0 e cs.toArray)
 (h63:n+1≤maxLen) (hbytes:(n+1)*bytes≤140737488355328) (hbase:base≤w.heap.size)
 (h:∀ (A':Option Addr) (c':Nat) (w':World),Owns w' base e size A' (n+1) c' (xs++cs)→w.grownBy w' (ownB A)→(ownB A'=ownB A∨∀ g,ownB A'=some g→w.heap.size≤g)→K (a.put (some d) (.slice A' (n+1) c')) w') :
 if Region.wanted o (yielded ops a.tmps)=true then Oper.wp P o a w K Q else E:=by
 obtain ⟨i,hi,hz0,hz1,hz2⟩:=info_parts hinfo
 refine step_append_lies w hgd s x t ho base e i z size bytes ht hi hz0 hz1 hz2 hzs hsz _ n xs hs qo ⟨g0,0,none⟩ 1 1 cs hx (by omega) ?_ h1 (by omega) h63 hbytes hbase _ rfl ?_
 · intro j u hu
   exact World.news_of_block hb j u (by simpa using hu)
 · intro g cap w' hown' hg hat hlt
   rw [zbz] at hg hat
   rw [hd]
   refine h _ _ w' hown' hg ?_
   rcases hat with e|e
   · exact .inl e.symm
   · refine .inr fun g' hg' => ?_
     injection hg' with hg'
     rw [← hg',e];exact Nat.le_refl _
def QueueR (l:List TW) (w:World) (e:Ending) (w':World):Prop :=
 ∃ (A':Option Addr) (c':Nat) (l':List TW),e = .returned (.slice A' l.length c')∧l'.map TW.w=l.map TW.w∧QOwn w' w.heap.size A' l.length c' l'∧Below w.heap.size w w'
theorem zhu (A:Option Addr) (l:List TW) (n c:Nat) (w:World) (hn:l.length=n) (hl:n≤100000) (hA:Wts w w.heap.size A l) (hp:∀ a∈l,a.w.m.pl.length≤1000000):Calls Tryz.prog 149 #[.slice A n c] w (QueueR l w):=by
 subst hn
 have HA:=H9 hA
 have HP:=H9 hp
 clear hA hp
 go_enter Tryz.func149,Tryz.ntmps149
 go_wp2_with fail
 go_loopg [3,8] l.length (fun gk s3 i wr => ∃ (k:Nat) (A':Option Addr) (c':Nat) (l':List TW),gk+k=l.length∧s3 = .slice A' k c'∧i = .int .i64 k∧Hid (l'.map TW.w=(l.map TW.w).take k)∧Hid (QOwn wr w.heap.size A' k c' l')∧Hid (Bel w wr))
 case atStart=>exact ⟨0,none,0,[],rfl,rfl,rfl,H9 rfl,H9 QOwn.nil,H9 (Bel.refl w)⟩
 case round =>
  obtain ⟨k,A',c',l',hgk,rfl,rfl,HL,HO,U⟩:=hrel
  have hi0:(0:Int)≤(k:Int):=by omega
  by_cases hk:k<l.length
  rotate_left
  · obtain rfl:k=l.length:=by omega
    have hi1:(l.length:Int)≤(l.length:Int):=Int.le_refl _
    go_wp2_with fail
    go_ret
    exact ⟨A',c',l',rfl,by rw [HL.out,List.take_of_length_le (by simp)],HO.out,U.out⟩
  have hi1:(k:Int)<(l.length:Int):=by omega
  obtain ⟨a,ha⟩:∃ a,l[k]? = some a:=⟨_,List.getElem?_eq_getElem hk⟩
  obtain ⟨b,off,rfl,hbB,e0,e1,e2,e3,e4,e5⟩:=zbs (HA.out.1.keep (fun p hp=>U.out.cell hp)) ha
  have hpa:=HP.out a (List.mem_of_getElem? ha)
  have hia:=(HA.out.2 a (List.mem_of_getElem? ha)).keep (w':=wr) (fun p hp=>U.out.cell hp)
  have hm:(l.map TW.w)[k]? = some a.w:=by rw [List.getElem?_map,ha];rfl
  have HM:=H9 hm
  obtain ⟨⟨at0,⟨sq0,ti0,mk0,ty0,pl0⟩⟩,B0,c0⟩:=a
  simp only at e0 e1 e2 e3 e4 e5 hpa hia HM
  have BX:=H9 ((Blk.new wr 105 #[.int .i64 at0, .int .i64 sq0, .int .i64 ti0, .bool mk0, .int .u8 ty0, .slice B0 pl0.length c0]).drew)
  have UX:=H9 (((Bel.refl wr).push (.cells #[.int .i64 at0, .int .i64 sq0, .int .i64 ti0, .bool mk0, .int .u8 ty0, .slice B0 pl0.length c0] 105)).drewN 1)
  have hbs:=U.out.size
  have IA:=H9 hia
  clear ha hm hia
  go_wp2_with fail
  go_region_law (first
   | (refine zfo 20 (by rfl) (by rfl) _ _ 38 (by rfl) w.heap.size 105 6 56 _ Tryz.underlying38 zbt rfl (by decide) A' k c' _ (by rfl) (Owns.alloc HO2 _) v1.heap.size [.int .i64 at0, .int .i64 sq0, .int .i64 ti0, .bool mk0, .int .u8 ty0, .slice A9 pl0.length c9] rfl (by simp [Value.oneCell']) (by rfl) (Blk.new v1 _ _) (by unfold maxLen;omega) (by omega) (by simp;omega) ?_;intro An cn wn qo hgr hat)
   | (go_simp;go_at_call 107;refine (zdt sq0 ti0 mk0 ty0 B0 pl0 pl0.length c0 _ w.heap.size (by simp;omega) ((IA.out.alloc hbs _).drew) hpa rfl).mono ?_;rintro e v1 ⟨A9,c9,rfl,hI9,hb9,hcp9⟩;have HO2:=((HO.out.own.alloc _).drew).below hb9;have b0:=(BX.out.later hb9).at 0 _ rfl;have hs9:=hb9.size;have hs9':w.heap.size≤v1.heap.size:=by simp at hs9;omega))
  all_goals
   go_wp2_with fail
   go_roundg (gk-1)
   case measure=>omega
   case rel =>
    have UV:Below wr.heap.size wr v1:=UX.out.later hb9
    have hI8:=hI9.less (m:=wr.heap.size) (by simp)
    have hb2:=(Below.refl v1.heap.size v1).alloc (Nat.le_refl _) (.cells #[.int .i64 at0, .int .i64 sq0, .int .i64 ti0, .bool mk0, .int .u8 ty0, .slice A9 pl0.length c9] 105)
    refine ⟨k+1,An,cn,l' ++ [⟨⟨at0,⟨sq0,ti0,mk0,ty0,pl0⟩⟩,A9,c9⟩],by omega,rfl,by go_num,H9 ?_,H9 ?_,H9 ?_⟩
    · rw [List.map_append,HL.out,List.take_add_one,HM.out];rfl
    · exact HO.out.step hbs UV hb2 hgr (by simpa [TW.row] using qo) hat hI8 hcp9
    · exact (((U.out.later UV).later hb2).grown hgr (Nat.le_trans hs9' hb2.size) fun g e=>(HO.out.own.block g e).1)
section
variable {α : Type} {row : α → List Value} {w:World} {B size:Nat} {A:Option Addr} {l:List α}
theorem RowsAt.take (h:RowsAt w B size row A l) (n:Nat):RowsAt w B size row A (l.take n):=fun h0=>by
 obtain ⟨b,off,rfl,hb,hc⟩:=h (by simp at h0;omega)
 refine ⟨b,off,rfl,hb,fun i a ha j v hv=>hc i a ?_ j v hv⟩
 rw [List.getElem?_take] at ha
 split at ha
 · exact ha
 · cases ha
theorem RowsAt.dropAt {b off:Nat} (h:RowsAt w B size row (some ⟨b,off,none⟩) l) (n:Nat):RowsAt w B size row (some ⟨b,off+n*size,none⟩) (l.drop n):=fun h0=>by
 obtain ⟨b',off',e,hb,hc⟩:=h (by simp at h0;omega)
 injection e with e
 injection e with e1 e2
 subst e1 e2
 refine ⟨b,off+n*size,rfl,hb,fun i a ha j v hv => ?_⟩
 rw [List.getElem?_drop] at ha
 have:=hc (n+i) a ha j v hv
 rw [← this]
 congr 2
 rw [Nat.add_mul];omega
end
theorem Wts.take {w:World} {B:Nat} {A:Option Addr} {l:List TW} (h:Wts w B A l) (n:Nat):Wts w B A (l.take n):=⟨h.1.take n,fun a ha=>h.2 a (List.mem_of_mem_take ha)⟩
theorem Wts.dropAt {w:World} {B b off:Nat} {l:List TW} (h:Wts w B (some ⟨b,off,none⟩) l) (n:Nat):Wts w B (some ⟨b,off+n*6,none⟩) (l.drop n):=⟨h.1.dropAt n,fun a ha=>h.2 a (List.mem_of_mem_drop ha)⟩
theorem Wts.form {w:World} {B:Nat} {A:Option Addr} {l:List TW} (h:Wts w B A l):l=[]∨∃ b off,A=some ⟨b,off,none⟩:=by
 rcases Nat.eq_zero_or_pos l.length with h0|h0
 · exact .inl (List.eq_nil_of_length_eq_zero h0)
 · obtain ⟨b,off,e,_⟩:=h.1 h0
   exact .inr ⟨b,off,e⟩
theorem Wts.empty {w:World} {B:Nat} {A:Option Addr} : Wts w B A []:=⟨RowsAt.nil,fun _ h=>by cases h⟩
structure WtsIn (w:World) (lo hi:Nat) (A:Option Addr) (l:List TW):Prop where
 rows:Wts w hi A l
 low:0<l.length→∀ b off,A=some ⟨b,off,none⟩→lo≤b
 plow:∀ a∈l,0<a.w.m.pl.length→∀ b off,a.B=some ⟨b,off,none⟩→lo≤b
 cap:∀ a∈l,a.w.m.pl.length≤a.c
theorem WtsIn.keep {w w':World} {lo hi:Nat} {A:Option Addr} {l:List TW} (h:WtsIn w lo hi A l) (hk:∀ p:Addr,lo≤p.block→p.block<hi→w'.cell? p=w.cell? p):WtsIn w' lo hi A l:=by
 refine ⟨⟨fun h0 => ?_,fun a ha h0 => ?_⟩,h.low,h.plow,h.cap⟩
 · obtain ⟨b,off,rfl,hb,hc⟩:=h.rows.1 h0
   have hlo:=h.low h0 b off rfl
   exact ⟨b,off,rfl,hb,fun i a ha j v hv=>(hk _ hlo hb).trans (hc i a ha j v hv)⟩
 · obtain ⟨b,off,e,hb,hc⟩:=h.rows.2 a ha h0
   have hlo:=h.plow a ha h0 b off e
   exact ⟨b,off,e,hb,fun i hi=>(hk _ hlo hb).trans (hc i hi)⟩
theorem WtsIn.more {w:World} {lo hi hi':Nat} {A:Option Addr} {l:List TW} (h:WtsIn w lo hi A l) (hl:hi≤hi'):WtsIn w lo hi' A l:=⟨h.rows.more hl,h.low,h.plow,h.cap⟩
theorem WtsIn.empty {w:World} {lo hi:Nat} : WtsIn w lo hi none []:=⟨Wts.nil,fun h=>absurd h (by simp),(fun _ h=>by cases h),fun _ h=>by cases h⟩
theorem WtsIn.less {w:World} {lo lo' hi:Nat} {A:Option Addr} {l:List TW} (h:WtsIn w lo hi A l) (hl:lo'≤lo):WtsIn w lo' hi A l :=
 ⟨h.rows,fun h0 b off e=>Nat.le_trans hl (h.low h0 b off e),fun a ha h0 b off e=>Nat.le_trans hl (h.plow a ha h0 b off e),h.cap⟩
theorem WtsIn.setCell {w:World} {lo hi:Nat} {A:Option Addr} {l:List TW} (h:WtsIn w lo hi A l) {p:Addr} (hp:p.block<lo) (u:Value):WtsIn (w.setCell p u) lo hi A l :=
 h.keep fun q hq _=>World.cell?_setCell_other w p q u (fun e=>by subst e;omega)
theorem WtsIn.below {w w':World} {lo hi:Nat} {A:Option Addr} {l:List TW} (h:WtsIn w lo hi A l) {B:Nat} (hb:Below B w w') (hB:hi≤B):WtsIn w' lo hi A l:=h.keep fun q _ hq=>hb.cell (by omega)
theorem QOwn.wtsIn {w:World} {base n c:Nat} {A:Option Addr} {l:List TW} (h:QOwn w base A n c l):WtsIn w base w.heap.size A l :=
 ⟨h.wts,fun h0 b off e=>(h.own.block b (by rw [e];rfl)).1,h.new,h.cap⟩
theorem QOwn.setCell {w:World} {base n c:Nat} {A:Option Addr} {l:List TW} (h:QOwn w base A n c l) {p:Addr} (hp:p.block<base) (u:Value):QOwn (w.setCell p u) base A n c l:=by
 refine ⟨h.len,h.own.setCell (fun g hg e => ?_) u,fun a ha h0 => ?_,h.far,h.new,h.cap⟩
 · have:=(h.own.block g hg).1
   omega
 · obtain ⟨b,off,e,hb,hc⟩:=h.pay a ha h0
   have hlo:=h.new a ha h0 b off e
   exact ⟨b,off,e,by simpa [World.setCell] using hb,fun i hi=>(World.cell?_setCell_other w p _ u (fun e=>by subst e;simp at hp;omega)).trans (hc i hi)⟩
theorem QOwn.push {w:World} {base n c:Nat} {A:Option Addr} {l:List TW} (h:QOwn w base A n c l) (o:Obj):QOwn (w.alloc o) base A n c l:=h.below ((Below.refl _ _).alloc (Nat.le_refl _) _)
theorem QOwn.setRow {base n c g:Nat} {A:Option Addr} {l:List TW} (hg:g<base):∀ (vs:List Value) (w:World) (i:Nat),QOwn w base A n c l→QOwn (Go.Proofs.YtahbecinkciahaaGreat.setRow g w i vs) base A n c l
 | [],_,_,h=>h
 | v::vs,w,i,h=>QOwn.setRow hg vs _ (i+1) (QOwn.setCell h (by exact hg) v)
theorem WtsIn.setRow {lo hi g:Nat} {A:Option Addr} {l:List TW} (hg:g<lo):∀ (vs:List Value) (w:World) (i:Nat),WtsIn w lo hi A l→WtsIn (Go.Proofs.YtahbecinkciahaaGreat.setRow g w i vs) lo hi A l
 | [],_,_,h=>h
 | v::vs,w,i,h=>WtsIn.setRow hg vs _ (i+1) (WtsIn.setCell h (by exact hg) v)
def QueueN (n:Nat) (q:List Jb.Wt) (w:World) (e:Ending) (w':World):Prop :=
 ∃ (A':Option Addr) (c':Nat) (l':List TW),e = .returned (.slice A' n c')∧l'.map TW.w=q∧QOwn w' w.heap.size A' n c' l'∧Below w.heap.size w w'
theorem zfp (A:Option Addr) (l:List TW) (n c:Nat) (w:World) (B:Nat) (hB:B≤w.heap.size) (hn:l.length=n) (hl:n≤100000) (hA:Wts w B A l) (hp:∀ a∈l,a.w.m.pl.length≤1000000) (q:List Jb.Wt) (hq:l.map TW.w=q):Calls Tryz.prog 149 #[.slice A n c] w (QueueN n q w):=by
 refine (zhu A l n c w hn hl (hA.more hB) hp).mono ?_
 rintro e w' ⟨A',c',l',rfl,h1,h2,h3⟩
 rw [hn] at h2
 exact ⟨A',c',l',by rw [hn],h1.trans hq,h2,h3⟩
def RunR (le mo:Int) (on:Bool) (ze fi hi dn sp tr:Int) (q:List Jb.Wt) (la tw pd now:Int) (w:World) (e:Ending) (w':World):Prop :=
 ∃ (A1:Option Addr) (c1:Nat) (l1:List TW) (A2:Option Addr) (c2:Nat) (l2:List TW) (B:Nat),
  e = .returned (.tuple #[.agg #[.int .i64 le, .int .i64 mo, .int .i64 now, .bool on, .int .i64 ze, .int .i64 fi, .int .i64 hi, .int .i64 (Jb.maxSq dn (Jb.due now q)), .int .i64 sp, .int .i64 tr, .slice A2 l2.length c2, .int .i64 la, .int .i64 tw, .int .i64 (pd+(Jb.due now q).length)], .slice A1 l1.length c1]) ∧
  l1.map TW.w=Jb.due now q∧l2.map TW.w=Jb.left now q∧WtsIn w' w.heap.size B A1 l1∧QOwn w' B A2 l2.length c2 l2∧w.heap.size≤B∧B≤w'.heap.size∧(l1.length≤c1∧c1≤maxLen)∧Below w.heap.size w w'
theorem zsv (now:Int) (q:List Jb.Wt):Jb.due now q=q.take (Jb.due now q).length∧Jb.left now q=q.drop (Jb.due now q).length:=by
 have h:=Jb.due_left now q
 constructor
 · conv=>rhs;arg 2;rw [← h]
   rw [List.take_left]
 · conv=>rhs;arg 2;rw [← h]
   rw [List.drop_left]
theorem znq (d:Int) (l:List Jb.Wt) (x:Jb.Wt):Jb.maxSq d (l ++ [x])=max (Jb.maxSq d l) x.m.sq:=by unfold Jb.maxSq;rw [List.foldl_append];rfl
end Go.Proofs.YtahbecinkciahaaGreat
namespace Go.Proofs.YtahbecinkciahaaGreat
open Go Go.RowKit
open Go.Maps (Keyed)
theorem zdu {H:Type} {P:Program} {e:TypeId} (he:P.underlying e=some .bool) {v:Value} {z:DataW H×List MemPlace} (h:plainElem P e v=some z):∃ x,v = .bool x∧z=(.lit (.bool x),[]):=by
 unfold plainElem at h
 rw [he] at h
 cases v<;>simp at h
 case bool x=>exact ⟨x,rfl,h.symm⟩
def sqMap (H:Type) (l:List Int):DataW H:=l.foldl (fun D s=>D.put (.int .i64 s) (.lit (.bool true))) (.map [])
theorem zef (H:Type) (l:List Int) (s:Int):sqMap H (l ++ [s])=(sqMap H l).put (.int .i64 s) (.lit (.bool true)):=by simp [sqMap,List.foldl_append]
theorem zmi (H:Type):∀ (n:Nat) (l:List Int),l.length=n→Maps.IsMap (sqMap H l)
 | 0, l, h => by
   obtain rfl:=List.eq_nil_of_length_eq_zero h
   exact Maps.isMap_empty
 | n + 1, l0, h => by
   obtain ⟨l,s,rfl⟩:∃ a b,l0=a ++ [b]:=⟨l0.dropLast,l0.getLast (by intro e;rw [e] at h;simp at h),(List.dropLast_concat_getLast _).symm⟩
   rw [zef]
   exact (zmi H n l (by simpa using h)).put _ _
theorem zmj (H:Type) (s:Int):∀ (n:Nat) (l:List Int),l.length=n→(sqMap H l).atKey (.int .i64 s) (.lit (.bool false)) = .lit (.bool (l.any fun x=>x==s))
 | 0, l, h => by
   obtain rfl:=List.eq_nil_of_length_eq_zero h
   rfl
 | n + 1, l0, h => by
   obtain ⟨l,x,rfl⟩:∃ a b,l0=a ++ [b]:=⟨l0.dropLast,l0.getLast (by intro e;rw [e] at h;simp at h),(List.dropLast_concat_getLast _).symm⟩
   have hl:l.length=n:=by simpa using h
   rw [zef]
   by_cases hx:x=s
   · subst hx
     rw [Maps.atKey_put_same (k := .int .i64 x) (zmi H n l hl) (by unfold WideAt.IsKeyLit;trivial)]
     simp
   · rw [Maps.atKey_put_other (fun e=>hx (by injection e with _ e;exact e.symm)),zmj H s n l hl]
     simp [hx]
end Go.Proofs.YtahbecinkciahaaGreat
namespace Go.Proofs.YtahbecinkciahaaGreat.Jb
open Go.RowKit
def Fine (now high:Int) (w:Wt):Prop:=w.m.ok∧now<w.at_∧w.at_≤562949953421312∧w.m.sq≤high
theorem getD_eq {q:List Wt} {k:Nat} (h:k<q.length):q.getD k Wt.zero=q[k]:=by simp [List.getD_eq_getElem?_getD,h]
theorem okQ_iff (now high:Int) (q:List Wt):okQ now high q↔q.length≤200∧(∀ w∈q,Fine now high w)∧q.Pairwise bef∧q.Pairwise (fun a b=>a.m.sq≠b.m.sq):=by
 constructor
 · intro h
   refine ⟨h.1,fun w hw => ?_,?_,?_⟩
   · obtain ⟨k,hk,rfl⟩:=List.getElem_of_mem hw
     obtain ⟨a,b,c,d,_⟩:=h.2 k hk
     rw [getD_eq hk] at a b c d
     exact ⟨a,b,c,d⟩
   · refine List.pairwise_iff_getElem.2 fun i j hi hj hij => ?_
     have:=h.asc i j hij hj
     rwa [getD_eq hi,getD_eq hj] at this
   · refine List.pairwise_iff_getElem.2 fun i j hi hj hij => ?_
     have:=(h.2 j hj).2.2.2.2.2 i hij
     rwa [getD_eq hi,getD_eq hj] at this
 · rintro ⟨h1,h2,h3,h4⟩
   refine ⟨h1,fun k hk => ?_⟩
   obtain ⟨a,b,c,d⟩:=h2 _ (List.getElem_mem hk)
   unfold okAt
   rw [getD_eq hk]
   refine ⟨a,b,c,d,fun h0 => ?_,fun i hi => ?_⟩
   · rw [getD_eq (show k-1<q.length by omega)]
     exact List.pairwise_iff_getElem.1 h3 (k-1) k (by omega) hk (by omega)
   · rw [getD_eq (show i<q.length by omega)]
     exact List.pairwise_iff_getElem.1 h4 i k (by omega) hk hi
theorem left_gt (now:Int):∀ q:List Wt,q.Pairwise bef→∀ w∈left now q,now<w.at_
 | [],_,w,hw=>by cases hw
 | a :: q, h, w, hw => by
   unfold left at hw
   rw [List.dropWhile_cons] at hw
   by_cases ha:a.at_≤now
   · rw [if_pos (by simpa using ha)] at hw
     exact left_gt now q (List.pairwise_cons.1 h).2 w hw
   · rw [if_neg (by simpa using ha)] at hw
     rcases List.mem_cons.1 hw with rfl|hw
     · omega
     · have:=bef_at ((List.pairwise_cons.1 h).1 w hw)
       omega
theorem left_sub (now:Int) (q:List Wt):List.Sublist (left now q) q:=List.dropWhile_sublist _
theorem due_sub (now:Int) (q:List Wt):List.Sublist (due now q) q:=List.takeWhile_sublist _
theorem zmk (hi:Int):∀ (l:List Wt) (d:Int),(∀ w∈l,w.m.sq≤hi)→d≤hi→d≤maxSq d l∧maxSq d l≤hi
 | [],d,_,h=>⟨Int.le_refl _,h⟩
 | a :: l, d, h, hd => by
   have h1:=h a List.mem_cons_self
   obtain ⟨e1,e2⟩:=zmk hi l (max d a.m.sq) (fun w hw=>h w (List.mem_cons_of_mem _ hw)) (by omega)
   show d≤maxSq (max d a.m.sq) l∧maxSq (max d a.m.sq) l≤hi
   omega
theorem run0_ok (s:Jt) (now:Int) (h:s.ok) (h1:s.now≤now) (h2:now≤281474976710656) (h3:s.played+(due now s.q).length≤281474976710656):(run0 s now).ok:=by
 obtain ⟨⟨a1,a2,a3,a4,a5,a6,a7⟩,hc,⟨b1,b2,b3⟩,hr,hq⟩:=h
 obtain ⟨q1,q2,q3,q4⟩:=(okQ_iff _ _ _).1 hq
 have hm:=zmk (max s.done s.high) (due now s.q) s.done (fun w hw=>by have:=(q2 w ((due_sub now s.q).subset hw)).2.2.2;omega) (by omega)
 have hl:(left now s.q).length≤s.q.length:=(left_sub now s.q).length_le
 refine ⟨⟨⟨by show 0≤now;omega,h2⟩,a2,a3,a4,a5,⟨by show -1≤maxSq _ _;omega,by show maxSq _ _≤_;omega⟩,a7⟩,hc,⟨b1,b2,⟨by show 0≤s.played+_;omega,h3⟩⟩,?_,?_⟩
 · rcases hr with hr|⟨r1,r2,r3⟩
   · exact Or.inl hr
   · right
     have e:s.q=[]:=List.eq_nil_of_length_eq_zero r1
     show (left now s.q).length=0∧s.high = -1∧maxSq s.done (due now s.q) = -1
     rw [e]
     exact ⟨rfl,r2,r3⟩
 · refine (okQ_iff _ _ _).2 ⟨by show (left now s.q).length≤200;omega,fun w hw => ?_,q3.sublist (left_sub now s.q),q4.sublist (left_sub now s.q)⟩
   obtain ⟨f1,f2,f3,f4⟩:=q2 w ((left_sub now s.q).subset hw)
   exact ⟨f1,left_gt now s.q q3 w hw,f3,f4⟩
theorem zdv (q:List Wt) (w:Wt):List.Perm (ins q w) (w::q):=by
 unfold ins
 have h:=List.perm_middle (a:=w) (l₁ := q.takeWhile fun x=>decide (bef x w)) (l₂ := q.dropWhile fun x=>decide (bef x w))
 rwa [List.takeWhile_append_dropWhile] at h
theorem zvl (a b:Wt) (h:a.m.sq≠b.m.sq):bef a b∨bef b a:=by unfold bef;omega
theorem zqf (w:Wt):∀ q:List Wt,q.Pairwise bef→(∀ x∈q,x.m.sq≠w.m.sq)→(ins q w).Pairwise bef
 | [],_,_=>by simp [ins]
 | a :: q, h, hd => by
   obtain ⟨h1,h2⟩:=List.pairwise_cons.1 h
   by_cases ha:bef a w
   · have e:ins (a::q) w=a::ins q w:=by simp [ins,ha]
     rw [e]
     refine List.pairwise_cons.2 ⟨fun b hb => ?_,zqf w q h2 (fun x hx=>hd x (List.mem_cons_of_mem _ hx))⟩
     have hb':=(zdv q w).subset hb
     rcases List.mem_cons.1 hb' with rfl|hb'
     · exact ha
     · exact h1 b hb'
   · have e:ins (a::q) w=w::a::q:=by simp [ins,ha]
     rw [e]
     have hwa:bef w a:=(zvl a w (hd a List.mem_cons_self)).resolve_left ha
     refine List.pairwise_cons.2 ⟨fun b hb => ?_,h⟩
     rcases List.mem_cons.1 hb with rfl|hb
     · exact hwa
     · exact bef_trans hwa (h1 b hb)
theorem ins_len (q:List Wt) (w:Wt):(ins q w).length=q.length+1:=(zdv q w).length_eq
theorem zvm (now high:Int) (q:List Wt) (w:Wt) (h:okQ now high q) (hl:q.length<200) (hw:Fine now high w) (hd:∀ x∈q,x.m.sq≠w.m.sq):okQ now high (ins q w):=by
 obtain ⟨q1,q2,q3,q4⟩:=(okQ_iff _ _ _).1 h
 refine (okQ_iff _ _ _).2 ⟨by rw [ins_len];omega,fun x hx => ?_,zqf w q q3 hd,?_⟩
 · rcases List.mem_cons.1 ((zdv q w).subset hx) with rfl|hx
   · exact hw
   · exact q2 x hx
 · refine (zdv q w).symm.pairwise (List.pairwise_cons.2 ⟨fun x hx=>(hd x hx).symm,q4⟩) (fun hab e=>hab e.symm)
theorem zqg (z now high:Int) (q:List Wt) (h:okQ now high q) (z0:0≤z) (z1:z≤562949953421313):z≤lastAt z q∧lastAt z q≤562949953421313:=by
 unfold lastAt
 by_cases h0:q.length=0
 · rw [if_pos h0];omega
 · rw [if_neg h0]
   have:=(h.2 (q.length-1) (by omega)).2.2.1
   omega
theorem zqh (sp d:Int) (h0:0≤sp) (h1:sp≤72057594037927936) (d0:0≤d) (d1:d≤2251799813685248):0≤sp+d-(sp+8) / 16∧sp+d-(sp+8) / 16≤72057594037927936:=by omega
theorem meas_ok (s:Jt) (m:Md) (h:s.ok) (hm:m.ok):(meas s m).ok:=by
 obtain ⟨⟨a1,a2,a3,a4,a5,a6,a7⟩,hc,hk,hr,hq⟩:=h
 obtain ⟨m1,m2,m3⟩:=hm
 obtain ⟨c1,c2,c3⟩:=hc
 have hsp:∀ (on:Bool),0≤(if on then s.spread+max (s.now-m.ti / 8-s.trans) (s.trans-(s.now-m.ti / 8))-(s.spread+8) / 16 else s.spread)∧(if on then s.spread+max (s.now-m.ti / 8-s.trans) (s.trans-(s.now-m.ti / 8))-(s.spread+8) / 16 else s.spread)≤72057594037927936:=fun on=>by
  cases on
  · exact a7
  · exact zqh s.spread _ a7.1 a7.2 (by omega) (by omega)
 have hs:=hsp s.on
 have hz:=zqg (s.now+min (s.least+(if s.on then s.spread+max (s.now-m.ti / 8-s.trans) (s.trans-(s.now-m.ti / 8))-(s.spread+8) / 16 else s.spread) / 4) s.most) s.now s.high s.q hq (by omega) (by omega)
 unfold meas
 refine ⟨⟨a1,?_,⟨by show -1125899906842624≤s.now-m.ti / 8;omega,by show s.now-m.ti / 8≤1125899906842624;omega⟩,?_,⟨by show -1≤max s.high m.sq;omega,by show max s.high m.sq≤281474976710656;omega⟩,a6,hs⟩,⟨c1,c2,c3⟩,hk,Or.inl rfl,?_⟩
 · show -1125899906842624≤(if _ then _ else s.zero)∧(if _ then _ else s.zero)≤1125899906842624
   split
   · exact ⟨Int.le_trans (by omega) hz.1,Int.le_trans hz.2 (by omega)⟩
   · exact a2
 · show -281474976710656≤(if _ then m.ti else s.first)∧(if _ then m.ti else s.first)≤281474976710656
   split
   · exact m2
   · exact a4
 · obtain ⟨q1,q2,q3,q4⟩:=(okQ_iff _ _ _).1 hq
   refine (okQ_iff _ _ _).2 ⟨q1,fun w hw => ?_,q3,q4⟩
   obtain ⟨f1,f2,f3,f4⟩:=q2 w hw
   exact ⟨f1,f2,f3,by show w.m.sq≤max s.high m.sq;omega⟩
theorem meas_q (s:Jt) (m:Md):(meas s m).q=s.q∧(meas s m).now=s.now∧(meas s m).late=s.late∧(meas s m).twice=s.twice∧(meas s m).played=s.played∧(meas s m).high=max s.high m.sq∧(meas s m).on=true∧(meas s m).done=s.done∧(meas s m).least=s.least∧(meas s m).most=s.most:=⟨rfl,rfl,rfl,rfl,rfl,rfl,rfl,rfl,rfl,rfl⟩
theorem cnt_ok (s:Jt) (h:s.ok) (l t p:Int) (hl:0≤l∧l≤281474976710656) (ht:0≤t∧t≤281474976710656) (hp:0≤p∧p≤281474976710656):({ s with late:=l,twice:=t,played:=p } : Jt).ok :=
 ⟨h.1,h.2.1,⟨hl,ht,hp⟩,h.2.2.2.1,h.2.2.2.2⟩
theorem zqi (s:Jt) (m:Md) (h:s.ok) (hm:m.ok) (hl:s.late<281474976710656) (ht:s.twice<281474976710656):(put0 s m).1.ok:=by
 have hk:=h.2.2.1
 obtain ⟨k1,k2,k3⟩:=hk
 have hM:=meas_ok s m h hm
 unfold put0
 split
 · exact cnt_ok s h _ _ _ k1 ⟨by omega,by omega⟩ k3
 rename_i hany
 split
 · exact cnt_ok s h _ _ _ ⟨by omega,by omega⟩ k2 k3
 split
 · exact h
 rename_i hlen
 dsimp only
 split
 · exact cnt_ok _ hM _ _ _ ⟨by show 0≤s.late+1;omega,by show s.late+1≤_;omega⟩ k2 k3
 rename_i ha
 split
 · exact hM
 rename_i hb
 refine ⟨hM.1,hM.2.1,hM.2.2.1,Or.inl rfl,?_⟩
 have hn:s.now≤281474976710656:=h.1.1.2
 refine zvm s.now (max s.high m.sq) s.q _ hM.2.2.2.2 (by omega) ⟨hm,by show s.now<ptime (meas s m) m.ti;omega,by show ptime (meas s m) m.ti≤562949953421312;omega,by show m.sq≤max s.high m.sq;omega⟩ (fun x hx e=>hany ?_)
 exact List.any_eq_true.2 ⟨x,hx,by simpa using e⟩
theorem new_ok (l m:Int) (h:cfg l m):(new l m).1.ok:=by
 unfold new
 rw [if_pos h]
 refine ⟨⟨by simp,by simp,by simp,by simp,by simp,by simp,by simp⟩,h,⟨by simp,by simp,by simp⟩,Or.inr ⟨rfl,rfl,rfl⟩,?_⟩
 exact ⟨by simp,fun k hk=>absurd hk (by simp)⟩
end Go.Proofs.YtahbecinkciahaaGreat.Jb
