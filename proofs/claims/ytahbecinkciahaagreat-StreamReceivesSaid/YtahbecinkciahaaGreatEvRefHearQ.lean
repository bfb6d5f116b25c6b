/- Layer 29: Hear of the reference. -/
import Derived.Test.YtahbecinkciahaaGreatSs9Q
import Derived.Test.YtahbecinkciahaaGreatSbSoundsQ
import Derived.Deep.QuietTactic
import Derived.BigQuiet
import Derived.Test.YtahbecinkciahaaGreatJtSmallQ
import Derived.Laws.BitsAllLaws
import Derived.Laws.Rows
import Derived.RegionTactic
import Derived.Test.YtahbecinkciahaaGreatJtValidQ
import Derived.Deep.LoopGhost
set_option linter.unusedVariables false
set_option linter.unusedSimpArgs false
set_option maxRecDepth 100000
set_option maxHeartbeats 12800000
namespace Go.Proofs.YtahbecinkciahaaGreat
attribute [local go_sem ↓] zae zaf
attribute [local go_sem] zad zag
open Go.RowKit
structure Ev.RS (w0 w:World) (r:Ev.Rcv) (t:Array Value) (A:Option Addr) (n c:Nat) (xs:List Value):Prop where
 b0:Blk w w0.heap.size 46 #[.bool r.on, .int .u32 r.time, .int .u8 r.code, .int .i64 r.len, .bool r.ended]
 b1:Blk w (w0.heap.size+1) 108 t
 b2:Blk w (w0.heap.size+1+1) 46 #[.bool false, .int .u32 0, .int .u8 0, .int .i64 0, .bool false]
 own:Owns w (w0.heap.size+3) 89 4 A n c xs
 bel:Below w0.heap.size w0 w
theorem Ev.RS.grown {w0 w w':World} {r:Ev.Rcv} {t:Array Value} {A:Option Addr} {n c:Nat} {xs:List Value} (h:Ev.RS w0 w r t A n c xs) (hg:w.grownBy w' (ownB A)) {A':Option Addr} {n' c':Nat} {xs':List Value}
 (ho:Owns w' (w0.heap.size+3) 89 4 A' n' c' xs'):Ev.RS w0 w' r t A' n' c' xs':=by
 have hne:∀ g,g<w0.heap.size+3→some g≠ownB A:=fun g hg' he=>by have:=(h.own.block g he.symm).1;omega
 exact ⟨h.b0.grown hg (hne _ (by omega)),h.b1.grown hg (hne _ (by omega)),h.b2.grown hg (hne _ (by omega)),ho,h.bel.grown hg h.bel.size (fun g he=>by have:=(h.own.block g he).1;omega)⟩
def Ev.RS.Seen (w0 w:World) (r:Ev.Rcv) (c:Int) (f:Bool) (v d:Int):Prop :=
 w.cell? ⟨w0.heap.size,0,none⟩=some (.bool r.on)∧w.cell? ⟨w0.heap.size,1,none⟩=some (.int .u32 r.time)∧w.cell? ⟨w0.heap.size,2,none⟩=some (.int .u8 r.code)∧w.cell? ⟨w0.heap.size,3,none⟩=some (.int .i64 r.len)∧w.cell? ⟨w0.heap.size,4,none⟩=some (.bool r.ended)∧w.cell? ⟨w0.heap.size+1,0,none⟩=some (.int .u8 c)∧w.cell? ⟨w0.heap.size+1,1,none⟩=some (.bool f)∧w.cell? ⟨w0.heap.size+1,2,none⟩=some (.int .u8 v)∧w.cell? ⟨w0.heap.size+1,3,none⟩=some (.int .u16 d)∧w.cell? ⟨w0.heap.size+1+1,0,none⟩=some (.bool false)∧w.frozen? ⟨w0.heap.size+1+1,0,none⟩=false∧w.cell? ⟨w0.heap.size+1+1,1,none⟩=some (.int .u32 0)∧w.frozen? ⟨w0.heap.size+1+1,1,none⟩=false∧w.cell? ⟨w0.heap.size+1+1,2,none⟩=some (.int .u8 0)∧w.frozen? ⟨w0.heap.size+1+1,2,none⟩=false∧w.cell? ⟨w0.heap.size+1+1,3,none⟩=some (.int .i64 0)∧w.frozen? ⟨w0.heap.size+1+1,3,none⟩=false∧w.cell? ⟨w0.heap.size+1+1,4,none⟩=some (.bool false)∧w.frozen? ⟨w0.heap.size+1+1,4,none⟩=false∧w0.heap.size+3≤w.heap.size
theorem Ev.RS.seen {w0 w:World} {r:Ev.Rcv} {c:Int} {f:Bool} {v d:Int} {A:Option Addr} {n k:Nat} {xs:List Value} (h:Ev.RS w0 w r #[.int .u8 c, .bool f, .int .u8 v, .int .u16 d] A n k xs):Ev.RS.Seen w0 w r c f v d :=
 ⟨h.b0.at 0 _ rfl,h.b0.at 1 _ rfl,h.b0.at 2 _ rfl,h.b0.at 3 _ rfl,h.b0.at 4 _ rfl,h.b1.at 0 _ rfl,h.b1.at 1 _ rfl,h.b1.at 2 _ rfl,h.b1.at 3 _ rfl,h.b2.at 0 _ rfl,h.b2.frozen 0,h.b2.at 1 _ rfl,h.b2.frozen 1,h.b2.at 2 _ rfl,h.b2.frozen 2,h.b2.at 3 _ rfl,h.b2.frozen 3,h.b2.at 4 _ rfl,h.b2.frozen 4,by have:=h.b2.lt;omega⟩
theorem Ev.RS.start (w:World) (r:Ev.Rcv) (t:Array Value):Ev.RS w (((w.alloc (.cells #[.bool r.on, .int .u32 r.time, .int .u8 r.code, .int .i64 r.len, .bool r.ended] 46)).alloc (.cells t 108)).alloc (.cells #[.bool false, .int .u32 0, .int .u8 0, .int .i64 0, .bool false] 46)) r t none 0 0 [] :=
 ⟨((Blk.new w _ _).push _).push _,(Blk.new1 w _ _ _).push _,Blk.new2 w _ _ _ _,Owns.nil,(((Bel.refl w).push _).push _).push _⟩
theorem Ev.RS.start_size (w:World) (r:Ev.Rcv) (t:Array Value):(((w.alloc (.cells #[.bool r.on, .int .u32 r.time, .int .u8 r.code, .int .i64 r.len, .bool r.ended] 46)).alloc (.cells t 108)).alloc (.cells #[.bool false, .int .u32 0, .int .u8 0, .int .i64 0, .bool false] 46)).heap.size=w.heap.size+1+1+1:=by simp
section
variable (rt rc rl time c v d:Int) (w:World)
theorem zkv (re:Bool) (t0:0≤time) (t1:time≤4294967295) (r0:0≤rt) (r1:rt≤4294967295) (d0:0≤d) (d1:d≤65535) (l0 : -9223372036854775808≤rl) (l1:rl≤9223372036854775807) :
 Calls Tryz.prog 51 #[.agg #[.bool false, .int .u32 rt, .int .u8 rc, .int .i64 rl, .bool re], .int .u32 time, .agg #[.int .u8 c, .bool false, .int .u8 v, .int .u16 d]] w (Ev.HearR w (⟨true,time,c,d,false⟩,[⟨c,true,time,0⟩])):=by
 have H0:=H9 (Ev.RS.start w ⟨false,rt,rc,rl,re⟩ #[.int .u8 c, .bool false, .int .u8 v, .int .u16 d])
 have HE:=H9 (show (time-rt+4294967296) % 4294967296=(time-rt) % 4294967296 by omega)
 go_enter Tryz.func51,Tryz.ntmps51
 go_wp2_with (first|(at_builtin;refine zak rfl (.tmp 46) (.tmp 51) 78 rfl (w.heap.size+3) 89 4 16 _ Tryz.underlying78 Ev.info_key rfl (by decide) (none) 0 0 _ rfl H0.out.own [.int .u8 c, .bool true, .int .u32 time, .int .i64 (0)] rfl (by simp [Value.oneCell']) (by rw [Ev.RS.start_size];rfl) (by unfold maxLen;omega) (by omega) (by rw [Ev.RS.start_size];omega) ?_;intro A2 c2 w2 hown2 hg2 hlt2;have HH2:=H9 (H0.out.grown hg2 hown2);obtain ⟨s0,s1,s2,s3,s4,s5,s6,s7,s8,s9,s10,s11,s12,s13,s14,s15,s16,s17,s18,s19⟩:=HH2.out.seen;clear hown2 hg2 hlt2))
 refine bodyPost_ret (v := .tuple #[.agg #[.bool true, .int .u32 time, .int .u8 c, .int .i64 (d), .bool false], .slice A2 1 c2]) ?_ rfl ?_
 · simp [results,Tryz.results51,go_sem, *]
 · have HB:=H9 HH2.out.bel
   have HO:=HH2.out.own
   have HW:=H9 HO
   clear HO s0 s1 s2 s3 s4 s5 s6 s7 s8 s9 s10 s11 s12 s13 s14 s15 s16 s17 s18 s19
   refine Ev.HearR.mk rfl ?_ ?_
   · refine Owns.rowsNew (B:=w.heap.size) (base:=w.heap.size+3) (e:=89) (n:=1) (c:=c2) ?_ rfl (fun _=>rfl)
     have HX:Owns w2 (w.heap.size+3) 89 4 A2 1 c2 (List.flatMap Ev.Key.row [⟨c,true,time,0⟩]):=by
      have:=HW.out
      simpa [Ev.Key.row] using this
     repeat (first|with_reducible exact HX|with_reducible refine Owns.drew ?_|((with_reducible refine Owns.setCell ?_ ?_ _);rotate_left;(intro g hg;have:=(HW.out.block g hg).1;simp;omega)))
   · repeat (first|with_reducible exact HB.out|with_reducible refine Below.drew ?_|((with_reducible refine Below.setCell ?_ ?_ _);rotate_left;(simp;try omega)))
theorem zkw (re:Bool) (t0:0≤time) (t1:time≤4294967295) (r0:0≤rt) (r1:rt≤4294967295) (d0:0≤d) (d1:d≤65535) (l0 : -9223372036854775808≤rl) (l1:rl≤9223372036854775807) :
 Calls Tryz.prog 51 #[.agg #[.bool false, .int .u32 rt, .int .u8 rc, .int .i64 rl, .bool re], .int .u32 time, .agg #[.int .u8 c, .bool true, .int .u8 v, .int .u16 d]] w (Ev.HearR w (⟨true,time,c,d,true⟩,[⟨c,true,time,0⟩,⟨c,false,time,d⟩])):=by
 have H0:=H9 (Ev.RS.start w ⟨false,rt,rc,rl,re⟩ #[.int .u8 c, .bool true, .int .u8 v, .int .u16 d])
 have HE:=H9 (show (time-rt+4294967296) % 4294967296=(time-rt) % 4294967296 by omega)
 go_enter Tryz.func51,Tryz.ntmps51
 go_wp2_with (first|(at_builtin;refine zak rfl (.tmp 46) (.tmp 51) 78 rfl (w.heap.size+3) 89 4 16 _ Tryz.underlying78 Ev.info_key rfl (by decide) (none) 0 0 _ rfl H0.out.own [.int .u8 c, .bool true, .int .u32 time, .int .i64 (0)] rfl (by simp [Value.oneCell']) (by rw [Ev.RS.start_size];rfl) (by unfold maxLen;omega) (by omega) (by rw [Ev.RS.start_size];omega) ?_;intro A2 c2 w2 hown2 hg2 hlt2;have HH2:=H9 (H0.out.grown hg2 hown2);obtain ⟨s0,s1,s2,s3,s4,s5,s6,s7,s8,s9,s10,s11,s12,s13,s14,s15,s16,s17,s18,s19⟩:=HH2.out.seen;clear hown2 hg2 hlt2)|(at_builtin;refine zak rfl (.tmp 55) (.tmp 63) 78 rfl (w.heap.size+3) 89 4 16 _ Tryz.underlying78 Ev.info_key rfl (by decide) (A2) 1 c2 _ rfl HH2.out.own [.int .u8 c, .bool false, .int .u32 time, .int .i64 (d)] rfl (by simp [Value.oneCell']) rfl (by unfold maxLen;omega) (by omega) (by omega) ?_;intro A3 c3 w3 hown3 hg3 hlt3;have HH3:=H9 (HH2.out.grown hg3 hown3);clear s0 s1 s2 s3 s4 s5 s6 s7 s8 s9 s10 s11 s12 s13 s14 s15 s16 s17 s18 s19;obtain ⟨s0,s1,s2,s3,s4,s5,s6,s7,s8,s9,s10,s11,s12,s13,s14,s15,s16,s17,s18,s19⟩:=HH3.out.seen;clear hown3 hg3 hlt3))
 refine bodyPost_ret (v := .tuple #[.agg #[.bool true, .int .u32 time, .int .u8 c, .int .i64 (d), .bool true], .slice A3 2 c3]) ?_ rfl ?_
 · simp [results,Tryz.results51,go_sem, *]
 · have HB:=H9 HH3.out.bel
   have HO:=HH3.out.own
   have HW:=H9 HO
   clear HO s0 s1 s2 s3 s4 s5 s6 s7 s8 s9 s10 s11 s12 s13 s14 s15 s16 s17 s18 s19
   refine Ev.HearR.mk rfl ?_ ?_
   · refine Owns.rowsNew (B:=w.heap.size) (base:=w.heap.size+3) (e:=89) (n:=2) (c:=c3) ?_ rfl (fun _=>rfl)
     have HX:Owns w3 (w.heap.size+3) 89 4 A3 2 c3 (List.flatMap Ev.Key.row [⟨c,true,time,0⟩,⟨c,false,time,d⟩]):=by
      have:=HW.out
      simpa [Ev.Key.row] using this
     repeat (first|with_reducible exact HX|with_reducible refine Owns.drew ?_|((with_reducible refine Owns.setCell ?_ ?_ _);rotate_left;(intro g hg;have:=(HW.out.block g hg).1;simp;omega)))
   · repeat (first|with_reducible exact HB.out|with_reducible refine Below.drew ?_|((with_reducible refine Below.setCell ?_ ?_ _);rotate_left;(simp;try omega)))
theorem zoh (t0:0≤time) (t1:time≤4294967295) (r0:0≤rt) (r1:rt≤4294967295) (d0:0≤d) (d1:d≤65535) (l0 : -9223372036854775808≤rl) (l1:rl≤9223372036854775807) (hD1:1≤(time-rt+4294967296) % 4294967296) (hD2:(time-rt+4294967296) % 4294967296<2147483648) :
 Calls Tryz.prog 51 #[.agg #[.bool true, .int .u32 rt, .int .u8 rc, .int .i64 rl, .bool true], .int .u32 time, .agg #[.int .u8 c, .bool false, .int .u8 v, .int .u16 d]] w (Ev.HearR w (⟨true,time,c,d,false⟩,[⟨c,true,time,0⟩])):=by
 have H0:=H9 (Ev.RS.start w ⟨true,rt,rc,rl,true⟩ #[.int .u8 c, .bool false, .int .u8 v, .int .u16 d])
 have HE:=H9 (show (time-rt+4294967296) % 4294967296=(time-rt) % 4294967296 by omega)
 go_enter Tryz.func51,Tryz.ntmps51
 go_wp2_with (first|(at_builtin;refine zak rfl (.tmp 46) (.tmp 51) 78 rfl (w.heap.size+3) 89 4 16 _ Tryz.underlying78 Ev.info_key rfl (by decide) (none) 0 0 _ rfl H0.out.own [.int .u8 c, .bool true, .int .u32 time, .int .i64 (0)] rfl (by simp [Value.oneCell']) (by rw [Ev.RS.start_size];rfl) (by unfold maxLen;omega) (by omega) (by rw [Ev.RS.start_size];omega) ?_;intro A2 c2 w2 hown2 hg2 hlt2;have HH2:=H9 (H0.out.grown hg2 hown2);obtain ⟨s0,s1,s2,s3,s4,s5,s6,s7,s8,s9,s10,s11,s12,s13,s14,s15,s16,s17,s18,s19⟩:=HH2.out.seen;clear hown2 hg2 hlt2))
 refine bodyPost_ret (v := .tuple #[.agg #[.bool true, .int .u32 time, .int .u8 c, .int .i64 (d), .bool false], .slice A2 1 c2]) ?_ rfl ?_
 · simp [results,Tryz.results51,go_sem, *]
 · have HB:=H9 HH2.out.bel
   have HO:=HH2.out.own
   have HW:=H9 HO
   clear HO s0 s1 s2 s3 s4 s5 s6 s7 s8 s9 s10 s11 s12 s13 s14 s15 s16 s17 s18 s19
   refine Ev.HearR.mk rfl ?_ ?_
   · refine Owns.rowsNew (B:=w.heap.size) (base:=w.heap.size+3) (e:=89) (n:=1) (c:=c2) ?_ rfl (fun _=>rfl)
     have HX:Owns w2 (w.heap.size+3) 89 4 A2 1 c2 (List.flatMap Ev.Key.row [⟨c,true,time,0⟩]):=by
      have:=HW.out
      simpa [Ev.Key.row] using this
     repeat (first|with_reducible exact HX|with_reducible refine Owns.drew ?_|((with_reducible refine Owns.setCell ?_ ?_ _);rotate_left;(intro g hg;have:=(HW.out.block g hg).1;simp;omega)))
   · repeat (first|with_reducible exact HB.out|with_reducible refine Below.drew ?_|((with_reducible refine Below.setCell ?_ ?_ _);rotate_left;(simp;try omega)))
theorem zoi (t0:0≤time) (t1:time≤4294967295) (r0:0≤rt) (r1:rt≤4294967295) (d0:0≤d) (d1:d≤65535) (l0 : -9223372036854775808≤rl) (l1:rl≤9223372036854775807) (hD1:1≤(time-rt+4294967296) % 4294967296) (hD2:(time-rt+4294967296) % 4294967296<2147483648) :
 Calls Tryz.prog 51 #[.agg #[.bool true, .int .u32 rt, .int .u8 rc, .int .i64 rl, .bool true], .int .u32 time, .agg #[.int .u8 c, .bool true, .int .u8 v, .int .u16 d]] w (Ev.HearR w (⟨true,time,c,d,true⟩,[⟨c,true,time,0⟩,⟨c,false,time,d⟩])):=by
 have H0:=H9 (Ev.RS.start w ⟨true,rt,rc,rl,true⟩ #[.int .u8 c, .bool true, .int .u8 v, .int .u16 d])
 have HE:=H9 (show (time-rt+4294967296) % 4294967296=(time-rt) % 4294967296 by omega)
 go_enter Tryz.func51,Tryz.ntmps51
 go_wp2_with (first|(at_builtin;refine zak rfl (.tmp 46) (.tmp 51) 78 rfl (w.heap.size+3) 89 4 16 _ Tryz.underlying78 Ev.info_key rfl (by decide) (none) 0 0 _ rfl H0.out.own [.int .u8 c, .bool true, .int .u32 time, .int .i64 (0)] rfl (by simp [Value.oneCell']) (by rw [Ev.RS.start_size];rfl) (by unfold maxLen;omega) (by omega) (by rw [Ev.RS.start_size];omega) ?_;intro A2 c2 w2 hown2 hg2 hlt2;have HH2:=H9 (H0.out.grown hg2 hown2);obtain ⟨s0,s1,s2,s3,s4,s5,s6,s7,s8,s9,s10,s11,s12,s13,s14,s15,s16,s17,s18,s19⟩:=HH2.out.seen;clear hown2 hg2 hlt2)|(at_builtin;refine zak rfl (.tmp 55) (.tmp 63) 78 rfl (w.heap.size+3) 89 4 16 _ Tryz.underlying78 Ev.info_key rfl (by decide) (A2) 1 c2 _ rfl HH2.out.own [.int .u8 c, .bool false, .int .u32 time, .int .i64 (d)] rfl (by simp [Value.oneCell']) rfl (by unfold maxLen;omega) (by omega) (by omega) ?_;intro A3 c3 w3 hown3 hg3 hlt3;have HH3:=H9 (HH2.out.grown hg3 hown3);clear s0 s1 s2 s3 s4 s5 s6 s7 s8 s9 s10 s11 s12 s13 s14 s15 s16 s17 s18 s19;obtain ⟨s0,s1,s2,s3,s4,s5,s6,s7,s8,s9,s10,s11,s12,s13,s14,s15,s16,s17,s18,s19⟩:=HH3.out.seen;clear hown3 hg3 hlt3))
 refine bodyPost_ret (v := .tuple #[.agg #[.bool true, .int .u32 time, .int .u8 c, .int .i64 (d), .bool true], .slice A3 2 c3]) ?_ rfl ?_
 · simp [results,Tryz.results51,go_sem, *]
 · have HB:=H9 HH3.out.bel
   have HO:=HH3.out.own
   have HW:=H9 HO
   clear HO s0 s1 s2 s3 s4 s5 s6 s7 s8 s9 s10 s11 s12 s13 s14 s15 s16 s17 s18 s19
   refine Ev.HearR.mk rfl ?_ ?_
   · refine Owns.rowsNew (B:=w.heap.size) (base:=w.heap.size+3) (e:=89) (n:=2) (c:=c3) ?_ rfl (fun _=>rfl)
     have HX:Owns w3 (w.heap.size+3) 89 4 A3 2 c3 (List.flatMap Ev.Key.row [⟨c,true,time,0⟩,⟨c,false,time,d⟩]):=by
      have:=HW.out
      simpa [Ev.Key.row] using this
     repeat (first|with_reducible exact HX|with_reducible refine Owns.drew ?_|((with_reducible refine Owns.setCell ?_ ?_ _);rotate_left;(intro g hg;have:=(HW.out.block g hg).1;simp;omega)))
   · repeat (first|with_reducible exact HB.out|with_reducible refine Below.drew ?_|((with_reducible refine Below.setCell ?_ ?_ _);rotate_left;(simp;try omega)))
theorem zkx (t0:0≤time) (t1:time≤4294967295) (r0:0≤rt) (r1:rt≤4294967295) (d0:0≤d) (d1:d≤65535) (l0 : -9223372036854775808≤rl) (l1:rl≤9223372036854775807) (hD1:1≤(time-rt+4294967296) % 4294967296) (hD2:(time-rt+4294967296) % 4294967296<2147483648) :
 Calls Tryz.prog 51 #[.agg #[.bool true, .int .u32 rt, .int .u8 rc, .int .i64 rl, .bool false], .int .u32 time, .agg #[.int .u8 c, .bool false, .int .u8 v, .int .u16 d]] w (Ev.HearR w (⟨true,time,c,d,false⟩,[⟨rc,false,rt,rl⟩,⟨c,true,time,0⟩])):=by
 have H0:=H9 (Ev.RS.start w ⟨true,rt,rc,rl,false⟩ #[.int .u8 c, .bool false, .int .u8 v, .int .u16 d])
 have HE:=H9 (show (time-rt+4294967296) % 4294967296=(time-rt) % 4294967296 by omega)
 go_enter Tryz.func51,Tryz.ntmps51
 go_wp2_with (first|(at_builtin;refine zak rfl (.tmp 36) (.tmp 44) 78 rfl (w.heap.size+3) 89 4 16 _ Tryz.underlying78 Ev.info_key rfl (by decide) (none) 0 0 _ rfl H0.out.own [.int .u8 rc, .bool false, .int .u32 rt, .int .i64 (rl)] rfl (by simp [Value.oneCell']) (by rw [Ev.RS.start_size];rfl) (by unfold maxLen;omega) (by omega) (by rw [Ev.RS.start_size];omega) ?_;intro A1 c1 w1 hown1 hg1 hlt1;have HH1:=H9 (H0.out.grown hg1 hown1);obtain ⟨s0,s1,s2,s3,s4,s5,s6,s7,s8,s9,s10,s11,s12,s13,s14,s15,s16,s17,s18,s19⟩:=HH1.out.seen;clear hown1 hg1 hlt1)|(at_builtin;refine zak rfl (.tmp 46) (.tmp 51) 78 rfl (w.heap.size+3) 89 4 16 _ Tryz.underlying78 Ev.info_key rfl (by decide) (A1) 1 c1 _ rfl HH1.out.own [.int .u8 c, .bool true, .int .u32 time, .int .i64 (0)] rfl (by simp [Value.oneCell']) rfl (by unfold maxLen;omega) (by omega) (by omega) ?_;intro A2 c2 w2 hown2 hg2 hlt2;have HH2:=H9 (HH1.out.grown hg2 hown2);clear s0 s1 s2 s3 s4 s5 s6 s7 s8 s9 s10 s11 s12 s13 s14 s15 s16 s17 s18 s19;obtain ⟨s0,s1,s2,s3,s4,s5,s6,s7,s8,s9,s10,s11,s12,s13,s14,s15,s16,s17,s18,s19⟩:=HH2.out.seen;clear hown2 hg2 hlt2))
 refine bodyPost_ret (v := .tuple #[.agg #[.bool true, .int .u32 time, .int .u8 c, .int .i64 (d), .bool false], .slice A2 2 c2]) ?_ rfl ?_
 · simp [results,Tryz.results51,go_sem, *]
 · have HB:=H9 HH2.out.bel
   have HO:=HH2.out.own
   have HW:=H9 HO
   clear HO s0 s1 s2 s3 s4 s5 s6 s7 s8 s9 s10 s11 s12 s13 s14 s15 s16 s17 s18 s19
   refine Ev.HearR.mk rfl ?_ ?_
   · refine Owns.rowsNew (B:=w.heap.size) (base:=w.heap.size+3) (e:=89) (n:=2) (c:=c2) ?_ rfl (fun _=>rfl)
     have HX:Owns w2 (w.heap.size+3) 89 4 A2 2 c2 (List.flatMap Ev.Key.row [⟨rc,false,rt,rl⟩,⟨c,true,time,0⟩]):=by
      have:=HW.out
      simpa [Ev.Key.row] using this
     repeat (first|with_reducible exact HX|with_reducible refine Owns.drew ?_|((with_reducible refine Owns.setCell ?_ ?_ _);rotate_left;(intro g hg;have:=(HW.out.block g hg).1;simp;omega)))
   · repeat (first|with_reducible exact HB.out|with_reducible refine Below.drew ?_|((with_reducible refine Below.setCell ?_ ?_ _);rotate_left;(simp;try omega)))
theorem zky (t0:0≤time) (t1:time≤4294967295) (r0:0≤rt) (r1:rt≤4294967295) (d0:0≤d) (d1:d≤65535) (l0 : -9223372036854775808≤rl) (l1:rl≤9223372036854775807) (hD1:1≤(time-rt+4294967296) % 4294967296) (hD2:(time-rt+4294967296) % 4294967296<2147483648) :
 Calls Tryz.prog 51 #[.agg #[.bool true, .int .u32 rt, .int .u8 rc, .int .i64 rl, .bool false], .int .u32 time, .agg #[.int .u8 c, .bool true, .int .u8 v, .int .u16 d]] w (Ev.HearR w (⟨true,time,c,d,true⟩,[⟨rc,false,rt,rl⟩,⟨c,true,time,0⟩,⟨c,false,time,d⟩])):=by
 have H0:=H9 (Ev.RS.start w ⟨true,rt,rc,rl,false⟩ #[.int .u8 c, .bool true, .int .u8 v, .int .u16 d])
 have HE:=H9 (show (time-rt+4294967296) % 4294967296=(time-rt) % 4294967296 by omega)
 go_enter Tryz.func51,Tryz.ntmps51
 go_wp2_with (first|(at_builtin;refine zak rfl (.tmp 36) (.tmp 44) 78 rfl (w.heap.size+3) 89 4 16 _ Tryz.underlying78 Ev.info_key rfl (by decide) (none) 0 0 _ rfl H0.out.own [.int .u8 rc, .bool false, .int .u32 rt, .int .i64 (rl)] rfl (by simp [Value.oneCell']) (by rw [Ev.RS.start_size];rfl) (by unfold maxLen;omega) (by omega) (by rw [Ev.RS.start_size];omega) ?_;intro A1 c1 w1 hown1 hg1 hlt1;have HH1:=H9 (H0.out.grown hg1 hown1);obtain ⟨s0,s1,s2,s3,s4,s5,s6,s7,s8,s9,s10,s11,s12,s13,s14,s15,s16,s17,s18,s19⟩:=HH1.out.seen;clear hown1 hg1 hlt1)|(at_builtin;refine zak rfl (.tmp 46) (.tmp 51) 78 rfl (w.heap.size+3) 89 4 16 _ Tryz.underlying78 Ev.info_key rfl (by decide) (A1) 1 c1 _ rfl HH1.out.own [.int .u8 c, .bool true, .int .u32 time, .int .i64 (0)] rfl (by simp [Value.oneCell']) rfl (by unfold maxLen;omega) (by omega) (by omega) ?_;intro A2 c2 w2 hown2 hg2 hlt2;have HH2:=H9 (HH1.out.grown hg2 hown2);clear s0 s1 s2 s3 s4 s5 s6 s7 s8 s9 s10 s11 s12 s13 s14 s15 s16 s17 s18 s19;obtain ⟨s0,s1,s2,s3,s4,s5,s6,s7,s8,s9,s10,s11,s12,s13,s14,s15,s16,s17,s18,s19⟩:=HH2.out.seen;clear hown2 hg2 hlt2)|(at_builtin;refine zak rfl (.tmp 55) (.tmp 63) 78 rfl (w.heap.size+3) 89 4 16 _ Tryz.underlying78 Ev.info_key rfl (by decide) (A2) 2 c2 _ rfl HH2.out.own [.int .u8 c, .bool false, .int .u32 time, .int .i64 (d)] rfl (by simp [Value.oneCell']) rfl (by unfold maxLen;omega) (by omega) (by omega) ?_;intro A3 c3 w3 hown3 hg3 hlt3;have HH3:=H9 (HH2.out.grown hg3 hown3);clear s0 s1 s2 s3 s4 s5 s6 s7 s8 s9 s10 s11 s12 s13 s14 s15 s16 s17 s18 s19;obtain ⟨s0,s1,s2,s3,s4,s5,s6,s7,s8,s9,s10,s11,s12,s13,s14,s15,s16,s17,s18,s19⟩:=HH3.out.seen;clear hown3 hg3 hlt3))
 refine bodyPost_ret (v := .tuple #[.agg #[.bool true, .int .u32 time, .int .u8 c, .int .i64 (d), .bool true], .slice A3 3 c3]) ?_ rfl ?_
 · simp [results,Tryz.results51,go_sem, *]
 · have HB:=H9 HH3.out.bel
   have HO:=HH3.out.own
   have HW:=H9 HO
   clear HO s0 s1 s2 s3 s4 s5 s6 s7 s8 s9 s10 s11 s12 s13 s14 s15 s16 s17 s18 s19
   refine Ev.HearR.mk rfl ?_ ?_
   · refine Owns.rowsNew (B:=w.heap.size) (base:=w.heap.size+3) (e:=89) (n:=3) (c:=c3) ?_ rfl (fun _=>rfl)
     have HX:Owns w3 (w.heap.size+3) 89 4 A3 3 c3 (List.flatMap Ev.Key.row [⟨rc,false,rt,rl⟩,⟨c,true,time,0⟩,⟨c,false,time,d⟩]):=by
      have:=HW.out
      simpa [Ev.Key.row] using this
     repeat (first|with_reducible exact HX|with_reducible refine Owns.drew ?_|((with_reducible refine Owns.setCell ?_ ?_ _);rotate_left;(intro g hg;have:=(HW.out.block g hg).1;simp;omega)))
   · repeat (first|with_reducible exact HB.out|with_reducible refine Below.drew ?_|((with_reducible refine Below.setCell ?_ ?_ _);rotate_left;(simp;try omega)))
theorem zfu (t0:0≤time) (t1:time≤4294967295) (r0:0≤rt) (r1:rt≤4294967295) (d0:0≤d) (d1:d≤65535) (l0 : -9223372036854775808≤rl) (l1:rl≤9223372036854775807) (hD:(time-rt+4294967296) % 4294967296=0) (hm:rl<d) :
 Calls Tryz.prog 51 #[.agg #[.bool true, .int .u32 rt, .int .u8 c, .int .i64 rl, .bool false], .int .u32 time, .agg #[.int .u8 c, .bool false, .int .u8 v, .int .u16 d]] w (Ev.HearR w (⟨true,rt,c,d,false⟩,[])):=by
 have HE:=H9 (show (time-rt+4294967296) % 4294967296=(time-rt) % 4294967296 by omega)
 go_enter Tryz.func51,Tryz.ntmps51
 go_wp2
 refine bodyPost_ret (v := .tuple #[.agg #[.bool true, .int .u32 rt, .int .u8 c, .int .i64 (d), .bool false], .slice none 0 0]) ?_ rfl ?_
 · simp [results,Tryz.results51,go_sem]
 · refine Ev.HearR.mk rfl RowsNew.nil ?_
   repeat (first|exact Below.refl _ _|refine Below.drew ?_|refine Below.setCell ?_ (by simp) _|refine Below.alloc ?_ (by simp;try omega) _)
theorem zfv (t0:0≤time) (t1:time≤4294967295) (r0:0≤rt) (r1:rt≤4294967295) (d0:0≤d) (d1:d≤65535) (l0 : -9223372036854775808≤rl) (l1:rl≤9223372036854775807) (hD:(time-rt+4294967296) % 4294967296=0) (hm:rl<d) :
 Calls Tryz.prog 51 #[.agg #[.bool true, .int .u32 rt, .int .u8 c, .int .i64 rl, .bool false], .int .u32 time, .agg #[.int .u8 c, .bool true, .int .u8 v, .int .u16 d]] w (Ev.HearR w (⟨true,rt,c,d,true⟩,[⟨c,false,rt,d⟩])):=by
 have H0:=H9 (Ev.RS.start w ⟨true,rt,c,d,true⟩ #[.int .u8 c, .bool true, .int .u8 v, .int .u16 d])
 have HE:=H9 (show (time-rt+4294967296) % 4294967296=(time-rt) % 4294967296 by omega)
 go_enter Tryz.func51,Tryz.ntmps51
 go_wp2_with (at_builtin;refine zak rfl (.tmp 102) (.tmp 110) 78 rfl (w.heap.size+3) 89 4 16 _ Tryz.underlying78 Ev.info_key rfl (by decide) (none) 0 0 _ rfl H0.out.own [.int .u8 c, .bool false, .int .u32 rt, .int .i64 (d)] rfl (by simp [Value.oneCell']) (by rw [Ev.RS.start_size];rfl) (by unfold maxLen;omega) (by omega) (by rw [Ev.RS.start_size];omega) ?_;intro A2 c2 w2 hown2 hg2 hlt2;have HH2:=H9 (H0.out.grown hg2 hown2);obtain ⟨s0,s1,s2,s3,s4,s5,s6,s7,s8,s9,s10,s11,s12,s13,s14,s15,s16,s17,s18,s19⟩:=HH2.out.seen;clear hown2 hg2 hlt2)
 refine bodyPost_ret (v := .tuple #[.agg #[.bool true, .int .u32 rt, .int .u8 c, .int .i64 (d), .bool true], .slice A2 1 c2]) ?_ rfl ?_
 · simp [results,Tryz.results51,go_sem, *]
 · have HB:=H9 HH2.out.bel
   have HO:=HH2.out.own
   have HW:=H9 HO
   clear HO s0 s1 s2 s3 s4 s5 s6 s7 s8 s9 s10 s11 s12 s13 s14 s15 s16 s17 s18 s19
   refine Ev.HearR.mk rfl ?_ ?_
   · refine Owns.rowsNew (B:=w.heap.size) (base:=w.heap.size+3) (e:=89) (n:=1) (c:=c2) ?_ rfl (fun _=>rfl)
     have HX:Owns w2 (w.heap.size+3) 89 4 A2 1 c2 (List.flatMap Ev.Key.row [⟨c,false,rt,d⟩]):=by
      have:=HW.out
      simpa [Ev.Key.row] using this
     repeat (first|with_reducible exact HX|with_reducible refine Owns.drew ?_|((with_reducible refine Owns.setCell ?_ ?_ _);rotate_left;(intro g hg;have:=(HW.out.block g hg).1;simp;omega)))
   · repeat (first|with_reducible exact HB.out|with_reducible refine Below.drew ?_|((with_reducible refine Below.setCell ?_ ?_ _);rotate_left;(simp;try omega)))
theorem zfw (t0:0≤time) (t1:time≤4294967295) (r0:0≤rt) (r1:rt≤4294967295) (d0:0≤d) (d1:d≤65535) (l0 : -9223372036854775808≤rl) (l1:rl≤9223372036854775807) (hD:(time-rt+4294967296) % 4294967296=0) (hm:decide (rl<d)=false) :
 Calls Tryz.prog 51 #[.agg #[.bool true, .int .u32 rt, .int .u8 c, .int .i64 rl, .bool false], .int .u32 time, .agg #[.int .u8 c, .bool false, .int .u8 v, .int .u16 d]] w (Ev.HearR w (⟨true,rt,c,rl,false⟩,[])):=by
 have HE:=H9 (show (time-rt+4294967296) % 4294967296=(time-rt) % 4294967296 by omega)
 go_enter Tryz.func51,Tryz.ntmps51
 go_wp2
 refine bodyPost_ret (v := .tuple #[.agg #[.bool true, .int .u32 rt, .int .u8 c, .int .i64 (rl), .bool false], .slice none 0 0]) ?_ rfl ?_
 · simp [results,Tryz.results51,go_sem]
 · refine Ev.HearR.mk rfl RowsNew.nil ?_
   repeat (first|exact Below.refl _ _|refine Below.drew ?_|refine Below.setCell ?_ (by simp) _|refine Below.alloc ?_ (by simp;try omega) _)
theorem zfx (t0:0≤time) (t1:time≤4294967295) (r0:0≤rt) (r1:rt≤4294967295) (d0:0≤d) (d1:d≤65535) (l0 : -9223372036854775808≤rl) (l1:rl≤9223372036854775807) (hD:(time-rt+4294967296) % 4294967296=0) (hm:decide (rl<d)=false) :
 Calls Tryz.prog 51 #[.agg #[.bool true, .int .u32 rt, .int .u8 c, .int .i64 rl, .bool false], .int .u32 time, .agg #[.int .u8 c, .bool true, .int .u8 v, .int .u16 d]] w (Ev.HearR w (⟨true,rt,c,rl,true⟩,[⟨c,false,rt,rl⟩])):=by
 have H0:=H9 (Ev.RS.start w ⟨true,rt,c,rl,true⟩ #[.int .u8 c, .bool true, .int .u8 v, .int .u16 d])
 have HE:=H9 (show (time-rt+4294967296) % 4294967296=(time-rt) % 4294967296 by omega)
 go_enter Tryz.func51,Tryz.ntmps51
 go_wp2_with (at_builtin;refine zak rfl (.tmp 102) (.tmp 110) 78 rfl (w.heap.size+3) 89 4 16 _ Tryz.underlying78 Ev.info_key rfl (by decide) (none) 0 0 _ rfl H0.out.own [.int .u8 c, .bool false, .int .u32 rt, .int .i64 (rl)] rfl (by simp [Value.oneCell']) (by rw [Ev.RS.start_size];rfl) (by unfold maxLen;omega) (by omega) (by rw [Ev.RS.start_size];omega) ?_;intro A2 c2 w2 hown2 hg2 hlt2;have HH2:=H9 (H0.out.grown hg2 hown2);obtain ⟨s0,s1,s2,s3,s4,s5,s6,s7,s8,s9,s10,s11,s12,s13,s14,s15,s16,s17,s18,s19⟩:=HH2.out.seen;clear hown2 hg2 hlt2)
 refine bodyPost_ret (v := .tuple #[.agg #[.bool true, .int .u32 rt, .int .u8 c, .int .i64 (rl), .bool true], .slice A2 1 c2]) ?_ rfl ?_
 · simp [results,Tryz.results51,go_sem, *]
 · have HB:=H9 HH2.out.bel
   have HO:=HH2.out.own
   have HW:=H9 HO
   clear HO s0 s1 s2 s3 s4 s5 s6 s7 s8 s9 s10 s11 s12 s13 s14 s15 s16 s17 s18 s19
   refine Ev.HearR.mk rfl ?_ ?_
   · refine Owns.rowsNew (B:=w.heap.size) (base:=w.heap.size+3) (e:=89) (n:=1) (c:=c2) ?_ rfl (fun _=>rfl)
     have HX:Owns w2 (w.heap.size+3) 89 4 A2 1 c2 (List.flatMap Ev.Key.row [⟨c,false,rt,rl⟩]):=by
      have:=HW.out
      simpa [Ev.Key.row] using this
     repeat (first|with_reducible exact HX|with_reducible refine Owns.drew ?_|((with_reducible refine Owns.setCell ?_ ?_ _);rotate_left;(intro g hg;have:=(HW.out.block g hg).1;simp;omega)))
   · repeat (first|with_reducible exact HB.out|with_reducible refine Below.drew ?_|((with_reducible refine Below.setCell ?_ ?_ _);rotate_left;(simp;try omega)))
theorem zoj (re f:Bool) (t0:0≤time) (t1:time≤4294967295) (r0:0≤rt) (r1:rt≤4294967295) (d0:0≤d) (d1:d≤65535) (l0 : -9223372036854775808≤rl) (l1:rl≤9223372036854775807) (hD:2147483648≤(time-rt+4294967296) % 4294967296) (hD0:((time-rt+4294967296) % 4294967296==0)=false) (hD2:((time-rt+4294967296) % 4294967296 != 0)=true) (hD1:decide ((time-rt+4294967296) % 4294967296<2147483648)=false) :
 Calls Tryz.prog 51 #[.agg #[.bool true, .int .u32 rt, .int .u8 rc, .int .i64 rl, .bool re], .int .u32 time, .agg #[.int .u8 c, .bool f, .int .u8 v, .int .u16 d]] w (Ev.HearR w (⟨true,rt,rc,rl,re⟩,[])):=by
 have HE:=H9 (show (time-rt+4294967296) % 4294967296=(time-rt) % 4294967296 by omega)
 go_enter Tryz.func51,Tryz.ntmps51
 go_wp2
 refine bodyPost_ret (v := .tuple #[.agg #[.bool true, .int .u32 rt, .int .u8 rc, .int .i64 (rl), .bool re], .slice none 0 0]) ?_ rfl ?_
 · simp [results,Tryz.results51,go_sem]
 · refine Ev.HearR.mk rfl RowsNew.nil ?_
   repeat (first|exact Below.refl _ _|refine Below.drew ?_|refine Below.setCell ?_ (by simp) _|refine Below.alloc ?_ (by simp;try omega) _)
theorem zkz (re f:Bool) (t0:0≤time) (t1:time≤4294967295) (r0:0≤rt) (r1:rt≤4294967295) (d0:0≤d) (d1:d≤65535) (l0 : -9223372036854775808≤rl) (l1:rl≤9223372036854775807) (hD:(time-rt+4294967296) % 4294967296=0) (hc:(c==rc)=false) (hc2:(c != rc)=true) :
 Calls Tryz.prog 51 #[.agg #[.bool true, .int .u32 rt, .int .u8 rc, .int .i64 rl, .bool re], .int .u32 time, .agg #[.int .u8 c, .bool f, .int .u8 v, .int .u16 d]] w (Ev.HearR w (⟨true,rt,rc,rl,re⟩,[])):=by
 have HE:=H9 (show (time-rt+4294967296) % 4294967296=(time-rt) % 4294967296 by omega)
 go_enter Tryz.func51,Tryz.ntmps51
 go_wp2
 refine bodyPost_ret (v := .tuple #[.agg #[.bool true, .int .u32 rt, .int .u8 rc, .int .i64 (rl), .bool re], .slice none 0 0]) ?_ rfl ?_
 · simp [results,Tryz.results51,go_sem]
 · refine Ev.HearR.mk rfl RowsNew.nil ?_
   repeat (first|exact Below.refl _ _|refine Below.drew ?_|refine Below.setCell ?_ (by simp) _|refine Below.alloc ?_ (by simp;try omega) _)
theorem zok (f:Bool) (t0:0≤time) (t1:time≤4294967295) (r0:0≤rt) (r1:rt≤4294967295) (d0:0≤d) (d1:d≤65535) (l0 : -9223372036854775808≤rl) (l1:rl≤9223372036854775807) (hD:(time-rt+4294967296) % 4294967296=0) :
 Calls Tryz.prog 51 #[.agg #[.bool true, .int .u32 rt, .int .u8 c, .int .i64 rl, .bool true], .int .u32 time, .agg #[.int .u8 c, .bool f, .int .u8 v, .int .u16 d]] w (Ev.HearR w (⟨true,rt,c,rl,true⟩,[])):=by
 have HE:=H9 (show (time-rt+4294967296) % 4294967296=(time-rt) % 4294967296 by omega)
 go_enter Tryz.func51,Tryz.ntmps51
 go_wp2
 refine bodyPost_ret (v := .tuple #[.agg #[.bool true, .int .u32 rt, .int .u8 c, .int .i64 (rl), .bool true], .slice none 0 0]) ?_ rfl ?_
 · simp [results,Tryz.results51,go_sem]
 · refine Ev.HearR.mk rfl RowsNew.nil ?_
   repeat (first|exact Below.refl _ _|refine Below.drew ?_|refine Below.setCell ?_ (by simp) _|refine Below.alloc ?_ (by simp;try omega) _)
end
end Go.Proofs.YtahbecinkciahaaGreat
namespace Go.Proofs.YtahbecinkciahaaGreat
open Go.RowKit
section
variable (on:Bool) (rt rc rl:Int) (re:Bool) (time c:Int) (f:Bool) (v d:Int) (w:World)
theorem Ev.hear_off:Ev.hear ⟨false,rt,rc,rl,re⟩ time ⟨c,f,v,d⟩=(⟨true,time,c,d,f⟩,[⟨c,true,time,0⟩]++(if f=true then [⟨c,false,time,d⟩] else [])):=by simp [Ev.hear]
theorem Ev.hear_on (h1:1≤(time-rt) % 4294967296) (h2:(time-rt) % 4294967296<2147483648):Ev.hear ⟨true,rt,rc,rl,true⟩ time ⟨c,f,v,d⟩=(⟨true,time,c,d,f⟩,[⟨c,true,time,0⟩]++(if f=true then [⟨c,false,time,d⟩] else [])):=by simp [Ev.hear,h1,h2]
theorem Ev.hear_pre (h1:1≤(time-rt) % 4294967296) (h2:(time-rt) % 4294967296<2147483648):Ev.hear ⟨true,rt,rc,rl,false⟩ time ⟨c,f,v,d⟩=(⟨true,time,c,d,f⟩,[⟨rc,false,rt,rl⟩,⟨c,true,time,0⟩]++(if f=true then [⟨c,false,time,d⟩] else [])):=by simp [Ev.hear,h1,h2]
theorem Ev.hear_same (h:(time-rt) % 4294967296=0):Ev.hear ⟨true,rt,c,rl,false⟩ time ⟨c,f,v,d⟩=(⟨true,rt,c,max rl d,f⟩,if f=true then [⟨c,false,rt,max rl d⟩] else []):=by simp [Ev.hear,h]
theorem Ev.hear_none (h1:¬(1≤(time-rt) % 4294967296∧(time-rt) % 4294967296<2147483648)) (h2:¬((time-rt) % 4294967296=0∧c=rc∧re=false)):Ev.hear ⟨true,rt,rc,rl,re⟩ time ⟨c,f,v,d⟩=(⟨true,rt,rc,rl,re⟩,[]):=by
 unfold Ev.hear
 rw [if_neg (by rintro (h|h);cases h;exact h1 h),if_neg h2]
theorem ztm (t0:0≤time) (t1:time≤4294967295) (d0:0≤d) (d1:d≤65535) (l0 : -9223372036854775808≤rl) (l1:rl≤9223372036854775807) :
 Calls Tryz.prog 97 #[.agg #[.bool on, .int .u32 rt, .int .u8 rc, .int .i64 rl, .bool re], .int .u32 time, .agg #[.int .u8 c, .bool f, .int .u8 v, .int .u16 d]] w (Ev.HearR w (Ev.hear ⟨on,rt,rc,rl,re⟩ time ⟨c,f,v,d⟩)):=by
 cases on
 · rw [Ev.hear_off]
   cases f
   · exact zoq rt rc rl time c v d w t0 t1 d0 d1 re
   · exact zor rt rc rl time c v d w t0 t1 d0 d1 re
 · by_cases h1:1≤(time-rt) % 4294967296∧(time-rt) % 4294967296<2147483648
   · obtain ⟨h1,h2⟩:=h1
     cases re
     · rw [Ev.hear_pre rt rc rl time c f v d h1 h2]
       cases f
       · exact zos rt rc rl time c v d w t0 t1 d0 d1 h1 h2
       · exact zot rt rc rl time c v d w t0 t1 d0 d1 h1 h2
     · rw [Ev.hear_on rt rc rl time c f v d h1 h2]
       cases f
       · exact zrj rt rc rl time c v d w t0 t1 d0 d1 h1 h2
       · exact zrk rt rc rl time c v d w t0 t1 d0 d1 h1 h2
   · by_cases h2:(time-rt) % 4294967296=0∧c=rc∧re=false
     · obtain ⟨h2,rfl,rfl⟩:=h2
       rw [Ev.hear_same rt rl time c f v d h2]
       cases f
       · exact zls rt rl time c v d w t0 t1 d0 d1 l0 l1 h2
       · exact zlt rt rl time c v d w t0 t1 d0 d1 l0 l1 h2
     · rw [Ev.hear_none rt rc rl re time c f v d h1 h2]
       by_cases h3:(time-rt) % 4294967296=0
       · by_cases h4:c=rc
         · subst h4
           have:re=true:=by
            cases re
            · exact absurd ⟨h3,rfl,rfl⟩ h2
            · rfl
           subst this
           exact zrm rt rl time c v d w f t0 t1 d0 d1 l0 l1 h3
         · exact zou rt rc rl time c v d w re f t0 t1 d0 d1 l0 l1 h3 (by simpa using h4)
       · exact zrl rt rc rl time c v d w re f t0 t1 d0 d1 l0 l1 (by omega) (by simpa using h3) (by simp;omega)
theorem zrb (t0:0≤time) (t1:time≤4294967295) (r0:0≤rt) (r1:rt≤4294967295) (d0:0≤d) (d1:d≤65535) (l0 : -9223372036854775808≤rl) (l1:rl≤9223372036854775807) :
 Calls Tryz.prog 51 #[.agg #[.bool on, .int .u32 rt, .int .u8 rc, .int .i64 rl, .bool re], .int .u32 time, .agg #[.int .u8 c, .bool f, .int .u8 v, .int .u16 d]] w (Ev.HearR w (Ev.hear ⟨on,rt,rc,rl,re⟩ time ⟨c,f,v,d⟩)):=by
 have hE:(time-rt+4294967296) % 4294967296=(time-rt) % 4294967296:=by omega
 cases on
 · rw [Ev.hear_off]
   cases f
   · exact zkv rt rc rl time c v d w re t0 t1 r0 r1 d0 d1 l0 l1
   · exact zkw rt rc rl time c v d w re t0 t1 r0 r1 d0 d1 l0 l1
 · by_cases h1:1≤(time-rt) % 4294967296∧(time-rt) % 4294967296<2147483648
   · obtain ⟨h1,h2⟩:=h1
     cases re
     · rw [Ev.hear_pre rt rc rl time c f v d h1 h2]
       cases f
       · exact zkx rt rc rl time c v d w t0 t1 r0 r1 d0 d1 l0 l1 (by omega) (by omega)
       · exact zky rt rc rl time c v d w t0 t1 r0 r1 d0 d1 l0 l1 (by omega) (by omega)
     · rw [Ev.hear_on rt rc rl time c f v d h1 h2]
       cases f
       · exact zoh rt rc rl time c v d w t0 t1 r0 r1 d0 d1 l0 l1 (by omega) (by omega)
       · exact zoi rt rc rl time c v d w t0 t1 r0 r1 d0 d1 l0 l1 (by omega) (by omega)
   · by_cases h2:(time-rt) % 4294967296=0∧c=rc∧re=false
     · obtain ⟨h2,rfl,rfl⟩:=h2
       rw [Ev.hear_same rt rl time c f v d h2]
       by_cases hm:rl<d
       · rw [show max rl d=d by omega]
         cases f
         · exact zfu rt rl time c v d w t0 t1 r0 r1 d0 d1 l0 l1 (by omega) hm
         · exact zfv rt rl time c v d w t0 t1 r0 r1 d0 d1 l0 l1 (by omega) hm
       · rw [show max rl d=rl by omega]
         cases f
         · exact zfw rt rl time c v d w t0 t1 r0 r1 d0 d1 l0 l1 (by omega) (by simpa using hm)
         · exact zfx rt rl time c v d w t0 t1 r0 r1 d0 d1 l0 l1 (by omega) (by simpa using hm)
     · rw [Ev.hear_none rt rc rl re time c f v d h1 h2]
       by_cases h3:(time-rt) % 4294967296=0
       · by_cases h4:c=rc
         · subst h4
           have:re=true:=by
            cases re
            · exact absurd ⟨h3,rfl,rfl⟩ h2
            · rfl
           subst this
           exact zok rt rl time c v d w f t0 t1 r0 r1 d0 d1 l0 l1 (by omega)
         · exact zkz rt rc rl time c v d w re f t0 t1 r0 r1 d0 d1 l0 l1 (by omega) (by simpa using h4) (by simpa using h4)
       · exact zoj rt rc rl time c v d w re f t0 t1 r0 r1 d0 d1 l0 l1 (by omega) (by simp;omega) (by simp;omega) (by simp;omega)
end
theorem RowsAt.key {w:World} {B:Nat} {b off:Nat} {l:List Ev.Key} (h:∀ (i:Nat) (a:Ev.Key),l[i]? = some a→∀ (j:Nat) (v:Value),(Ev.Key.row a)[j]? = some v→w.cell? ⟨b,off+i*4+j,none⟩=some v) {k:Nat} {a:Ev.Key} (ha:l[k]? = some a) :
 w.cell? ⟨b,off+k*4,none⟩=some (.int .u8 a.code)∧w.cell? ⟨b,off+k*4+1,none⟩=some (.bool a.down)∧w.cell? ⟨b,off+k*4+2,none⟩=some (.int .u32 a.time)∧w.cell? ⟨b,off+k*4+3,none⟩=some (.int .i64 a.len) :=
 ⟨h k a ha 0 _ rfl,h k a ha 1 _ rfl,h k a ha 2 _ rfl,h k a ha 3 _ rfl⟩
end Go.Proofs.YtahbecinkciahaaGreat
namespace Go.Proofs.YtahbecinkciahaaGreat
attribute [local go_sem ↓] zae zaf
attribute [local go_sem] zad zag
open Go.RowKit
def RecvK (R:Sb.Pt×Int×List Sb.Sd×Int) (w:World) (e:Ending) (w':World):Prop :=
 ∃ (A':Option Addr) (n' c':Nat) (l':List TW) (SA:Option Addr) (sc m:Nat) (ks:List TY),e = .returned (.tuple #[.agg (PA R.1 A' n' c'), .int .u8 R.2.1, .slice SA m sc, .int .u8 R.2.2.2])∧l'.map TW.w=R.1.jt.q∧l'.length=n'∧n'≤c'∧c'≤maxLen∧WtsIn w' w.heap.size w'.heap.size A' l'∧ks.map TY.s=R.2.2.1∧ks.length=m∧Sks w' w.heap.size SA ks∧Below w.heap.size w w'
theorem zgk (p:Sb.Pt) (hw:p.wf) (A:Option Addr) (l:List TW) (n c:Nat) (X:Array Value) (hX:X=PA p A n c) (w:World) (hq:l.map TW.w=p.jt.q) (hn:l.length=n) (hl:n≤100000) (hcap:n≤c) (hcm:c≤maxLen) (hA:Wts w w.heap.size A l) (hK:∀ a∈l,I64 a.w.m.sq) (now time c0 v0 d0:Int) (f0:Bool) (t0:0≤time) (t1:time≤4294967295) (d1:0≤d0) (d2:d0≤65535) (l0 : -9223372036854775808≤p.hd.len) (l1:p.hd.len≤9223372036854775807) (he:(Jb.run p.jt now).2.2=0) (hO:∀ a∈(Jb.run p.jt now).2.1,OkW a) (hm:(Jb.run p.jt now).2.1.length≤99999) :
 Calls Tryz.prog 43 #[.agg X, .int .i64 now, .int .u32 time, .agg #[.int .u8 c0, .bool f0, .int .u8 v0, .int .u16 d0]] w (RecvK ({ (Sb.run p now).1 with hd:=(Ev.hear p.hd time ⟨c0,f0,v0,d0⟩).1 }, 1,(Sb.run p now).2++(if (Ev.hear p.hd time ⟨c0,f0,v0,d0⟩).2=[] then [] else [⟨now,[],(Ev.hear p.hd time ⟨c0,f0,v0,d0⟩).2⟩]),0) w):=by
 have B0:=H9 (((PB.new w X hX).push (.cells #[.int .u8 c0, .bool f0, .int .u8 v0, .int .u16 d0] 108)).push (.cells (PA Sb.Pt.zero none 0 0) 48))
 have BT:=H9 ((Blk.new1 w (.cells X 48) 108 #[.int .u8 c0, .bool f0, .int .u8 v0, .int .u16 d0]).push (.cells (PA Sb.Pt.zero none 0 0) 48))
 have BR:=H9 (Blk.new2 w (.cells X 48) (.cells #[.int .u8 c0, .bool f0, .int .u8 v0, .int .u16 d0] 108) 48 (PA Sb.Pt.zero none 0 0))
 have U0:=H9 ((((Bel.refl w).push (.cells X 48)).push (.cells #[.int .u8 c0, .bool f0, .int .u8 v0, .int .u16 d0] 108)).push (.cells (PA Sb.Pt.zero none 0 0) 48))
 have HA:=H9 (((hA.push (.cells X 48)).push (.cells #[.int .u8 c0, .bool f0, .int .u8 v0, .int .u16 d0] 108)).push (.cells (PA Sb.Pt.zero none 0 0) 48))
 have k1:=H9 fun (W:World) hW=>zcn p hw A l n c (PA p A n c) rfl W hq hn hl hcap hcm hW hK now 1 he hO (Nat.le_trans hm (by decide))
 unfold PlayR at k1
 have k2:∀ W,Calls Tryz.prog 97 #[.agg #[.bool p.hd.on, .int .u32 p.hd.time, .int .u8 p.hd.code, .int .i64 p.hd.len, .bool p.hd.ended], .int .u32 time, .agg #[.int .u8 c0, .bool f0, .int .u8 v0, .int .u16 d0]] W (Ev.HearR W (Ev.hear p.hd time ⟨c0,f0,v0,d0⟩)):=fun W=>ztm p.hd.on p.hd.time p.hd.code p.hd.len p.hd.ended time c0 f0 v0 d0 W t0 t1 d1 d2 l0 l1
 have hnk:∀ a∈(Sb.run p now).2,a.ks=[]:=fun a ha=>zby _ _ a ha
 have hsl:(Sb.run p now).2.length≤99999:=by
  have h:∀ (l:List Jb.Wt) (s:Int),(Sb.sounds s l).2.length=l.length:=fun l=>by
   induction l with
   | nil=>intro s;rfl
   | cons a l ih=>intro s;show (_::_).length=_;rw [List.length_cons,ih,List.length_cons]
  show (Sb.sounds _ _).2.length≤_
  rw [h];exact hm
 have hqd:(Sb.run p now).1.hd=p.hd:=rfl
 generalize hHK:Ev.hear p.hd time ⟨c0,f0,v0,d0⟩=HK at k2 ⊢
 clear hHK
 obtain ⟨H,ks⟩:=HK
 unfold Ev.HearR at k2
 rw [zri H] at k2
 simp only at k2 ⊢
 generalize Sb.run p now=R at *
 obtain ⟨q,R2⟩:=R
 simp only at k1 hnk hsl hqd ⊢
 rw [← hqd] at k2
 replace k2:=H9 k2
 have HNK:=H9 hnk
 obtain ⟨more,hmore⟩:∃ m:List Sb.Sd,m=if ks=[] then [] else [⟨now,[],ks⟩]:=⟨_,rfl⟩
 rw [← hmore]
 have HM:=H9 hmore
 clear hmore
 clear hX hA hK hq he hO hm hw hnk hqd l0 l1 hcap hcm
 go_enter Tryz.func43,Tryz.ntmps43
 go_upto_region 1 with fail
 change Code.wp _ _ _ _ (((w.alloc (Obj.cells X 48)).alloc (Obj.cells #[.int .u8 c0, .bool f0, .int .u8 v0, .int .u16 d0] 108)).alloc (Obj.cells (PA Sb.Pt.zero none 0 0) 48))
 obtain ⟨W,hW⟩:∃ W,W=((w.alloc (Obj.cells X 48)).alloc (Obj.cells #[.int .u8 c0, .bool f0, .int .u8 v0, .int .u16 d0] 108)).alloc (Obj.cells (PA Sb.Pt.zero none 0 0) 48):=⟨_,rfl⟩
 rw [← hW] at B0 BT BR U0 HA ⊢
 clear hW
 go_wp2_with (first|(refine zab rfl 48 (.tmp 4) rfl (w.heap.size) 0 rfl 48 (PL p A n c) B0.out 48 _ Tryz.underlying48 zah (show 0+48≤48 by decide) (PA p A n c) (by rfl) rfl ?_)|fail)
 refine (k1.out _ HA.out).mono ?_
 rintro e w2 ⟨A2,n2,c2,l2,SA,sc,m,ls,base,mid,rfl,e1,e2,e3,e4,e5,em1,em2,e6,e7,e8,hb2⟩
 have hus:=U0.out.size
 have hW1:=BR.out.lt
 have hAm:Hid (∀ g,ownB SA=some g→mid≤g):=H9 fun g e=>Nat.le_trans em1 (e8.own.block g e).1
 replace e8:=e8.lower e7
 clear e7
 have hs2:=hb2.size
 replace U0:=H9 (U0.out.later hb2)
 replace B0:=H9 (PB.later B0.out hb2)
 replace BT:=H9 (BT.out.later hb2)
 replace BR:=H9 (BR.out.later hb2)
 have hLS:ls.length=m:=e8.len
 have hNK:Hid (∀ a∈ls,a.s.ks=[]):=H9 fun a ha=>HNK.out a.s (by rw [← e6];exact List.mem_map_of_mem ha)
 have hml:m≤99999:=by rw [← hLS];have:=congrArg List.length e6;simp at this;omega
 have HE1:=H9 e1
 have HE2:=H9 e2
 have HE5:=H9 e5
 have HE6:=H9 e6
 have HE8:=H9 e8
 have HLS:=H9 hLS
 clear hb2 HA e1 e2 e5 e6 e8 k1 HNK hsl hLS
 go_upto_region 2 with (first|(refine zac rfl 48 (.tmp 4) (.tmp 21) rfl (w.heap.size) 0 rfl 48 (PL p A n c) B0.out (PL q A2 n2 c2) rfl zah (show 0+48≤48 by decide) rfl (PL q A2 n2 c2) rfl ?_;intro WG BG OG)|fail)
 replace U0:=H9 (OG.bel U0.out (Nat.le_refl _))
 replace BT:=H9 (OG.blk BT.out (by omega))
 replace BR:=H9 (OG.blk BR.out (by omega))
 replace HE5:=H9 (HE5.out.only OG (by omega))
 replace HE8:=H9 (HE8.out.only OG (by omega))
 have hGs:mid≤WG.heap.size:=by rw [OG.2];exact em2
 replace B0:=H9 BG
 have hWG:W.heap.size≤WG.heap.size:=by rw [OG.2];exact hs2
 clear BG OG em2
 go_upto_region 4 with fail
 go_wp2_with (first|(refine zab rfl 46 (.tmp 32) rfl (w.heap.size) 40 rfl 48 (PL q A2 n2 c2) B0.out 5 _ Tryz.underlying46 zcy (show 40+5≤48 by decide) (#[.bool q.hd.on, .int .u32 q.hd.time, .int .u8 q.hd.code, .int .i64 q.hd.len, .bool q.hd.ended]) (by rfl) rfl ?_)|(refine zab rfl 108 (.tmp 7) rfl (w.heap.size+1) 0 rfl 108 ([.int .u8 c0, .bool f0, .int .u8 v0, .int .u16 d0]) BT.out 4 _ Tryz.underlying108 zel (show 0+4≤4 by decide) (#[.int .u8 c0, .bool f0, .int .u8 v0, .int .u16 d0]) (by rfl) rfl ?_)|fail)
 refine (k2.out _).mono ?_
 rintro e w3 ⟨KA,kc,rfl,hkr,hb3⟩
 have hs3:=hb3.size
 have hWGl:=BR.out.lt
 replace U0:=H9 (U0.out.later hb3)
 replace B0:=H9 (PB.later B0.out hb3)
 replace BR:=H9 (BR.out.later hb3)
 replace HE5:=H9 (HE5.out.below hb3 hGs)
 have hAo:Hid (∀ g,ownB SA=some g→W.heap.size≤g∧g<WG.heap.size):=H9 fun g e=>HE8.out.own.block g e
 replace HE8:=H9 (HE8.out.below hb3)
 have HKR:=H9 hkr
 clear hkr hb3 k2 BT
 have BH:=H9 (Blk.new w3 46 #[.bool H.on, .int .u32 H.time, .int .u8 H.code, .int .i64 H.len, .bool H.ended])
 obtain ⟨g3,hg3⟩:∃ g,g=w3.heap.size:=⟨_,rfl⟩
 have hg3':WG.heap.size≤g3:=by rw [hg3];exact hs3
 obtain ⟨W4,hW4⟩:∃ W,W=w3.alloc (Obj.cells #[.bool H.on, .int .u32 H.time, .int .u8 H.code, .int .i64 H.len, .bool H.ended] 46):=⟨_,rfl⟩
 have hb4:Below w3.heap.size w3 W4:=by rw [hW4];exact (Below.refl _ _).alloc (Nat.le_refl _) _
 replace U0:=H9 (U0.out.later hb4)
 replace B0:=H9 (PB.later B0.out hb4)
 replace BR:=H9 (BR.out.later hb4)
 replace HE5:=H9 (HE5.out.below hb4 (by omega))
 replace HE8:=H9 (HE8.out.below hb4)
 replace HKR:=H9 (HKR.out.later hb4)
 have hs4:WG.heap.size≤W4.heap.size:=Nat.le_trans hs3 hb4.size
 clear hb4
 rw [← hg3,← hW4] at BH
 go_upto_region 5 with fail
 rw [← hg3]
 rw [← hW4]
 clear hW4 hg3
 go_upto_region 6 with (first|(refine zab rfl 46 (.tmp 15) rfl (g3) 0 rfl 46 ([.bool H.on, .int .u32 H.time, .int .u8 H.code, .int .i64 H.len, .bool H.ended]) BH.out 5 _ Tryz.underlying46 zcy (show 0+5≤5 by decide) (#[.bool H.on, .int .u32 H.time, .int .u8 H.code, .int .i64 H.len, .bool H.ended]) (by rfl) rfl ?_)|(refine zac rfl 46 (.tmp 40) (.tmp 39) rfl (w.heap.size) 40 rfl 48 (PL q A2 n2 c2) B0.out ([.bool H.on, .int .u32 H.time, .int .u8 H.code, .int .i64 H.len, .bool H.ended]) rfl zcy (show 40+5≤48 by decide) rfl (PL { q with hd:=H } A2 n2 c2) rfl ?_;intro WF BF OF)|fail)
 have hs5:WG.heap.size≤WF.heap.size:=by rw [OF.2];exact hs4
 replace U0:=H9 (OF.bel U0.out (Nat.le_refl _))
 replace BR:=H9 (OF.blk BR.out (by omega))
 replace HE5:=H9 (HE5.out.only OF (by omega))
 replace HE8:=H9 (HE8.out.only OF (by omega))
 have HKR2:=H9 (show RowsNew WG.heap.size WF 4 Ev.Key.row KA ks from ⟨fun h0=>by
  obtain ⟨b,off,e,hlt,hc⟩:=HKR.out.1 h0
  have:=HKR.out.2 h0 b off e
  exact ⟨b,off,e,by rw [OF.2];exact hlt,fun i a ha j v hv=>(OF.cell (show b≠w.heap.size by omega)).trans (hc i a ha j v hv)⟩,HKR.out.2⟩)
 replace B0:=H9 BF
 clear BF OF BH HKR
 obtain ⟨q2,hq2⟩:∃ q2:Sb.Pt,q2 = { q with hd:=H } := ⟨_,rfl⟩
 rw [← hq2] at B0
 have HQ2:=H9 hq2
 clear hq2
 by_cases hk0:ks=[]
 · subst hk0
   obtain rfl:more=[]:=by rw [HM.out,if_pos rfl]
   rw [List.append_nil]
   have hL0:¬(0:Int)<(([]:List Ev.Key).length:Int):=by simp
   go_upto_region 8 with fail
   go_wp2_with (first|(refine zab rfl 48 (.tmp 4) rfl (w.heap.size) 0 rfl 48 (PL q2 A2 n2 c2) B0.out 48 _ Tryz.underlying48 zah (show 0+48≤48 by decide) (PA q2 A2 n2 c2) (by rfl) rfl ?_)|(refine zac rfl 48 (.tmp 8) (.tmp 50) rfl (w.heap.size+1+1) 0 rfl 48 (PL Sb.Pt.zero none 0 0) BR.out (PL q2 A2 n2 c2) rfl zah (show 0+48≤48 by decide) rfl (PL q2 A2 n2 c2) rfl ?_;intro WI BI OI)|fail)
   have hIs:mid≤WI.heap.size:=by rw [OI.2];omega
   exact bodyPost_ret (v := .tuple #[.agg (PA q2 A2 n2 c2), .int .u8 1, .slice SA m sc, .int .u8 0]) (zar Tryz.results43 rfl (PB.load BI) rfl rfl rfl) rfl ⟨A2,n2,c2,l2,SA,sc,m,ls.map TS.ty,by rw [HQ2.out],HE1.out,HE2.out,e3,e4,((HE5.out.only OI (by omega)).less (by omega)).more hIs,by rw [ty_s];exact HE6.out,by rw [List.length_map];exact HLS.out,((HE8.out.only OI (by omega)).sks hNK.out).less (by omega),OI.bel U0.out (by omega)⟩
 · obtain rfl:more=[⟨now,[],ks⟩]:=by rw [HM.out,if_neg hk0]
   have hL0:(0:Int)<(ks.length:Int):=by have:0<ks.length:=List.length_pos_iff.2 hk0;omega
   have HX:=H9 HE8.out.own
   have h5:(m+1)*56≤140737488355328:=by omega
   have h6:m+1≤maxLen:=by unfold maxLen;omega
   have hbs5:W.heap.size≤WF.heap.size:=by omega
   have hL1:0<ks.length:=List.length_pos_iff.2 hk0
   have hL2':¬ks.length=0:=by omega
   go_upto_region 8 with (at_builtin;go_loud (refine zaq (w0:=WF) rfl _ _ 54 rfl W.heap.size 86 3 56 _ Tryz.underlying54 zdo rfl (by decide) SA m sc _ rfl HX.out [.int .i64 now, .slice none 0 0, .slice KA ks.length kc] rfl (by simp [Value.oneCell']) rfl h6 h5 hbs5 ?_);intro A9 c9 v1 qo hgr hat)
   have hAk:∀ g,ownB SA=some g→W.heap.size≤g:=fun g e=>(hAo.out g e).1
   have HSK:=H9 (HE8.out.add (a:=⟨⟨now,[],ks⟩,none,0,KA,kc⟩) hNK.out hgr qo rfl HKR2.out (fun g e=>(hAo.out g e).2) (by omega))
   replace U0:=H9 (show Bel w v1 from Below.grown U0.out hgr U0.out.size fun g e=>by have:=hAk g e;omega)
   replace BR:=H9 (BR.out.grown hgr (fun e=>by have:=hAk _ e.symm;omega))
   replace B0:=H9 (show PB v1 w.heap.size q2 A2 n2 c2 from Blk.grown B0.out hgr (fun e=>by have:=hAk _ e.symm;omega))
   replace HE5:=H9 (HE5.out.keep fun p _ h2=>show v1.cell? p=WF.cell? p by unfold World.cell?;rw [hgr.block p.block (by omega) (fun e=>by have:=hAm.out _ e.symm;omega)])
   have hv1:WF.heap.size≤v1.heap.size:=hgr.size
   clear hgr qo hat HX HE8 HKR2
   go_wp2_with (first|(refine zab rfl 48 (.tmp 4) rfl (w.heap.size) 0 rfl 48 (PL q2 A2 n2 c2) B0.out 48 _ Tryz.underlying48 zah (show 0+48≤48 by decide) (PA q2 A2 n2 c2) (by rfl) rfl ?_)|(refine zac rfl 48 (.tmp 8) (.tmp 50) rfl (w.heap.size+1+1) 0 rfl 48 (PL Sb.Pt.zero none 0 0) BR.out (PL q2 A2 n2 c2) rfl zah (show 0+48≤48 by decide) rfl (PL q2 A2 n2 c2) rfl ?_;intro WI BI OI)|fail)
   have hIs:mid≤WI.heap.size:=by rw [OI.2];omega
   exact bodyPost_ret (v := .tuple #[.agg (PA q2 A2 n2 c2), .int .u8 1, .slice A9 (m+1) c9, .int .u8 0]) (zar Tryz.results43 rfl (PB.load BI) rfl rfl rfl) rfl ⟨A2,n2,c2,l2,A9,c9,m+1,ls.map TS.ty ++ [⟨⟨now,[],ks⟩,none,0,KA,kc⟩],by rw [HQ2.out],HE1.out,HE2.out,e3,e4,((HE5.out.only OI (by omega)).less (by omega)).more hIs,by rw [List.map_append,ty_s,HE6.out];rfl,by rw [List.length_append,List.length_map,HLS.out];rfl,(HSK.out.only OI (by omega)).less (by omega),OI.bel U0.out (by omega)⟩
theorem zub {w W:World} {p:Sb.Pt} {A:Option Addr} {l:List TW} {n c:Nat} {x:Rx} {now:Int} (C:RC w p A l n c x now) (S:RS w W p A n c x) {gt:Nat} (hw:p.wf) (he:(Jb.run p.jt now).2.2=0) (hO:∀ a∈(Jb.run p.jt now).2.1,OkW a) (hm:(Jb.run p.jt now).2.1.length≤99999) (a:Act) (ha:FrB w.heap.size now gt false a):firstWp Tryz.prog rcB_code (bodyPost Tryz.prog Tryz.f11 (RecvK ((Sb.run p now).1,5,(Sb.run p now).2,0) w)) a W:=by
 obtain ⟨s,rfl,e1,e3,e5,e6,e11,e12,_⟩:=ha
 rw [r164,e1,e3,e5,e6,e11,e12]
 clear e1 e3 e5 e6 e11 e12
 have k1:=H9 fun (W:World) hW=>zcn p hw A l n c (PA p A n c) rfl W C.q C.len C.n5 C.cap C.cm hW C.sq now 5 he hO (Nat.le_trans hm (by decide))
 have hnk:∀ a∈(Sb.run p now).2,a.ks=[]:=fun a ha=>zby _ _ a ha
 have HA:=H9 C.av
 unfold PlayR at k1
 generalize Sb.run p now=R at *
 obtain ⟨q,R2⟩:=R
 simp only at k1 hnk ⊢
 have HNK:=H9 hnk
 clear hw he hO hm hnk
 refine zay ?_
 intro _ _ _ _
 go_wp2_with (first|(refine zab rfl 48 (.tmp 3) rfl (w.heap.size) 0 rfl 48 (PL p A n c) S.b0 48 _ Tryz.underlying48 zah (show 0+48≤48 by decide) (PA p A n c) (by rfl) rfl ?_)|fail)
 refine (k1.out _ (HA.out.later S.u)).mono ?_
 rintro e w2 ⟨A2,n2,c2,l2,SA,sc,m,ls,base,mid,rfl,e1,e2,e3,e4,e5,em1,em2,e6,e7,e8,hb2⟩
 have hL:=S.u.size
 have hL2:=S.b2.lt
 replace S:=S.later hb2
 have hs2:=hb2.size
 have HE1:=H9 e1
 have HE5:=H9 e5
 have HE6:=H9 e6
 have HE8:=H9 e8
 have HNK2:Hid (∀ a∈ls,a.s.ks=[]):=H9 fun a ha=>HNK.out a.s (by rw [← e6];exact List.mem_map_of_mem ha)
 clear hb2 HA e1 e5 e6 e8 k1 HNK
 go_wp2_with (first|(refine zac rfl 48 (.tmp 6) (.tmp 63) rfl (w.heap.size+1+1) 0 rfl 48 (PL Sb.Pt.zero none 0 0) S.b2 (PL q A2 n2 c2) rfl zah (show 0+48≤48 by decide) rfl (PL q A2 n2 c2) rfl ?_;intro WI BI OI)|fail)
 exact bodyPost_ret (v := .tuple #[.agg (PA q A2 n2 c2), .int .u8 5, .slice SA m sc, .int .u8 0]) (zar Tryz.results11 rfl (PB.load BI) rfl rfl rfl) rfl ⟨A2,n2,c2,l2,SA,sc,m,ls.map TS.ty,rfl,HE1.out,e2,e3,e4,((HE5.out.only OI (by omega)).less (by omega)).more (by rw [OI.2];omega),by rw [ty_s];exact HE6.out,by rw [List.length_map];exact HE8.out.len,((HE8.out.only OI (by omega)).sks HNK2.out).less (by omega),OI.bel S.u (by omega)⟩
theorem zuc {w W:World} {p:Sb.Pt} {A:Option Addr} {l:List TW} {n c:Nat} {x:Rx} {now:Int} (C:RC w p A l n c x now) (S:RS w W p A n c x) {gt:Nat} {on:Bool} {fn:Int} (hw:p.wf) (he:(Jb.run p.jt now).2.2=0) (hO:∀ a∈(Jb.run p.jt now).2.1,OkW a) (hm:(Jb.run p.jt now).2.1.length≤99999) (a:Act) (ha:FrU w.heap.size now gt on fn false a):firstWp Tryz.prog rcS_code (bodyPost Tryz.prog Tryz.f11 (RecvK ((Sb.run p now).1,5,(Sb.run p now).2,0) w)) a W:=by
 obtain ⟨s,rfl,e1,e3,e5,e6,e11,e13,e15,e16,_⟩:=ha
 rw [r164,e1,e3,e5,e6,e11,e13,e15,e16]
 clear e1 e3 e5 e6 e11 e13 e15 e16
 have k1:=H9 fun (W:World) hW=>zcn p hw A l n c (PA p A n c) rfl W C.q C.len C.n5 C.cap C.cm hW C.sq now 5 he hO (Nat.le_trans hm (by decide))
 have hnk:∀ a∈(Sb.run p now).2,a.ks=[]:=fun a ha=>zby _ _ a ha
 have HA:=H9 C.av
 unfold PlayR at k1
 generalize Sb.run p now=R at *
 obtain ⟨q,R2⟩:=R
 simp only at k1 hnk ⊢
 have HNK:=H9 hnk
 clear hw he hO hm hnk
 refine zay ?_
 intro _ _ _ _
 go_wp2_with (first|(refine zab rfl 48 (.tmp 3) rfl (w.heap.size) 0 rfl 48 (PL p A n c) S.b0 48 _ Tryz.underlying48 zah (show 0+48≤48 by decide) (PA p A n c) (by rfl) rfl ?_)|fail)
 refine (k1.out _ (HA.out.later S.u)).mono ?_
 rintro e w2 ⟨A2,n2,c2,l2,SA,sc,m,ls,base,mid,rfl,e1,e2,e3,e4,e5,em1,em2,e6,e7,e8,hb2⟩
 have hL:=S.u.size
 have hL2:=S.b2.lt
 replace S:=S.later hb2
 have hs2:=hb2.size
 have HE1:=H9 e1
 have HE5:=H9 e5
 have HE6:=H9 e6
 have HE8:=H9 e8
 have HNK2:Hid (∀ a∈ls,a.s.ks=[]):=H9 fun a ha=>HNK.out a.s (by rw [← e6];exact List.mem_map_of_mem ha)
 clear hb2 HA e1 e5 e6 e8 k1 HNK
 go_wp2_with (first|(refine zac rfl 48 (.tmp 6) (.tmp 86) rfl (w.heap.size+1+1) 0 rfl 48 (PL Sb.Pt.zero none 0 0) S.b2 (PL q A2 n2 c2) rfl zah (show 0+48≤48 by decide) rfl (PL q A2 n2 c2) rfl ?_;intro WI BI OI)|fail)
 exact bodyPost_ret (v := .tuple #[.agg (PA q A2 n2 c2), .int .u8 5, .slice SA m sc, .int .u8 0]) (zar Tryz.results11 rfl (PB.load BI) rfl rfl rfl) rfl ⟨A2,n2,c2,l2,SA,sc,m,ls.map TS.ty,rfl,HE1.out,e2,e3,e4,((HE5.out.only OI (by omega)).less (by omega)).more (by rw [OI.2];omega),by rw [ty_s];exact HE6.out,by rw [List.length_map];exact HE8.out.len,((HE8.out.only OI (by omega)).sks HNK2.out).less (by omega),OI.bel S.u (by omega)⟩
theorem zxc {w W:World} {p:Sb.Pt} {A:Option Addr} {l:List TW} {n c:Nat} {x:Rx} {now:Int} (C:RC w p A l n c x now) (S:RS w W p A n c x) {gt:Nat} {on:Bool} {fn:Int} (h101:x.ty=101) (T:Ev.Tone) (BT:Blk W gt 108 #[.int .u8 T.code, .bool T.fin, .int .u8 T.vol, .int .u16 T.dur]) (d1:0≤T.dur) (d2:T.dur≤65535) (l0 : -9223372036854775808≤p.hd.len) (l1:p.hd.len≤9223372036854775807) (hw:p.wf) (he:(Jb.run p.jt now).2.2=0) (hO:∀ a∈(Jb.run p.jt now).2.1,OkW a) (hm:(Jb.run p.jt now).2.1.length≤99999) (a:Act) (ha:FrU w.heap.size now gt on fn true a):firstWp Tryz.prog rcS_code (bodyPost Tryz.prog Tryz.f11 (RecvK ({ (Sb.run p now).1 with hd:=(Ev.hear p.hd x.ti T).1 }, 1,(Sb.run p now).2++(if (Ev.hear p.hd x.ti T).2=[] then [] else [⟨now,[],(Ev.hear p.hd x.ti T).2⟩]),0) w)) a W:=by
 obtain ⟨s,rfl,e1,e3,e5,e6,e11,e13,e15,e16,_⟩:=ha
 rw [r164,e1,e3,e5,e6,e11,e13,e15,e16]
 clear e1 e3 e5 e6 e11 e13 e15 e16
 obtain ⟨R,hR⟩:∃ R:Sb.Pt×Int×List Sb.Sd×Int,R=({ (Sb.run p now).1 with hd:=(Ev.hear p.hd x.ti T).1 }, 1,(Sb.run p now).2++(if (Ev.hear p.hd x.ti T).2=[] then [] else [⟨now,[],(Ev.hear p.hd x.ti T).2⟩]),0):=⟨_,rfl⟩
 rw [← hR]
 have k1:=H9 fun (W:World) (hW:Wts W W.heap.size A l)=>(show Calls Tryz.prog 43 #[.agg (PA p A n c), .int .i64 now, .int .u32 x.ti, .agg #[.int .u8 T.code, .bool T.fin, .int .u8 T.vol, .int .u16 T.dur]] W (RecvK R W) from by
  rw [hR]
  exact zgk p hw A l n c (PA p A n c) rfl W C.q C.len C.n5 C.cap C.cm hW C.sq now x.ti T.code T.vol T.dur T.fin C.t0 C.t1 d1 d2 l0 l1 he hO hm)
 have HA:=H9 C.av
 unfold RecvK at k1 ⊢
 clear hR
 obtain ⟨q,v,sds,er⟩:=R
 simp only at k1 ⊢
 replace BT:=H9 BT
 clear hw he hO hm d1 d2 l0 l1
 have x1:=S.c1
 have x3:=S.c3
 rw [h101] at x1
 clear h101
 refine zay ?_
 intro _ _ _ _
 go_upto_region 19 with fail
 go_wp2_with (first|(refine zab rfl 48 (.tmp 3) rfl (w.heap.size) 0 rfl 48 (PL p A n c) S.b0 48 _ Tryz.underlying48 zah (show 0+48≤48 by decide) (PA p A n c) (by rfl) rfl ?_)|(refine zab rfl 108 (.tmp 11) rfl (gt) 0 rfl 108 ([.int .u8 T.code, .bool T.fin, .int .u8 T.vol, .int .u16 T.dur]) BT.out 4 _ Tryz.underlying108 zel (show 0+4≤4 by decide) (#[.int .u8 T.code, .bool T.fin, .int .u8 T.vol, .int .u16 T.dur]) (by rfl) rfl ?_)|fail)
 refine (k1.out _ (HA.out.later S.u)).mono ?_
 rintro e w2 ⟨A2,n2,c2,l2,SA,sc,m,ks,rfl,e1,e2,e3,e4,e5,e6,e7,e8,hb2⟩
 have hL:=S.u.size
 have hL2:=S.b2.lt
 replace S:=S.later hb2
 have hs2:=hb2.size
 have HE1:=H9 e1
 have HE5:=H9 e5
 have HE6:=H9 e6
 have HE8:=H9 e8
 clear hb2 HA e1 e5 e6 e8 k1 x1 x3 BT
 go_wp2_with (first|(refine zac rfl 48 (.tmp 6) (.tmp 99) rfl (w.heap.size+1+1) 0 rfl 48 (PL Sb.Pt.zero none 0 0) S.b2 (PL q A2 n2 c2) rfl zah (show 0+48≤48 by decide) rfl (PL q A2 n2 c2) rfl ?_;intro WI BI OI)|fail)
 exact bodyPost_ret (v := .tuple #[.agg (PA q A2 n2 c2), .int .u8 v, .slice SA m sc, .int .u8 er]) (zar Tryz.results11 rfl (PB.load BI) rfl rfl rfl) rfl ⟨A2,n2,c2,l2,SA,sc,m,ks,rfl,HE1.out,e2,e3,e4,((HE5.out.only OI (by omega)).less (by omega)).more (by rw [OI.2];exact Nat.le_refl _),HE6.out,e7,(HE8.out.only OI (by omega)).less (by omega),OI.bel S.u (by omega)⟩
end Go.Proofs.YtahbecinkciahaaGreat
namespace Go.Proofs.YtahbecinkciahaaGreat.Sb
open Go.RowKit
structure NumI (sr:Int) (p:Pt) (i row many:Nat):Prop where
 codec:p.codec=8
 src:p.src=sr
 seq:p.seq=(many:Int)
 time:p.time=160*(i:Int)
 below:p.below=min (row:Int) 10
 cv:p.cv=0
 ci:p.ci=0
 tn:p.tn=Ev.Snd.zero
 jt:p.jt=(Jb.new 40 200).1
 tk:p.tk=Pk.Tr.zero
 ht:p.ht=0
 pk:p.pk=(many:Int)
 oc:0≤p.oc∧p.oc≤4294967295
 seed:p.seed=sr
 le:many≤i
 i60:i≤60
def rowN (row:Nat) (zs:List Int):Nat:=if Ev.lev zs<60 then 0 else row+1
theorem jb40:Jb.valid (Jb.new 40 200).1=true∧(Jb.new 40 200).1.q=[]∧(Jb.new 40 200).2=0:=by decide +kernel
theorem tn0:Ev.Snd.zero.valid=true:=by decide
theorem NumI.valid {src:Int} {p:Pt} {i row many:Nat} (h:NumI src p i row many):p.valid=true:=by
 unfold Pt.valid
 have hn:p.near:=by unfold Pt.near;rw [h.tk,h.ht];decide
 rw [h.codec,h.cv,h.ci,h.jt,h.tn,jb40.1,tn0,decide_eq_true hn]
 decide
theorem NumI.wf {src:Int} {p:Pt} {i row many:Nat} (h:NumI src p i row many) (hs:0≤src∧src≤4294967295):p.wf:=by
 have h1:=h.le
 have h2:=h.i60
 constructor
 · rw [h.codec];omega
 · rw [h.src];exact hs
 · rw [h.seq];omega
 · rw [h.time];omega
 · rw [h.below];omega
 · rw [h.tn];decide
 · rw [h.tn];decide
 · rw [h.tn];decide
 · rw [h.seed];exact hs
 · rw [h.pk];omega
 · exact h.oc
theorem NumI.start {src:Int} (hs:0≤src∧src≤4294967295):NumI src (new 8 src 40 200).1 0 0 0∧(new 8 src 40 200).2=0:=by
 have e:new 8 src 40 200=({ Pt.zero with codec:=8,src:=src,mrk:=true,jt:=(Jb.new 40 200).1,seed:=src }, 0):=by
  unfold new
  rw [if_neg (by decide),if_pos (by decide)]
 rw [e]
 exact ⟨⟨rfl,rfl,rfl,rfl,rfl,rfl,rfl,rfl,rfl,rfl,rfl,rfl,(show (0:Int)≤0∧(0:Int)≤4294967295 by decide),rfl,Nat.le_refl _,by omega⟩,rfl⟩
theorem NumI.step {src:Int} {p:Pt} {i row many:Nat} (h:NumI src p i row many) (zs:List Int) (hi:i<60) (hl:zs.length=160) :
 ∃ more:Nat,(send0 p zs).2.length=more∧more≤1∧(more=0↔10<rowN row zs)∧NumI src (send0 p zs).1 (i+1) (rowN row zs) (many+more) ∧
  ∀ k∈(send0 p zs).2,k.sq=(many:Int)∧k.ti=160*(i:Int)∧k.src=src∧((k.ty=13)↔rowN row zs=10):=by
 have h1:=h.le
 have hq:Ev.quiet p.below zs=min (rowN row zs:Int) 10:=by
  unfold Ev.quiet rowN
  rw [h.below]
  split<;>omega
 have ht:¬(p.tn.on=true∨p.tn.ends≠0):=by rw [h.tn];decide
 unfold send0
 rw [if_neg ht,hq]
 by_cases hs:min (rowN row zs:Int) 10=10
 · rw [if_pos hs]
   have hr:rowN row zs=row+1:=by unfold rowN at hs ⊢; split at hs<;>rename_i hh;omega;rw [if_neg hh]
   by_cases hb:p.below<10
   · rw [if_pos hb]
     rw [h.below] at hb
     refine ⟨1,rfl,Nat.le_refl _,by omega,⟨h.codec,h.src,?_,?_,rfl,h.cv,h.ci,h.tn,h.jt,h.tk,h.ht,?_,?_,h.seed,by omega,by omega⟩,?_⟩
     · show (p.seq+1) % 65536=_;rw [h.seq];omega
     · show (p.time+160) % 4294967296=_;rw [h.time];omega
     · show (p.pk+1) % 4294967296=_;rw [h.pk];omega
     · show 0≤(p.oc+_) % 4294967296∧(p.oc+_) % 4294967296≤4294967295;omega
     · intro k hk
       obtain rfl:=List.mem_singleton.1 hk
       exact ⟨h.seq,h.time,h.src,by simp [emit];omega⟩
   · rw [if_neg hb]
     rw [h.below] at hb
     refine ⟨0,rfl,by omega,by omega,⟨h.codec,h.src,h.seq,?_,rfl,h.cv,h.ci,h.tn,h.jt,h.tk,h.ht,h.pk,h.oc,h.seed,by omega,by omega⟩,?_⟩
     · show (p.time+160) % 4294967296=_;rw [h.time];omega
     · intro k hk;cases hk
 · rw [if_neg hs]
   refine ⟨1,rfl,Nat.le_refl _,by omega,⟨h.codec,h.src,?_,?_,rfl,?_,?_,h.tn,h.jt,h.tk,h.ht,?_,?_,h.seed,by omega,by omega⟩,?_⟩
   · show (p.seq+1) % 65536=_;rw [h.seq];omega
   · show (p.time+160) % 4294967296=_;rw [h.time];omega
   · show (enc p.codec (p.cv,p.ci) zs).2.1=0
     rw [h.codec];exact h.cv
   · show (enc p.codec (p.cv,p.ci) zs).2.2=0
     rw [h.codec];exact h.ci
   · show (p.pk+1) % 4294967296=_;rw [h.pk];omega
   · show 0≤(p.oc+_) % 4294967296∧(p.oc+_) % 4294967296≤4294967295;omega
   · intro k hk
     obtain rfl:=List.mem_singleton.1 hk
     refine ⟨h.seq,h.time,h.src,?_⟩
     show p.codec=13↔_
     rw [h.codec]
     omega
end Go.Proofs.YtahbecinkciahaaGreat.Sb
namespace Go.Proofs.YtahbecinkciahaaGreat.Jb
open Go.RowKit
theorem zvv (s:Jt) (t:Int) (h:s.ok) (h1 : -281474976710656≤t) (h2:t≤281474976710656):play s t=ptime s t:=by
 unfold play
 rw [if_pos ⟨h,h1,h2⟩]
theorem put0_cases (s:Jt) (m:Md) (h:s.ok) (hm:m.ok) (hl:s.late<281474976710656) (ht:s.twice<281474976710656) :
 ((put0 s m).2=1∧s.now<play (put0 s m).1 m.ti∧play (put0 s m).1 m.ti≤s.now+120000∧(put0 s m).1.q=ins s.q ⟨play (put0 s m).1 m.ti,m⟩∧(s.q.any fun w=>w.m.sq==m.sq)=false) ∨
 ((put0 s m).2≠1∧(put0 s m).2≠0∧(put0 s m).1.q=s.q∧(s.now<play (put0 s m).1 m.ti→play (put0 s m).1 m.ti≤s.now+120000→(put0 s m).1.done<m.sq→(s.q.any fun w=>w.m.sq==m.sq)=false→¬s.q.length<200)):=by
 have hok:=zqi s m h hm hl ht
 have hp:=zvv _ m.ti hok hm.2.1.1 hm.2.1.2
 rw [hp]
 clear hp hok
 by_cases h1:(s.q.any fun w=>w.m.sq==m.sq)=true
 · right
   have e:put0 s m=({ s with twice:=s.twice+1 }, 3):=by unfold put0;rw [if_pos h1]
   rw [e]
   exact ⟨by simp,by simp,rfl,fun _ _ _ h2=>by rw [h1] at h2;cases h2⟩
 by_cases h2:s.on=true∧m.sq≤s.done
 · right
   have e:put0 s m=({ s with late:=s.late+1 }, 2):=by unfold put0;rw [if_neg h1,if_pos h2]
   rw [e]
   exact ⟨by simp,by simp,rfl,fun _ _ h3=>by have h4:s.done<m.sq:=h3;omega⟩
 by_cases h3:200≤s.q.length
 · right
   have e:put0 s m=(s,4):=by unfold put0;rw [if_neg h1,if_neg h2,if_pos h3]
   rw [e]
   exact ⟨by simp,by simp,rfl,fun _ _ _ _=>by show ¬s.q.length<200;omega⟩
 by_cases h4:ptime (meas s m) m.ti≤s.now
 · right
   have e:put0 s m=({ (meas s m) with late:=(meas s m).late+1 }, 2):=by unfold put0;rw [if_neg h1,if_neg h2,if_neg h3];dsimp only;rw [if_pos h4]
   rw [e]
   exact ⟨by simp,by simp,rfl,fun h5=>by have h6:s.now<ptime (meas s m) m.ti:=h5;omega⟩
 by_cases h5:s.now+120000<ptime (meas s m) m.ti
 · right
   have e:put0 s m=(meas s m,5):=by unfold put0;rw [if_neg h1,if_neg h2,if_neg h3];dsimp only;rw [if_neg h4,if_pos h5]
   rw [e]
   exact ⟨by simp,by simp,rfl,fun _ h6=>by have h7:ptime (meas s m) m.ti≤s.now+120000:=h6;omega⟩
 · left
   have e:put0 s m=({ (meas s m) with q:=ins (meas s m).q ⟨ptime (meas s m) m.ti,m⟩ }, 1):=by unfold put0;rw [if_neg h1,if_neg h2,if_neg h3];dsimp only;rw [if_neg h4,if_neg h5]
   rw [e]
   exact ⟨rfl,by show s.now<ptime (meas s m) m.ti;omega,by show ptime (meas s m) m.ti≤s.now+120000;omega,rfl,by simpa using h1⟩
def ins' (q:List Wt) (w:Wt):List Wt:=q.takeWhile (fun x => !decide (bef w x))++w::q.dropWhile (fun x => !decide (bef w x))
def Near (now:Int) (q:List Wt):Prop:=∀ w∈q,w.at_≤now+120000
theorem near_left {now now':Int} {q:List Wt} (h:Near now q) (hn:now≤now'):Near now' (left now' q):=fun w hw=>by
 have:=h w ((left_sub now' q).subset hw)
 omega
theorem near_ins {now:Int} {q:List Wt} {w:Wt} (h:Near now q) (hw:w.at_≤now+120000):Near now (ins q w):=fun x hx=>by
 rcases List.mem_cons.1 ((zdv q w).subset hx) with rfl|hx
 · exact hw
 · exact h x hx
theorem put0_cnt (s:Jt) (m:Md):(put0 s m).1.late≤s.late+1∧(put0 s m).1.twice≤s.twice+1∧(put0 s m).1.played=s.played∧(put0 s m).1.now=s.now∧(put0 s m).1.least=s.least∧(put0 s m).1.most=s.most:=by
 unfold put0
 split
 · exact ⟨by show s.late≤_;omega,Int.le_refl _,rfl,rfl,rfl,rfl⟩
 split
 · exact ⟨Int.le_refl _,by show s.twice≤_;omega,rfl,rfl,rfl,rfl⟩
 split
 · exact ⟨by show s.late≤_;omega,by show s.twice≤_;omega,rfl,rfl,rfl,rfl⟩
 dsimp only
 split
 · exact ⟨Int.le_refl _,by show s.twice≤_;omega,rfl,rfl,rfl,rfl⟩
 split
 · exact ⟨by show s.late≤_;omega,by show s.twice≤_;omega,rfl,rfl,rfl,rfl⟩
 · exact ⟨by show s.late≤_;omega,by show s.twice≤_;omega,rfl,rfl,rfl,rfl⟩
structure Small (n:Int) (s:Jt):Prop where
 ok:s.ok
 late:s.late≤n
 twice:s.twice≤n
 played:s.played≤200*n
theorem small_new (l m:Int) (h:cfg l m):Small 0 (new l m).1:=by
 refine ⟨new_ok l m h,?_,?_,?_⟩<;>(unfold new;rw [if_pos h];exact Int.le_refl _)
theorem small_run {n:Int} {s:Jt} (h:Small n s) (hn:n≤1000) (now:Int) (h1:s.now≤now) (h2:now≤281474976710656):Small (n+1) (run0 s now):=by
 have hl:(due now s.q).length≤s.q.length:=(due_sub now s.q).length_le
 have h200:s.q.length≤200:=h.ok.2.2.2.2.1
 have hp:=h.played
 have h0:=h.late
 have h3:=h.twice
 exact ⟨run0_ok s now h.ok h1 h2 (by omega),by show s.late≤_;omega,by show s.twice≤_;omega,by show s.played+((due now s.q).length:Int)≤_;omega⟩
theorem small_put {n:Int} {s:Jt} (h:Small n s) (hn:n≤1000) (now:Int) (h1:s.now≤now) (h2:now≤281474976710656) (m:Md) (hm:m.ok):Small (n+1) (put0 (run0 s now) m).1:=by
 have hr:=small_run h hn now h1 h2
 obtain ⟨c1,c2,c3,_⟩:=put0_cnt (run0 s now) m
 have e1:(run0 s now).late=s.late:=rfl
 have e2:(run0 s now).twice=s.twice:=rfl
 have h3:=h.late
 have h4:=h.twice
 have h5:=hr.played
 exact ⟨zqi _ m hr.ok hm (by omega) (by omega),by omega,by omega,by omega⟩
theorem chk_run {s:Jt} {now:Int} (h:s.ok) (h1:s.now≤now) (h2:now≤281474976710656):chk s now true=0:=by
 unfold chk
 rw [if_neg (fun hc => ?_),if_neg (by omega)]
 rcases hc with hc|hc|hc
 · exact hc h
 · omega
 · cases hc
theorem chk_put {s:Jt} {now:Int} {m:Md} (h:s.ok) (h1:s.now≤now) (h2:now≤281474976710656) (hm:m.ok):chk s now (decide m.ok)=0:=by
 rw [decide_eq_true hm]
 exact chk_run h h1 h2
theorem zdj {s:Jt} {now:Int} {m:Md} (hm:¬m.ok):chk s now (decide m.ok)=2:=by
 unfold chk
 rw [if_pos (Or.inr (Or.inr (decide_eq_false hm)))]
end Go.Proofs.YtahbecinkciahaaGreat.Jb
namespace Go.Proofs.YtahbecinkciahaaGreat.Sb
open Go.RowKit
theorem enc_in (c:Int) (s:Int×Int) (zs:List Int) (hs:Dlt.valid s.1 s.2=true) (hl:zs.length=160):(∀ z∈(enc c s zs).1,0≤z∧z≤255)∧(enc c s zs).1.length≤160∧Dlt.valid (enc c s zs).2.1 (enc c s zs).2.2=true:=by
 unfold enc
 split
 · refine ⟨fun z hz => ?_,by rw [List.length_map];omega,hs⟩
   obtain ⟨x,_,rfl⟩:=List.mem_map.1 hz
   have:=Cmp.mu_lt x
   unfold Cmp.muZ;omega
 split
 · refine ⟨fun z hz => ?_,by rw [List.length_map];omega,hs⟩
   obtain ⟨x,_,rfl⟩:=List.mem_map.1 hz
   have:=Cmp.aCode_lt x
   unfold Cmp.aZ;omega
 · refine ⟨fun z hz => ?_,by rw [Dlt.packB_len];omega,Dlt.stAt_valid s hs zs _⟩
   obtain ⟨j,_,rfl⟩:=List.mem_map.1 hz
   exact Dlt.packAt_bd s hs zs _ j
theorem zes {α : Type} {p : α → Bool} : ∀ (l:List α) (a : α),a∈l.takeWhile p→p a=true
 | [],a,h=>by cases h
 | b :: l, a, h => by
   rw [List.takeWhile_cons] at h
   split at h
   · rename_i hb
     rcases List.mem_cons.1 h with e|h
     · rw [e];exact hb
     · exact zes l a h
   · cases h
structure SpkI (c:Int) (p:Pt) (i many:Nat):Prop where
 sp:speechB c=true
 codec:p.codec=c
 src:p.src=7
 seq:p.seq=(many:Int)
 time:p.time=160*(i:Int)
 below:0≤p.below∧p.below≤10
 cod:Dlt.valid p.cv p.ci=true
 tn:p.tn=Ev.Snd.zero
 jv:Jb.valid p.jt=true
 jq:p.jt.q=[]
 tk:p.tk=Pk.Tr.zero
 ht:p.ht=0
 pk:0≤p.pk∧p.pk≤4294967295
 oc:0≤p.oc∧p.oc≤4294967295
 seed:0≤p.seed∧p.seed≤4294967295
 le:many≤i
 i60:i≤60
theorem zxn {c:Int} (h:speechB c=true):0≤c∧c≤255:=by
 rcases zbi.1 h with rfl|rfl|rfl<;>decide
theorem SpkI.valid {c:Int} {p:Pt} {i many:Nat} (h:SpkI c p i many):p.valid=true:=by
 have hn:p.near:=by unfold Pt.near;rw [h.tk,h.ht];decide
 unfold Pt.valid
 rw [h.codec,h.sp,h.cod,h.jv,h.tn,tn0,decide_eq_true hn];rfl
theorem SpkI.wf {c:Int} {p:Pt} {i many:Nat} (h:SpkI c p i many):p.wf:=by
 have h1:=h.le
 have h2:=h.i60
 have h3:=h.below
 constructor
 · rw [h.codec];exact zxn h.sp
 · rw [h.src];decide
 · rw [h.seq];omega
 · rw [h.time];omega
 · omega
 · rw [h.tn];decide
 · rw [h.tn];decide
 · rw [h.tn];decide
 · exact h.seed
 · exact h.pk
 · exact h.oc
theorem SpkI.step {c:Int} {p:Pt} {i many:Nat} (h:SpkI c p i many) (zs:List Int) (hi:i<60) (hl:zs.length=160) (hz:∀ z∈zs, -32768≤z∧z≤32767) :
 ∃ more:Nat,(send0 p zs).2.length=more∧more≤1∧SpkI c (send0 p zs).1 (i+1) (many+more) ∧
  ∀ k∈(send0 p zs).2,k.sq=(many:Int)∧k.ti=160*(i:Int)∧(speechB k.ty=true∨k.ty=13)∧k.pl.length≤1500∧∀ z∈k.pl,0≤z∧z≤255:=by
 have h1:=h.le
 have hb0:=h.below
 have hq:0≤Ev.quiet p.below zs∧Ev.quiet p.below zs≤10:=by unfold Ev.quiet;split<;>omega
 have ht:¬(p.tn.on=true∨p.tn.ends≠0):=by rw [h.tn];decide
 unfold send0
 rw [if_neg ht]
 split
 · split
   · refine ⟨1,rfl,Nat.le_refl _,⟨h.sp,h.codec,h.src,?_,?_,hq,h.cod,h.tn,h.jv,h.jq,h.tk,h.ht,?_,?_,h.seed,by omega,by omega⟩,?_⟩
     · show (p.seq+1) % 65536=_;rw [h.seq];omega
     · show (p.time+160) % 4294967296=_;rw [h.time];omega
     · show 0≤(p.pk+1) % 4294967296∧(p.pk+1) % 4294967296≤4294967295;omega
     · show 0≤(p.oc+_) % 4294967296∧(p.oc+_) % 4294967296≤4294967295;omega
     · intro k hk
       obtain rfl:=List.mem_singleton.1 hk
       refine ⟨h.seq,h.time, .inr rfl,by show 1≤1500;omega,fun z hz2 => ?_⟩
       obtain rfl:=List.mem_singleton.1 hz2
       have:=Ev.lev_bd zs hz
       omega
   · refine ⟨0,rfl,by omega,⟨h.sp,h.codec,h.src,h.seq,?_,hq,h.cod,h.tn,h.jv,h.jq,h.tk,h.ht,h.pk,h.oc,h.seed,by omega,by omega⟩,?_⟩
     · show (p.time+160) % 4294967296=_;rw [h.time];omega
     · intro k hk;cases hk
 · obtain ⟨e1,e2,e3⟩:=enc_in p.codec (p.cv,p.ci) zs h.cod hl
   refine ⟨1,rfl,Nat.le_refl _,⟨h.sp,h.codec,h.src,?_,?_,hq,e3,h.tn,h.jv,h.jq,h.tk,h.ht,?_,?_,h.seed,by omega,by omega⟩,?_⟩
   · show (p.seq+1) % 65536=_;rw [h.seq];omega
   · show (p.time+160) % 4294967296=_;rw [h.time];omega
   · show 0≤(p.pk+1) % 4294967296∧(p.pk+1) % 4294967296≤4294967295;omega
   · show 0≤(p.oc+_) % 4294967296∧(p.oc+_) % 4294967296≤4294967295;omega
   · intro k hk
     obtain rfl:=List.mem_singleton.1 hk
     refine ⟨h.seq,h.time, .inl ?_,?_,e1⟩
     · show speechB p.codec=true;rw [h.codec];exact h.sp
     · show (enc p.codec (p.cv,p.ci) zs).1.length≤1500;omega
theorem SpkI.start {c l m:Int} (hs:speechB c=true) (hc:Jb.cfg l m):SpkI c (new c 7 l m).1 0 0∧(new c 7 l m).2=0:=by
 have e:new c 7 l m=({ Pt.zero with codec:=c,src:=7,mrk:=true,jt:=(Jb.new l m).1,seed:=7 }, 0):=by
  unfold new
  rw [if_neg (by rw [hs];decide),if_pos hc]
 have hv:Jb.valid (Jb.new l m).1=true:=by unfold Jb.valid;rw [decide_eq_true_iff];exact Jb.new_ok l m hc
 have hq:(Jb.new l m).1.q=[]:=by unfold Jb.new;rw [if_pos hc]
 rw [e]
 exact ⟨⟨hs,rfl,rfl,rfl,rfl,(⟨(by decide:(0:Int)≤0),(by decide:(0:Int)≤10)⟩),by show Dlt.valid 0 0=true;decide,rfl,hv,hq,rfl,rfl,(⟨(by decide:(0:Int)≤0),(by decide:(0:Int)≤4294967295)⟩),(⟨(by decide:(0:Int)≤0),(by decide:(0:Int)≤4294967295)⟩),⟨(by decide:(0:Int)≤7),(by decide:(7:Int)≤4294967295)⟩,Nat.le_refl _,by omega⟩,rfl⟩
theorem zey (c:Int) (pl:List Int) (s:Int) (h:0≤s∧s≤4294967295):0≤(dec c pl s).2∧(dec c pl s).2≤4294967295:=by
 unfold dec
 split
 · split
   · have e:(Ev.noise (pl.getD 0 0) s 160).2.1=(Ev.seed s 159*1103515245+12345) % 4294967296:=by
      unfold Ev.noise
      rw [if_neg (by omega)];rfl
     rw [e];omega
   · exact h
 · exact h
theorem zbo:∀ (l:List Jb.Wt) (s:Int),0≤s∧s≤4294967295→0≤(sounds s l).1∧(sounds s l).1≤4294967295
 | [],s,h=>h
 | a :: l, s, h => by
   show 0≤(sounds (dec a.m.ty a.m.pl s).2 l).1∧(sounds (dec a.m.ty a.m.pl s).2 l).1≤4294967295
   exact zbo l _ (zey _ _ _ h)
theorem zfy:∀ (l:List Jb.Wt) (s:Int),(sounds s l).2.map (fun d=>(d.at_,d.ks.length))=l.map (fun a=>(a.at_,0))
 | [],s=>rfl
 | a :: l, s => by
   show _::(sounds (dec a.m.ty a.m.pl s).2 l).2.map _=_::l.map _
   rw [zfy l];rfl
theorem zha (l:List Jb.Wt) (s:Int):(sounds s l).2.length=l.length:=by
 have:=congrArg List.length (zfy l s)
 simpa using this
def lastS (z:Int) (l:List Sd):Int:=l.foldl (fun _ d=>d.at_) z
structure LisI (u:Pt) (i:Nat) (now last:Int) (many taken:Nat):Prop where
 wf:u.wf
 sp:speechB u.codec=true
 cod:Dlt.valid u.cv u.ci=true
 tn:u.tn=Ev.Snd.zero
 tk:u.tk=Pk.Tr.zero∨∃ h:Int,u.tk=⟨true,h, -1⟩∧0≤h∧h<60
 ht:0≤u.ht∧u.ht≤9600
 sm:Jb.Small i u.jt
 near:Jb.Near u.jt.now u.jt.q
 n0:u.jt.now≤now
 n1:1000≤now
 n2:now≤1000+255*(i:Int)
 l0:0≤last
 l1:last≤u.jt.now
 pl:u.jt.played=(many:Int)
 tkn:taken=many+u.jt.q.length
theorem LisI.valid {u:Pt} {i many taken:Nat} {now last:Int} (h:LisI u i now last many taken):u.valid=true:=by
 have h1:=h.ht
 have hn:u.near:=by
  unfold Pt.near
  rcases h.tk with e|⟨x,e,x0,x1⟩
  · rw [e];show 0≤(0:Int)∧(0:Int)≤140737488355328 ∧ -1≤(0:Int)∧(0:Int)≤65535∧_;omega
  · rw [e];show 0≤x∧x≤140737488355328 ∧ -1≤(-1:Int)∧(-1:Int)≤65535∧_;omega
 have hj:Jb.valid u.jt=true:=by unfold Jb.valid;rw [decide_eq_true_iff];exact h.sm.ok
 unfold Pt.valid
 rw [h.sp,h.cod,hj,h.tn,tn0,decide_eq_true hn];rfl
theorem LisI.chk {u:Pt} {i many taken:Nat} {now last:Int} (h:LisI u i now last many taken) (t:Int) (h1:now≤t) (h2:t≤281474976710656):chkT u t=0:=by
 have:=h.n0
 unfold chkT
 rw [if_neg (by rw [h.valid];rintro (e|e);cases e;omega),if_neg (by omega)]
theorem LisI.skip {u:Pt} {i many taken:Nat} {now last:Int} (h:LisI u i now last many taken) (late:Int) (t0:0≤late) (t1:late≤255):LisI u (i+1) (now+late) last many taken:=by
 have h1:=h.sm.late
 have h2:=h.sm.twice
 have h3:=h.sm.played
 have h4:=h.n0
 have h5:=h.n1
 have h6:=h.n2
 exact ⟨h.wf,h.sp,h.cod,h.tn,h.tk,h.ht,⟨h.sm.ok,by push_cast;omega,by push_cast;omega,by push_cast;omega⟩,h.near,by omega,by omega,by push_cast;omega,h.l0,h.l1,h.pl,h.tkn⟩
theorem LisI.start {c l m:Int} (hs:speechB c=true) (hc:Jb.cfg l m):LisI (new c 7 l m).1 0 1000 0 0 0:=by
 have e:new c 7 l m=({ Pt.zero with codec:=c,src:=7,mrk:=true,jt:=(Jb.new l m).1,seed:=7 }, 0):=by
  unfold new
  rw [if_neg (by rw [hs];decide),if_pos hc]
 have hw:=(SpkI.start hs hc).1.wf
 have hq:(Jb.new l m).1.q=[]∧(Jb.new l m).1.now=0∧(Jb.new l m).1.played=0:=by unfold Jb.new;rw [if_pos hc];exact ⟨rfl,rfl,rfl⟩
 have hsm:=Jb.small_new l m hc
 rw [e] at hw ⊢
 refine ⟨hw,hs,by show Dlt.valid 0 0=true;decide,rfl, .inl rfl,by show 0≤(0:Int)∧(0:Int)≤9600;omega,by simpa using hsm,?_,?_,by omega,by simp,by omega,?_,?_,?_⟩
 · show Jb.Near (Jb.new l m).1.now (Jb.new l m).1.q
   rw [hq.1];intro w hw2;cases hw2
 · show (Jb.new l m).1.now≤1000
   rw [hq.2.1];omega
 · show 0≤(Jb.new l m).1.now
   rw [hq.2.1];omega
 · show (Jb.new l m).1.played=_
   rw [hq.2.2];rfl
 · show 0=0+(Jb.new l m).1.q.length
   rw [hq.1];rfl
theorem zxd (h s:Int) (h0:0≤h) (h1:h<60) (s0:0≤s) (s1:s<60):Pk.near h s 65536=s:=by
 unfold Pk.near
 rw [if_neg (by omega)]
 split<;>omega
theorem zxe (h s:Int) (h0:0≤h) (h1:h≤9600) (s0:0≤s) (s1:s≤9600):Pk.near h s 4294967296=s:=by
 unfold Pk.near
 rw [if_neg (by omega)]
 split<;>omega
theorem LisI.follow {u:Pt} {i many taken:Nat} {now last:Int} (h:LisI u i now last many taken) (s:Int) (s0:0≤s) (s1:s<60):∃ x:Int,Pk.follow u.tk s=(⟨true,x, -1⟩,s,true)∧0≤x∧x<60:=by
 rcases h.tk with e|⟨x,e,x0,x1⟩
 · refine ⟨s,?_,s0,s1⟩
   rw [e];unfold Pk.follow
   rw [if_neg (fun hn=>hn (by decide)),if_pos (show Pk.Tr.zero.on=false from rfl)]
 · refine ⟨max x s,?_,by omega,by omega⟩
   rw [e];unfold Pk.follow
   have hok:Pk.Tr.ok ⟨true,x, -1⟩:=by unfold Pk.Tr.ok;simp only;omega
   rw [if_neg (fun hn=>hn hok),if_neg (by simp)]
   simp only [zxd x s x0 x1 s0 s1]
   rw [if_pos (by omega)]
theorem zvw {l:List Jb.Wt} (h:l.Pairwise Jb.bef):l.Pairwise fun a b=>a.at_≤b.at_:=h.imp fun hb=>Jb.bef_at hb
theorem LisI.recv {u:Pt} {i many taken:Nat} {now last:Int} (h:LisI u i now last many taken) (hi:i<60) (x:Arr) (late:Int) (t0:0≤late) (t1:late≤255) (s0:0≤x.sq) (s1:x.sq<60) (i0:0≤x.ti) (i1:x.ti≤9600) (hty:speechB x.ty=true∨x.ty=13) (hpl:x.pl.length≤1500) :
 ∃ (m:Jb.Md) (u':Pt) (v:Int) (sds:List Sd) (tr:Pk.Tr),Pk.follow u.tk x.sq=(tr,x.sq,true)∧time u x=x.ti∧m=⟨x.sq,x.ti,x.mrk,x.ty,x.pl⟩∧(Jb.put u.jt (now+late) m).2.2.2=0∧recv0 u (now+late) x=(u',v,sds) ∧
  LisI u' (i+1) (now+late) (lastS last sds) (many+sds.length) (taken+if v=1 then 1 else 0)∧(∀ d∈sds,d.ks=[]∧last≤d.at_∧d.at_≤now+late)∧sds.Pairwise (fun a b=>a.at_≤b.at_):=by
 have h4:=h.n0
 have h5:=h.n1
 have h6:=h.n2
 have hl0:=h.l0
 have hl1:=h.l1
 obtain ⟨y,hf,y0,y1⟩:=h.follow x.sq s0 s1
 have hti:time u x=x.ti:=by
  unfold time
  split
  · exact zxe _ _ h.ht.1 h.ht.2 i0 i1
  · rfl
 obtain ⟨m,hm⟩:∃ m:Jb.Md,m=⟨x.sq,x.ti,x.mrk,x.ty,x.pl⟩:=⟨_,rfl⟩
 have hmo:m.ok:=by rw [hm];unfold Jb.Md.ok;simp only;omega
 have hmt:m.ti=x.ti:=by rw [hm]
 have n1:u.jt.now≤now+late:=by omega
 have n2:now+late≤281474976710656:=by omega
 obtain ⟨s',v,hp0⟩:∃ s' v,Jb.put0 (Jb.run0 u.jt (now+late)) m=(s',v):=⟨_,_,rfl⟩
 have hput:Jb.put u.jt (now+late) m=(s',Jb.due (now+late) u.jt.q,v,0):=by
  unfold Jb.put
  rw [Jb.chk_put h.sm.ok n1 n2 hmo,if_pos rfl,hp0]
 have hsr:=Jb.small_run h.sm (by omega) (now+late) n1 n2
 have hsp:=Jb.small_put h.sm (by omega) (now+late) n1 n2 m hmo
 have hpc:=Jb.put0_cnt (Jb.run0 u.jt (now+late)) m
 have hcs:=Jb.put0_cases (Jb.run0 u.jt (now+late)) m hsr.ok hmo (by have:=hsr.late;omega) (by have:=hsr.twice;omega)
 rw [hp0] at hsp hpc hcs
 simp only at hsp hpc hcs
 have hnl:=Jb.near_left h.near n1
 have hdl:=congrArg List.length (Jb.due_left (now+late) u.jt.q)
 rw [List.length_append] at hdl
 obtain ⟨q1,q2,q3,q4⟩:=(Jb.okQ_iff _ _ _).1 h.sm.ok.2.2.2.2
 have hlen:=zha (Jb.due (now+late) u.jt.q) u.seed
 have hats:=zfy (Jb.due (now+late) u.jt.q) u.seed
 obtain ⟨sds,hsds⟩:∃ l,l=(sounds u.seed (Jb.due (now+late) u.jt.q)).2:=⟨_,rfl⟩
 rw [← hsds] at hlen hats
 have hdue:∀ a∈Jb.due (now+late) u.jt.q,last≤a.at_∧a.at_≤now+late:=fun a ha=>by
  have h1:=(q2 a ((Jb.due_sub _ _).subset ha)).2.1
  have h2:a.at_≤now+late:=by
   have:=zes _ _ ha
   simpa using this
  omega
 have hall:∀ d∈sds,d.ks=[]∧last≤d.at_∧d.at_≤now+late:=fun d hd=>by
  have h1:(d.at_,d.ks.length)∈(Jb.due (now+late) u.jt.q).map (fun a=>(a.at_,0)):=by rw [← hats];exact List.mem_map.2 ⟨d,hd,rfl⟩
  obtain ⟨a,ha,e⟩:=List.mem_map.1 h1
  injection e with e1 e2
  have:=hdue a ha
  exact ⟨List.eq_nil_of_length_eq_zero e2.symm,by omega,by omega⟩
 have hpw:sds.Pairwise (fun a b=>a.at_≤b.at_):=by
  have h1:=zvw (q3.sublist (Jb.due_sub (now+late) u.jt.q))
  have h2:(sds.map (fun d=>(d.at_,d.ks.length))).Pairwise (fun a b=>a.1≤b.1):=by rw [hats,List.pairwise_map];exact h1
  rw [List.pairwise_map] at h2
  exact h2
 have hls:∀ (l:List Sd) (z:Int),(∀ d∈l,last≤d.at_∧d.at_≤now+late)→last≤z∧z≤now+late→last≤lastS z l∧lastS z l≤now+late:=by
  intro l
  induction l with
  | nil=>intro z _ hz;exact hz
  | cons a l ih=>intro z hd hz;exact ih a.at_ (fun d hd2=>hd d (List.mem_cons_of_mem _ hd2)) (hd a (List.mem_cons_self ..))
 have hlast:=hls sds last (fun d hd=>(hall d hd).2) ⟨Int.le_refl _,by omega⟩
 have hk:known x≠false:=by
  unfold known
  rcases hty with e|e
  · rw [e];simp
  · rw [e];simp
 have h101:¬x.ty=101:=by
  rcases hty with e|e
  · rcases zbi.1 e with e|e|e<;>omega
  · omega
 refine ⟨m, { u with tk:=⟨true,y, -1⟩,ht:=if u.tk.on=false∨u.ht<x.ti then x.ti else u.ht,st:=Rep.arrive u.st x.sq (8*(now+late)) x.ti,jt:=s',seed:=(sounds u.seed (Jb.due (now+late) u.jt.q)).1 }, v,sds,_,hf,hti,hm,by rw [hput],?_,⟨?_,h.sp,h.cod,h.tn, .inr ⟨y,rfl,y0,y1⟩,?_,?_,?_,?_,by omega,by push_cast;omega,by omega,?_,?_,?_⟩,hall,hpw⟩
 · unfold recv0
   rw [if_neg hk]
   simp only [hf,hti]
   rw [if_neg (by decide),if_neg h101,← hm,hput,hsds]
 · exact ⟨h.wf.codec,h.wf.src,h.wf.seq,h.wf.time,h.wf.below,h.wf.tvol,h.wf.tcode,h.wf.tst,zbo _ _ h.wf.seed,h.wf.pk,h.wf.oc⟩
 · show 0≤(if u.tk.on=false∨u.ht<x.ti then x.ti else u.ht)∧(if u.tk.on=false∨u.ht<x.ti then x.ti else u.ht)≤9600
   have:=h.ht
   split<;>omega
 · exact hsp
 · show Jb.Near s'.now s'.q
   rw [hpc.2.2.2.1]
   rcases hcs with ⟨c1,c2,c3,c4,c5⟩|⟨c1,c2,c3,c4⟩
   · rw [c4];exact Jb.near_ins hnl c3
   · rw [c3];exact hnl
 · show s'.now≤_
   rw [hpc.2.2.2.1];exact Int.le_refl _
 · show lastS last sds≤s'.now
   rw [hpc.2.2.2.1];exact hlast.2
 · show s'.played=_
   rw [hpc.2.2.1,hlen]
   show u.jt.played+((Jb.due (now+late) u.jt.q).length:Int)=_
   rw [h.pl];push_cast;omega
 · show taken+(if v=1 then 1 else 0)=many+sds.length+s'.q.length
   have htk:=h.tkn
   rcases hcs with ⟨c1,c2,c3,c4,c5⟩|⟨c1,c2,c3,c4⟩
   · rw [if_pos c1,c4,Jb.ins_len]
     show _=_+((Jb.left (now+late) u.jt.q).length+1)
     omega
   · rw [if_neg c1,c3]
     show _=_+(Jb.left (now+late) u.jt.q).length
     omega
theorem LisI.done {u:Pt} {i many taken:Nat} {now last:Int} (h:LisI u i now last many taken) (hi:i≤60):(Jb.run u.jt (now+200000)).2.2=0∧many+(run u (now+200000)).2.length=taken∧(run u (now+200000)).1.jt.played=(taken:Int):=by
 have h4:=h.n0
 have h5:=h.n1
 have h6:=h.n2
 have hr:Jb.run u.jt (now+200000)=(Jb.run0 u.jt (now+200000),Jb.due (now+200000) u.jt.q,0):=by
  unfold Jb.run;rw [Jb.chk_run h.sm.ok (by omega) (by omega),if_pos rfl]
 obtain ⟨q1,q2,q3,q4⟩:=(Jb.okQ_iff _ _ _).1 h.sm.ok.2.2.2.2
 have hl:Jb.left (now+200000) u.jt.q=[]:=by
  apply List.eq_nil_iff_forall_not_mem.2
  intro w hw
  have h1:=Jb.left_gt (now+200000) u.jt.q q3 w hw
  have h2:=h.near w ((Jb.left_sub _ u.jt.q).subset hw)
  omega
 have hdl:=congrArg List.length (Jb.due_left (now+200000) u.jt.q)
 rw [List.length_append,hl] at hdl
 have htk:=h.tkn
 simp only [List.length_nil] at hdl
 refine ⟨by rw [hr],?_,?_⟩
 · unfold run
   rw [hr]
   show many+(sounds u.seed (Jb.due (now+200000) u.jt.q)).2.length=_
   rw [zha];omega
 · unfold run
   rw [hr]
   show u.jt.played+((Jb.due (now+200000) u.jt.q).length:Int)=_
   rw [h.pl,htk];push_cast;omega
end Go.Proofs.YtahbecinkciahaaGreat.Sb
namespace Go.Proofs.YtahbecinkciahaaGreat
attribute [local go_sem ↓] zae zaf
attribute [local go_sem] zad zag
open Go.RowKit
theorem zez {w:World} {p:Sb.Pt} {A:Option Addr} {l:List TW} {n c:Nat} {x:Rx} {now:Int} {X:Array Value} {R:Ending→World→Prop} (C:RC w p A l n c x now) (hw:p.wf) (hX:X=PA p A n c) (hc:Sb.chkT p now=0)
 (h:∀ (W:World) (a:Act),RS w W p A n c x→FrA w.heap.size now a→firstWp Tryz.prog rcA_code (bodyPost Tryz.prog Tryz.f11 R) a W):Calls Tryz.prog 11 #[.agg X, .int .i64 now, .agg x.row] w R:=by
 have S:RS w (((w.alloc (Obj.cells X 48)).alloc (Obj.cells x.row 51)).alloc (Obj.cells (PA Sb.Pt.zero none 0 0) 48)) p A n c x:=⟨((PB.new w X hX).push (.cells x.row 51)).push (.cells (PA Sb.Pt.zero none 0 0) 48),(Blk.new1 w (.cells X 48) 51 x.row).push (.cells (PA Sb.Pt.zero none 0 0) 48),Blk.new2 w (.cells X 48) (.cells x.row 51) 48 (PA Sb.Pt.zero none 0 0),(((Bel.refl w).push (.cells X 48)).push (.cells x.row 51)).push (.cells (PA Sb.Pt.zero none 0 0) 48)⟩
 have k1:=H9 fun (W:World) hW=>zbv p hw A l n c (PA p A n c) rfl W C.q C.len C.n5 hW C.sq now
 rw [hc] at k1
 have hl15:(x.pl.length:Int)≤1500:=by have:=C.h15;omega
 clear hX hc hw
 go_enter Tryz.func11,Tryz.ntmps11
 go_upto_region 1 with fail
 change Code.wp _ _ _ _ (((w.alloc (Obj.cells X 48)).alloc (Obj.cells x.row 51)).alloc (Obj.cells (PA Sb.Pt.zero none 0 0) 48))
 obtain ⟨W,hW⟩:∃ W,W=((w.alloc (Obj.cells X 48)).alloc (Obj.cells x.row 51)).alloc (Obj.cells (PA Sb.Pt.zero none 0 0) 48):=⟨_,rfl⟩
 rw [← hW] at S ⊢
 clear hW
 go_wp2_with (first|(refine zab rfl 48 (.tmp 3) rfl (w.heap.size) 0 rfl 48 (PL p A n c) S.b0 48 _ Tryz.underlying48 zah (show 0+48≤48 by decide) (PA p A n c) (by rfl) rfl ?_)|fail)
 refine (k1.out _ (C.av.later S.u)).mono ?_
 rintro e w1 ⟨rfl,hb1⟩
 replace S:=S.later hb1
 clear hb1 k1
 have x9:=S.c9
 go_upto_region 6 with fail
 clear x9
 refine zas (by assumption) ?_
 exact h _ _ S FrA.mk
theorem zrc {w W:World} {p:Sb.Pt} {A:Option Addr} {l:List TW} {n c:Nat} {x:Rx} {now:Int} (C:RC w p A l n c x now) (S:RS w W p A n c x) {R:Ending→World→Prop} (h101:¬x.ty=101)
 (h:∀ (W:World) (a:Act) (gt:Nat),RS w W p A n c x→Blk W gt 108 #[.int .u8 0, .bool false, .int .u8 0, .int .u16 0]→w.heap.size<gt→FrB w.heap.size now gt (speechB x.ty||x.ty==13) a→firstWp Tryz.prog rcB_code (bodyPost Tryz.prog Tryz.f11 R) a W) (a:Act) (ha:FrA w.heap.size now a):firstWp Tryz.prog rcA_code (bodyPost Tryz.prog Tryz.f11 R) a W:=by
 obtain ⟨s,rfl,e1,e3,e5,e6,_⟩:=ha
 rw [r164,e1,e3,e5,e6]
 clear e1 e3 e5 e6
 have k2:=H9 fun W=>zcz x.ty W C.ty0 C.ty1
 refine zau ?_
 intro _ _
 have BT:=H9 (Blk.new W 108 #[.int .u8 0, .bool false, .int .u8 0, .int .u16 0])
 have hgt':w.heap.size<W.heap.size:=by have:=S.b2.lt;omega
 replace S:=S.push (.cells #[.int .u8 0, .bool false, .int .u8 0, .int .u16 0] 108)
 obtain ⟨W2,hW2⟩:∃ V,V=W.alloc (Obj.cells #[.int .u8 0, .bool false, .int .u8 0, .int .u16 0] 108):=⟨_,rfl⟩
 go_upto_region 7 with fail
 rw [← hW2] at S BT ⊢
 obtain ⟨gt,hgt⟩:∃ g,g=W.heap.size:=⟨_,rfl⟩
 rw [← hgt] at BT hgt' ⊢
 clear hW2 hgt
 have x1:=S.c1
 go_wp2_with fail
 refine (k2.out _).mono ?_
 rintro e w3 ⟨rfl,hb1⟩
 replace S:=S.later hb1
 replace BT:=H9 (BT.out.later hb1)
 clear hb1 k2 x1
 have x1:=S.c1
 cases hs:speechB x.ty
 · rw [hs] at h
   clear hs
   by_cases h13:x.ty=13
   · rw [h13] at x1 h
     go_upto_region 11 with fail
     refine zbk (by assumption) (by assumption) ?_
     exact h _ _ _ S BT.out hgt' FrB.mk
   · have h13b:(x.ty==13)=false:=by simpa using h13
     rw [h13b] at h
     go_upto_region 11 with fail
     refine zbk (by assumption) (by assumption) ?_
     exact h _ _ _ S BT.out hgt' FrB.mk
 · rw [hs] at h
   clear hs
   go_upto_region 11 with fail
   refine zbk (by assumption) (by assumption) ?_
   exact h _ _ _ S BT.out hgt' FrB.mk
theorem zcv {k:IntKind} {a b:Int} (h:a=b):Ending.returned (.int k a) = .returned (.int k b):=by rw [h]
theorem zbp (x:Int) (h0 : -9223372036854775808≤x) (h1:x≤9223372036854775807):IntKind.i64.wrap x=x:=by
 by_cases h:0≤x
 · have e:x % 2 ^ 64=x:=Int.emod_eq_of_lt h (by omega)
   simp only [IntKind.wrap,IntKind.bits,IntKind.signed,e]
   rw [if_neg (by simp;omega)]
 · have e:x % 2 ^ 64=x+2 ^ 64:=by omega
   simp only [IntKind.wrap,IntKind.bits,IntKind.signed,e]
   rw [if_pos (by simp;omega)]
   omega
theorem ztn (n:Int):IntKind.u16.wrap n=n % 65536:=by simp [IntKind.wrap,IntKind.bits,IntKind.signed]
theorem zeg (z:Int):bits BinOp.and IntKind.i64 z 65535=z % 65536:=by
 show IntKind.i64.wrap (((BitVec.ofInt 64 z &&& BitVec.ofInt 64 65535).toNat:Nat):Int)=_
 have e:(BitVec.ofInt 64 65535).toNat=2 ^ 16-1:=by decide
 rw [BitVec.toNat_and,e,Nat.and_two_pow_sub_one_eq_mod,BitVec.toNat_ofInt]
 have h:(((z % (2 ^ 64:Nat)).toNat % 2 ^ 16:Nat):Int)=z % 65536:=by omega
 rw [h,zbp _ (by omega) (by omega)]
theorem zhb (z:Int):bits BinOp.and IntKind.i64 z 4294967295=z % 4294967296:=by
 show IntKind.i64.wrap (((BitVec.ofInt 64 z &&& BitVec.ofInt 64 4294967295).toNat:Nat):Int)=_
 have e:(BitVec.ofInt 64 4294967295).toNat=2 ^ 32-1:=by decide
 rw [BitVec.toNat_and,e,Nat.and_two_pow_sub_one_eq_mod,BitVec.toNat_ofInt]
 have h:(((z % (2 ^ 64:Nat)).toNat % 2 ^ 32:Nat):Int)=z % 4294967296:=by omega
 rw [h,zbp _ (by omega) (by omega)]
section
variable (last x a b:Int) (w:World)
theorem zol (x0:0≤x) (x1:x≤65535) (l0 : -9223372036854775808≤last) (l1:last≤9223372036854775807):Calls Tryz.prog 98 #[.int .i64 last, .int .i64 x, .int .i64 65536] w fun e w'=>e = .returned (.int .i64 (Pk.near last x 65536))∧w=w':=by
 obtain ⟨R,hR⟩:∃ R,R=Pk.near last x 65536:=⟨_,rfl⟩
 rw [← hR]
 unfold Pk.near at hR
 by_cases h1:last < -1152921504606846976
 · rw [if_pos (.inl h1)] at hR
   subst hR
   go_enter Tryz.func98,Tryz.ntmps98
   go_wp2
   go_ret
   exact ⟨rfl,rfl⟩
 by_cases h2:1152921504606846976<last
 · rw [if_pos (.inr h2)] at hR
   subst hR
   go_enter Tryz.func98,Tryz.ntmps98
   go_wp2
   go_ret
   exact ⟨rfl,rfl⟩
 rw [if_neg (by omega)] at hR
 have h1' : -1152921504606846976≤last:=by omega
 have h2':last≤1152921504606846976:=by omega
 have hmk:=zeg (x-last)
 obtain ⟨d,hd⟩:∃ d,d=(x-last) % 65536:=⟨_,rfl⟩
 have hd0:0≤d:=by omega
 have hd1:d≤65535:=by omega
 rw [← hd] at hR hmk
 rw [show (65536:Int) / 2=32768 by decide] at hR
 clear h1 h2
 clear hd
 by_cases h3:32768<d
 · rw [if_pos h3] at hR
   have HR:=H9 hR
   clear hR
   go_enter Tryz.func98,Tryz.ntmps98
   go_wp2
   go_ret
   exact ⟨zcv (by have:=HR.out;omega),rfl⟩
 · rw [if_neg h3] at hR
   have HR:=H9 hR
   have h3':d≤32768:=by omega
   clear hR h3
   go_enter Tryz.func98,Tryz.ntmps98
   go_wp2
   go_ret
   exact ⟨zcv (by have:=HR.out;omega),rfl⟩
theorem zla (x0:0≤x) (x1:x≤65535) (l0 : -9223372036854775808≤last) (l1:last≤9223372036854775807):Calls Tryz.prog 114 #[.int .i64 last, .int .i64 x, .int .i64 65536] w fun e w'=>e = .returned (.int .i64 (Pk.near last x 65536))∧w=w':=by
 obtain ⟨R,hR⟩:∃ R,R=Pk.near last x 65536:=⟨_,rfl⟩
 rw [← hR]
 unfold Pk.near at hR
 by_cases h1:last < -1152921504606846976
 · rw [if_pos (.inl h1)] at hR
   subst hR
   go_enter Tryz.func114,Tryz.ntmps114
   go_wp2
   go_ret
   exact ⟨rfl,rfl⟩
 by_cases h2:1152921504606846976<last
 · rw [if_pos (.inr h2)] at hR
   subst hR
   go_enter Tryz.func114,Tryz.ntmps114
   go_wp2
   go_ret
   exact ⟨rfl,rfl⟩
 rw [if_neg (by omega)] at hR
 have h1' : -1152921504606846976≤last:=by omega
 have h2':last≤1152921504606846976:=by omega
 have hmk:=zeg (x-last)
 obtain ⟨d,hd⟩:∃ d,d=(x-last) % 65536:=⟨_,rfl⟩
 have hd0:0≤d:=by omega
 have hd1:d≤65535:=by omega
 rw [← hd] at hR hmk
 rw [show (65536:Int) / 2=32768 by decide] at hR
 clear h1 h2
 obtain ⟨s,hs⟩:∃ s,s=(x-last).tmod 65536:=⟨_,rfl⟩
 have hsb : -65536<s∧s<65536:=by
  rw [hs,Int.tmod_eq_emod]
  split<;>omega
 have hsm:(s+65536) % 65536=d:=by
  rw [hd,hs]
  have:=Int.tmod_eq_emod (a:=x-last) (b:=65536)
  rw [this]
  split<;>omega
 have hst:(s+65536).tmod 65536=d:=by rw [Int.tmod_eq_emod_of_nonneg (by omega)];exact hsm
 have hs0:=hsb.1
 have hs1:=hsb.2
 have hs':=hs.symm
 clear hs hsb hd hmk
 by_cases h3:32768<d
 · rw [if_pos h3] at hR
   have HR:=H9 hR
   clear hR
   go_enter Tryz.func114,Tryz.ntmps114
   go_wp2
   go_ret
   exact ⟨zcv (by have:=HR.out;omega),rfl⟩
 · rw [if_neg h3] at hR
   have HR:=H9 hR
   have h3':d≤32768:=by omega
   clear hR h3
   go_enter Tryz.func114,Tryz.ntmps114
   go_wp2
   go_ret
   exact ⟨zcv (by have:=HR.out;omega),rfl⟩
theorem zom (x0:0≤x) (x1:x≤4294967295) (l0 : -9223372036854775808≤last) (l1:last≤9223372036854775807):Calls Tryz.prog 98 #[.int .i64 last, .int .i64 x, .int .i64 4294967296] w fun e w'=>e = .returned (.int .i64 (Pk.near last x 4294967296))∧w=w':=by
 obtain ⟨R,hR⟩:∃ R,R=Pk.near last x 4294967296:=⟨_,rfl⟩
 rw [← hR]
 unfold Pk.near at hR
 by_cases h1:last < -1152921504606846976
 · rw [if_pos (.inl h1)] at hR
   subst hR
   go_enter Tryz.func98,Tryz.ntmps98
   go_wp2
   go_ret
   exact ⟨rfl,rfl⟩
 by_cases h2:1152921504606846976<last
 · rw [if_pos (.inr h2)] at hR
   subst hR
   go_enter Tryz.func98,Tryz.ntmps98
   go_wp2
   go_ret
   exact ⟨rfl,rfl⟩
 rw [if_neg (by omega)] at hR
 have h1' : -1152921504606846976≤last:=by omega
 have h2':last≤1152921504606846976:=by omega
 have hmk:=zhb (x-last)
 obtain ⟨d,hd⟩:∃ d,d=(x-last) % 4294967296:=⟨_,rfl⟩
 have hd0:0≤d:=by omega
 have hd1:d≤4294967295:=by omega
 rw [← hd] at hR hmk
 rw [show (4294967296:Int) / 2=2147483648 by decide] at hR
 clear h1 h2
 clear hd
 by_cases h3:2147483648<d
 · rw [if_pos h3] at hR
   have HR:=H9 hR
   clear hR
   go_enter Tryz.func98,Tryz.ntmps98
   go_wp2
   go_ret
   exact ⟨zcv (by have:=HR.out;omega),rfl⟩
 · rw [if_neg h3] at hR
   have HR:=H9 hR
   have h3':d≤2147483648:=by omega
   clear hR h3
   go_enter Tryz.func98,Tryz.ntmps98
   go_wp2
   go_ret
   exact ⟨zcv (by have:=HR.out;omega),rfl⟩
theorem zlb (x0:0≤x) (x1:x≤4294967295) (l0 : -9223372036854775808≤last) (l1:last≤9223372036854775807):Calls Tryz.prog 114 #[.int .i64 last, .int .i64 x, .int .i64 4294967296] w fun e w'=>e = .returned (.int .i64 (Pk.near last x 4294967296))∧w=w':=by
 obtain ⟨R,hR⟩:∃ R,R=Pk.near last x 4294967296:=⟨_,rfl⟩
 rw [← hR]
 unfold Pk.near at hR
 by_cases h1:last < -1152921504606846976
 · rw [if_pos (.inl h1)] at hR
   subst hR
   go_enter Tryz.func114,Tryz.ntmps114
   go_wp2
   go_ret
   exact ⟨rfl,rfl⟩
 by_cases h2:1152921504606846976<last
 · rw [if_pos (.inr h2)] at hR
   subst hR
   go_enter Tryz.func114,Tryz.ntmps114
   go_wp2
   go_ret
   exact ⟨rfl,rfl⟩
 rw [if_neg (by omega)] at hR
 have h1' : -1152921504606846976≤last:=by omega
 have h2':last≤1152921504606846976:=by omega
 have hmk:=zhb (x-last)
 obtain ⟨d,hd⟩:∃ d,d=(x-last) % 4294967296:=⟨_,rfl⟩
 have hd0:0≤d:=by omega
 have hd1:d≤4294967295:=by omega
 rw [← hd] at hR hmk
 rw [show (4294967296:Int) / 2=2147483648 by decide] at hR
 clear h1 h2
 obtain ⟨s,hs⟩:∃ s,s=(x-last).tmod 4294967296:=⟨_,rfl⟩
 have hsb : -4294967296<s∧s<4294967296:=by
  rw [hs,Int.tmod_eq_emod]
  split<;>omega
 have hsm:(s+4294967296) % 4294967296=d:=by
  rw [hd,hs]
  have:=Int.tmod_eq_emod (a:=x-last) (b:=4294967296)
  rw [this]
  split<;>omega
 have hst:(s+4294967296).tmod 4294967296=d:=by rw [Int.tmod_eq_emod_of_nonneg (by omega)];exact hsm
 have hs0:=hsb.1
 have hs1:=hsb.2
 have hs':=hs.symm
 clear hs hsb hd hmk
 by_cases h3:2147483648<d
 · rw [if_pos h3] at hR
   have HR:=H9 hR
   clear hR
   go_enter Tryz.func114,Tryz.ntmps114
   go_wp2
   go_ret
   exact ⟨zcv (by have:=HR.out;omega),rfl⟩
 · rw [if_neg h3] at hR
   have HR:=H9 hR
   have h3':d≤2147483648:=by omega
   clear hR h3
   go_enter Tryz.func114,Tryz.ntmps114
   go_wp2
   go_ret
   exact ⟨zcv (by have:=HR.out;omega),rfl⟩
theorem zhc (x0:0≤x) (x1:x≤65535) (l0 : -9223372036854775808≤last) (l1:last≤9223372036854775807):Calls Tryz.prog 96 #[.int .i64 last, .int .u16 x] w fun e w'=>e = .returned (.int .i64 (Pk.near last x 65536))∧w=w':=by
 have k1:=fun W=>zol last x W x0 x1 l0 l1
 generalize Pk.near last x 65536=R at *
 have K1:=H9 k1
 clear k1
 go_enter Tryz.func96,Tryz.ntmps96
 go_wp2_with fail
 refine (K1.out _).mono ?_
 rintro e w1 ⟨rfl,rfl⟩
 go_wp2
 go_ret
 exact ⟨rfl,rfl⟩
theorem zgl (x0:0≤x) (x1:x≤4294967295) (l0 : -9223372036854775808≤last) (l1:last≤9223372036854775807):Calls Tryz.prog 44 #[.int .i64 last, .int .u32 x] w fun e w'=>e = .returned (.int .i64 (Pk.near last x 4294967296))∧w=w':=by
 have k1:=fun W=>zom last x W x0 x1 l0 l1
 generalize Pk.near last x 4294967296=R at *
 have K1:=H9 k1
 clear k1
 go_enter Tryz.func44,Tryz.ntmps44
 go_wp2_with fail
 refine (K1.out _).mono ?_
 rintro e w1 ⟨rfl,rfl⟩
 go_wp2
 go_ret
 exact ⟨rfl,rfl⟩
theorem zfz (x0:0≤x) (x1:x≤65535) (l0 : -9223372036854775808≤last) (l1:last≤9223372036854775807):Calls Tryz.prog 113 #[.int .i64 last, .int .u16 x] w fun e w'=>e = .returned (.int .i64 (Pk.near last x 65536))∧w=w':=by
 have k1:=fun W=>zla last x W x0 x1 l0 l1
 generalize Pk.near last x 65536=R at *
 have K1:=H9 k1
 clear k1
 go_enter Tryz.func113,Tryz.ntmps113
 go_wp2_with fail
 refine (K1.out _).mono ?_
 rintro e w1 ⟨rfl,rfl⟩
 go_wp2
 go_ret
 exact ⟨rfl,rfl⟩
theorem zga (x0:0≤x) (x1:x≤4294967295) (l0 : -9223372036854775808≤last) (l1:last≤9223372036854775807):Calls Tryz.prog 52 #[.int .i64 last, .int .u32 x] w fun e w'=>e = .returned (.int .i64 (Pk.near last x 4294967296))∧w=w':=by
 have k1:=fun W=>zlb last x W x0 x1 l0 l1
 generalize Pk.near last x 4294967296=R at *
 have K1:=H9 k1
 clear k1
 go_enter Tryz.func52,Tryz.ntmps52
 go_wp2_with fail
 refine (K1.out _).mono ?_
 rintro e w1 ⟨rfl,rfl⟩
 go_wp2
 go_ret
 exact ⟨rfl,rfl⟩
end
section
variable (high jump q:Int) (w:World)
theorem zlc (q0:0≤q) (q1:q≤65535) (b0 : -9223372036854775808≤high) (b1:high≤9223372036854775807) (c0 : -9223372036854775808≤jump) (c1:jump≤9223372036854775807) (on:Bool) (h:high<0):Calls Tryz.prog 42 #[.agg #[.bool on, .int .i64 high, .int .i64 jump], .int .u16 q] w fun e w'=>e = .returned (.tuple #[.agg #[.bool false, .int .i64 0, .int .i64 0], .int .i64 0, .bool false])∧Bel w w':=by
 go_enter Tryz.func42,Tryz.ntmps42
 go_wp2_with fail
 exact bodyPost_ret (v := .tuple #[.agg #[.bool false, .int .i64 0, .int .i64 0], .int .i64 0, .bool false]) (zax Tryz.results42 rfl (run_loadVar_row (P:=Tryz.prog) _ _ _ _ _ _ _ (Blk.new1 w _ _ _) Tryz.underlying42 rfl (by kernel_rfl)) rfl rfl) rfl ⟨rfl,Bel.push (Bel.push (Bel.refl w) _) _⟩
theorem zld (q0:0≤q) (q1:q≤65535) (b0 : -9223372036854775808≤high) (b1:high≤9223372036854775807) (c0 : -9223372036854775808≤jump) (c1:jump≤9223372036854775807) (on:Bool) (g:0≤high) (h:281474976710656<high):Calls Tryz.prog 42 #[.agg #[.bool on, .int .i64 high, .int .i64 jump], .int .u16 q] w fun e w'=>e = .returned (.tuple #[.agg #[.bool false, .int .i64 0, .int .i64 0], .int .i64 0, .bool false])∧Bel w w':=by
 go_enter Tryz.func42,Tryz.ntmps42
 go_wp2_with fail
 exact bodyPost_ret (v := .tuple #[.agg #[.bool false, .int .i64 0, .int .i64 0], .int .i64 0, .bool false]) (zax Tryz.results42 rfl (run_loadVar_row (P:=Tryz.prog) _ _ _ _ _ _ _ (Blk.new1 w _ _ _) Tryz.underlying42 rfl (by kernel_rfl)) rfl rfl) rfl ⟨rfl,Bel.push (Bel.push (Bel.refl w) _) _⟩
theorem zle (q0:0≤q) (q1:q≤65535) (b0 : -9223372036854775808≤high) (b1:high≤9223372036854775807) (c0 : -9223372036854775808≤jump) (c1:jump≤9223372036854775807) (on:Bool) (g:0≤high) (g2:high≤281474976710656) (h:jump < -1):Calls Tryz.prog 42 #[.agg #[.bool on, .int .i64 high, .int .i64 jump], .int .u16 q] w fun e w'=>e = .returned (.tuple #[.agg #[.bool false, .int .i64 0, .int .i64 0], .int .i64 0, .bool false])∧Bel w w':=by
 go_enter Tryz.func42,Tryz.ntmps42
 go_wp2_with fail
 exact bodyPost_ret (v := .tuple #[.agg #[.bool false, .int .i64 0, .int .i64 0], .int .i64 0, .bool false]) (zax Tryz.results42 rfl (run_loadVar_row (P:=Tryz.prog) _ _ _ _ _ _ _ (Blk.new1 w _ _ _) Tryz.underlying42 rfl (by kernel_rfl)) rfl rfl) rfl ⟨rfl,Bel.push (Bel.push (Bel.refl w) _) _⟩
theorem zlf (q0:0≤q) (q1:q≤65535) (b0 : -9223372036854775808≤high) (b1:high≤9223372036854775807) (c0 : -9223372036854775808≤jump) (c1:jump≤9223372036854775807) (on:Bool) (g:0≤high) (g2:high≤281474976710656) (g3 : -1≤jump) (h:65535<jump):Calls Tryz.prog 42 #[.agg #[.bool on, .int .i64 high, .int .i64 jump], .int .u16 q] w fun e w'=>e = .returned (.tuple #[.agg #[.bool false, .int .i64 0, .int .i64 0], .int .i64 0, .bool false])∧Bel w w':=by
 go_enter Tryz.func42,Tryz.ntmps42
 go_wp2_with fail
 exact bodyPost_ret (v := .tuple #[.agg #[.bool false, .int .i64 0, .int .i64 0], .int .i64 0, .bool false]) (zax Tryz.results42 rfl (run_loadVar_row (P:=Tryz.prog) _ _ _ _ _ _ _ (Blk.new1 w _ _ _) Tryz.underlying42 rfl (by kernel_rfl)) rfl rfl) rfl ⟨rfl,Bel.push (Bel.push (Bel.refl w) _) _⟩
theorem zon (q0:0≤q) (q1:q≤65535) (b0 : -9223372036854775808≤high) (b1:high≤9223372036854775807) (c0 : -9223372036854775808≤jump) (c1:jump≤9223372036854775807) (g:0≤high) (g2:high≤281474976710656) (g3 : -1≤jump) (g4:jump≤65535):Calls Tryz.prog 42 #[.agg #[.bool false, .int .i64 high, .int .i64 jump], .int .u16 q] w fun e w'=>e = .returned (.tuple #[.agg #[.bool true, .int .i64 q, .int .i64 (-1)], .int .i64 q, .bool true])∧Bel w w':=by
 go_enter Tryz.func42,Tryz.ntmps42
 go_wp2_with fail
 exact bodyPost_ret (v := .tuple #[.agg #[.bool true, .int .i64 q, .int .i64 (-1)], .int .i64 q, .bool true]) (zax Tryz.results42 rfl (run_loadVar_row (P:=Tryz.prog) _ _ _ _ _ _ _ (Blk.new1 w _ _ _) Tryz.underlying42 rfl (by kernel_rfl)) rfl rfl) rfl ⟨rfl,Bel.push (Bel.push (Bel.refl w) _) _⟩
theorem zrd (q0:0≤q) (q1:q≤65535) (b0 : -9223372036854775808≤high) (b1:high≤9223372036854775807) (c0 : -9223372036854775808≤jump) (c1:jump≤9223372036854775807) (g:0≤high) (g2:high≤281474976710656) (g3 : -1≤jump) (g4:jump≤65535) (h1:0≤Pk.near high q 65536) (h2:Pk.near high q 65536≤high+3000) (h3:high-100≤Pk.near high q 65536):Calls Tryz.prog 42 #[.agg #[.bool true, .int .i64 high, .int .i64 jump], .int .u16 q] w fun e w'=>e = .returned (.tuple #[.agg #[.bool true, .int .i64 (max high (Pk.near high q 65536)), .int .i64 (-1)], .int .i64 (Pk.near high q 65536), .bool true])∧Bel w w':=by
 have k1:=fun W=>zhc high q W q0 q1 b0 b1
 obtain ⟨n,hn⟩:∃ n,n=Pk.near high q 65536:=⟨_,rfl⟩
 simp only [← hn]
 rw [← hn] at k1 h1 h2 h3
 have hnb:=Pk.near_bd16 high q (by omega)
 rw [← hn] at hnb
 obtain ⟨n0,n1,_⟩:=hnb
 have n2:n≤281474976800000:=by omega
 have n3 : -40000≤n:=by omega
 have hv1:=zbp (high+3000) (by omega) (by omega)
 have hv2:=zbp (high-100) (by omega) (by omega)
 have K1:=H9 k1
 clear k1 n0 n1 hn
 go_enter Tryz.func42,Tryz.ntmps42
 go_wp2_with fail
 refine (K1.out _).mono ?_
 rintro e w1 ⟨rfl,rfl⟩
 go_wp2_with fail
 exact bodyPost_ret (v := .tuple #[.agg #[.bool true, .int .i64 (max high n), .int .i64 (-1)], .int .i64 n, .bool true]) (zax Tryz.results42 rfl (run_loadVar_row (P:=Tryz.prog) _ _ _ _ _ _ _ (Blk.new1 w _ _ _) Tryz.underlying42 rfl (by kernel_rfl)) rfl rfl) rfl ⟨rfl,Bel.push (Bel.push (Bel.refl w) _) _⟩
end
theorem zlg {high jump q:Int} {w:World} {R:Ending→World→Prop} (b0 : -9223372036854775808≤high) (b1:high≤9223372036854775807) (q0:0≤q) (q1:q≤65535) (g:0≤high) (g2:high≤281474976710656) (g3 : -1≤jump) (g4:jump≤65535) (hnn:¬(0≤Pk.near high q 65536∧Pk.near high q 65536≤high+3000∧high-100≤Pk.near high q 65536)) (hR1:(q=jump∧high<140737488355328)→∀ (e:Ending) (w':World),e = .returned (.tuple #[.agg #[.bool true, .int .i64 (high+Pk.gap high q), .int .i64 (-1)], .int .i64 (high+Pk.gap high q), .bool true])∧Below w.heap.size w w'→R e w') (hR2:¬(q=jump∧high<140737488355328)→∀ (e:Ending) (w':World),e = .returned (.tuple #[.agg #[.bool true, .int .i64 high, .int .i64 ((q+1) % 65536)], .int .i64 0, .bool false])∧Below w.heap.size w w'→R e w'):Calls Tryz.prog 42 #[.agg #[.bool true, .int .i64 high, .int .i64 jump], .int .u16 q] w R:=by
 have HRA:=H9 hR1
 have HRB:=H9 hR2
 clear hR1 hR2
 have k1:=fun W=>zhc high q W q0 q1 b0 b1
 obtain ⟨n,hn⟩:∃ n,n=Pk.near high q 65536:=⟨_,rfl⟩
 rw [← hn] at k1 hnn
 have hnb:=Pk.near_bd16 high q (by omega)
 rw [← hn] at hnb
 obtain ⟨n0,n1,_⟩:=hnb
 have n2:n≤281474976800000:=by omega
 have n3 : -40000≤n:=by omega
 have hv1:=zbp (high+3000) (by omega) (by omega)
 have hv2:=zbp (high-100) (by omega) (by omega)
 have K1:=H9 k1
 clear k1 n0 n1 hn
 have h3:n<0∨(0≤n∧high+3000<n)∨(0≤n∧n≤high+3000∧n<high-100):=by omega
 clear hnn
 go_enter Tryz.func42,Tryz.ntmps42
 go_wp2_with fail
 refine (K1.out _).mono ?_
 rintro e w1 ⟨rfl,rfl⟩
 rcases h3 with h1|⟨h1,h2⟩|⟨h1,h2,h3⟩
 all_goals
  go_upto_region 10 with fail
  by_cases hc:q=jump∧high<140737488355328
  · have HR:=H9 (HRA.out hc)
    obtain ⟨hj,hh⟩:=hc
    have ej:(q==jump)=true:=by rw [beq_iff_eq];exact hj
    obtain ⟨d,hd⟩:∃ d,d=(q-high) % 65536:=⟨_,rfl⟩
    have hmk:=zeg (q-high)
    rw [← hd] at hmk
    have d0:0≤d:=by omega
    have d1:d≤65535:=by omega
    have hg:Pk.gap high q=if d=0 then 65536 else d:=by rw [hd];rfl
    rw [hg] at HR
    clear hd hj hg HRA HRB
    by_cases hd0:d=0
    · rw [if_pos hd0] at HR
      have e0:(d==0)=true:=by rw [beq_iff_eq];exact hd0
      clear hd0
      go_wp2_with fail
      go_region
      go_wp2_with fail
      exact bodyPost_ret (v := .tuple #[.agg #[.bool true, .int .i64 (high+65536), .int .i64 (-1)], .int .i64 (high+65536), .bool true]) (zax Tryz.results42 rfl (run_loadVar_row (P:=Tryz.prog) _ _ _ _ _ _ _ (Blk.new1 w _ _ _).drew Tryz.underlying42 rfl (by kernel_rfl)) rfl rfl) rfl (HR.out _ _ ⟨rfl,Bel.drew (((Bel.refl w).push _).push _)⟩)
    · rw [if_neg hd0] at HR
      have e0:(d==0)=false:=by rw [beq_eq_false_iff_ne];exact hd0
      clear hd0
      go_wp2_with fail
      go_region
      go_wp2_with fail
      exact bodyPost_ret (v := .tuple #[.agg #[.bool true, .int .i64 (high+d), .int .i64 (-1)], .int .i64 (high+d), .bool true]) (zax Tryz.results42 rfl (run_loadVar_row (P:=Tryz.prog) _ _ _ _ _ _ _ (Blk.new1 w _ _ _).drew Tryz.underlying42 rfl (by kernel_rfl)) rfl rfl) rfl (HR.out _ _ ⟨rfl,Bel.drew (((Bel.refl w).push _).push _)⟩)
  · have HR:=H9 (HRB.out hc)
    have hw:IntKind.u16.wrap (q+1)=(q+1) % 65536:=ztn _
    clear HRA HRB
    by_cases hq:q=jump
    · have hh:¬high<140737488355328:=fun h=>hc ⟨hq,h⟩
      have ej:(q==jump)=true:=by rw [beq_iff_eq];exact hq
      clear hq hc
      go_wp2_with fail
      exact bodyPost_ret (v := .tuple #[.agg #[.bool true, .int .i64 high, .int .i64 ((q+1) % 65536)], .int .i64 0, .bool false]) (zax Tryz.results42 rfl (run_loadVar_row (P:=Tryz.prog) _ _ _ _ _ _ _ (Blk.new1 w _ _ _) Tryz.underlying42 rfl (by kernel_rfl)) rfl rfl) rfl (HR.out _ _ ⟨rfl,(((Bel.refl w).push _).push _)⟩)
    · have ej:(q==jump)=false:=by rw [beq_eq_false_iff_ne];exact hq
      clear hq hc
      go_wp2_with fail
      exact bodyPost_ret (v := .tuple #[.agg #[.bool true, .int .i64 high, .int .i64 ((q+1) % 65536)], .int .i64 0, .bool false]) (zax Tryz.results42 rfl (run_loadVar_row (P:=Tryz.prog) _ _ _ _ _ _ _ (Blk.new1 w _ _ _) Tryz.underlying42 rfl (by kernel_rfl)) rfl rfl) rfl (HR.out _ _ ⟨rfl,(((Bel.refl w).push _).push _)⟩)
section
variable (high jump q:Int) (w:World)
theorem zlh (on:Bool) (h:high<0):Calls Tryz.prog 70 #[.agg #[.bool on, .int .i64 high, .int .i64 jump]] w fun e w'=>e = .returned (.bool false)∧Below w.heap.size w w':=by
 go_enter Tryz.func70,Tryz.ntmps70
 go_wp2_with fail
 go_ret
 exact ⟨by first|rfl|simp [g,g2,g3,g4]|simp [*],Bel.push (Bel.refl w) _⟩
theorem zli (on:Bool) (g:0≤high) (h:281474976710656<high):Calls Tryz.prog 70 #[.agg #[.bool on, .int .i64 high, .int .i64 jump]] w fun e w'=>e = .returned (.bool false)∧Below w.heap.size w w':=by
 go_enter Tryz.func70,Tryz.ntmps70
 go_wp2_with fail
 go_ret
 exact ⟨by first|rfl|simp [g,g2,g3,g4]|simp [*],Bel.push (Bel.refl w) _⟩
theorem zlj (on:Bool) (g:0≤high) (g2:high≤281474976710656) (h:jump < -1):Calls Tryz.prog 70 #[.agg #[.bool on, .int .i64 high, .int .i64 jump]] w fun e w'=>e = .returned (.bool false)∧Below w.heap.size w w':=by
 go_enter Tryz.func70,Tryz.ntmps70
 go_wp2_with fail
 go_ret
 exact ⟨by first|rfl|simp [g,g2,g3,g4]|simp [*],Bel.push (Bel.refl w) _⟩
theorem zlk (on:Bool) (g:0≤high) (g2:high≤281474976710656) (g3 : -1≤jump) (h:65535<jump):Calls Tryz.prog 70 #[.agg #[.bool on, .int .i64 high, .int .i64 jump]] w fun e w'=>e = .returned (.bool false)∧Below w.heap.size w w':=by
 go_enter Tryz.func70,Tryz.ntmps70
 go_wp2_with fail
 go_ret
 exact ⟨by first|rfl|simp [g,g2,g3,g4]|simp [*],Bel.push (Bel.refl w) _⟩
theorem zdx (on:Bool) (g:0≤high) (g2:high≤281474976710656) (g3 : -1≤jump) (g4:jump≤65535):Calls Tryz.prog 70 #[.agg #[.bool on, .int .i64 high, .int .i64 jump]] w fun e w'=>e = .returned (.bool true)∧Below w.heap.size w w':=by
 go_enter Tryz.func70,Tryz.ntmps70
 go_wp2_with fail
 go_ret
 exact ⟨by first|rfl|simp [g,g2,g3,g4]|simp [*],Bel.push (Bel.refl w) _⟩
theorem zjl (on:Bool) (h:¬(0≤high∧high≤281474976710656 ∧ -1≤jump∧jump≤65535)):Calls Tryz.prog 70 #[.agg #[.bool on, .int .i64 high, .int .i64 jump]] w fun e w'=>e = .returned (.bool false)∧Below w.heap.size w w':=by
 by_cases h1:high<0
 · exact zlh high jump w on h1
 by_cases h2:281474976710656<high
 · exact zli high jump w on (by omega) h2
 by_cases h3:jump < -1
 · exact zlj high jump w on (by omega) (by omega) h3
 · exact zlk high jump w on (by omega) (by omega) (by omega) (by omega)
theorem zll (q0:0≤q) (q1:q≤65535) (b0 : -9223372036854775808≤high) (b1:high≤9223372036854775807) (c0 : -9223372036854775808≤jump) (c1:jump≤9223372036854775807) (on:Bool) (h:¬(0≤high∧high≤281474976710656 ∧ -1≤jump∧jump≤65535)):Calls Tryz.prog 50 #[.agg #[.bool on, .int .i64 high, .int .i64 jump], .int .u16 q] w fun e w'=>e = .returned (.tuple #[.agg #[.bool false, .int .i64 0, .int .i64 0], .int .i64 0, .bool false])∧Bel w w':=by
 have kv:=fun W=>zjl high jump W on h
 have KV:=H9 kv
 clear kv
 go_enter Tryz.func50,Tryz.ntmps50
 have U:=H9 (Bel.push (Bel.push (Bel.refl w) (.cells #[.bool on, .int .i64 high, .int .i64 jump] 42)) (.cells #[.bool false, .int .i64 0, .int .i64 0] 42))
 have T:=H9 ((Blk.new w 42 #[.bool on, .int .i64 high, .int .i64 jump]).push (.cells #[.bool false, .int .i64 0, .int .i64 0] 42))
 have B:=H9 (Blk.new1 w (.cells #[.bool on, .int .i64 high, .int .i64 jump] 42) 42 #[.bool false, .int .i64 0, .int .i64 0])
 go_wp2_with fail
 refine (KV.out _).mono ?_
 rintro e v ⟨rfl,hb⟩
 have hb0:=H9 hb
 clear hb
 replace U:=H9 (U.out.later hb0.out)
 replace T:=H9 (T.out.later hb0.out)
 replace B:=H9 (B.out.later hb0.out)
 clear hb0 KV
 have t0:=T.out.at 0 _ rfl
 have t1:=T.out.at 1 _ rfl
 have t2:=T.out.at 2 _ rfl
 have tz:=T.out.frozen
 have r0:=B.out.at 0 _ rfl
 have r1:=B.out.at 1 _ rfl
 have r2:=B.out.at 2 _ rfl
 have rz:=B.out.frozen
 have hn10:w.heap.size+1≠w.heap.size:=by omega
 have hn01:w.heap.size≠w.heap.size+1:=by omega
 go_wp2_with fail
 have BF:=Blk.setRow B.out [.bool false, .int .i64 0, .int .i64 0] rfl
 have UF:=below_setRow (g:=w.heap.size+1) (by omega) [.bool false, .int .i64 0, .int .i64 0] _ 0 U.out
 simp only [setRow,Nat.zero_add,Nat.reduceAdd] at BF UF
 exact bodyPost_ret (v := .tuple #[.agg #[.bool false, .int .i64 0, .int .i64 0], .int .i64 0, .bool false]) (zax Tryz.results50 rfl (run_loadVar_row (P:=Tryz.prog) _ _ _ _ _ _ _ BF Tryz.underlying42 rfl (by kernel_rfl)) rfl rfl) rfl ⟨rfl,UF⟩
theorem zlm (q0:0≤q) (q1:q≤65535) (b0 : -9223372036854775808≤high) (b1:high≤9223372036854775807) (c0 : -9223372036854775808≤jump) (c1:jump≤9223372036854775807) (g:0≤high) (g2:high≤281474976710656) (g3 : -1≤jump) (g4:jump≤65535):Calls Tryz.prog 50 #[.agg #[.bool false, .int .i64 high, .int .i64 jump], .int .u16 q] w fun e w'=>e = .returned (.tuple #[.agg #[.bool true, .int .i64 q, .int .i64 (-1)], .int .i64 q, .bool true])∧Bel w w':=by
 have kv:=fun W=>zdx high jump W false g g2 g3 g4
 have KV:=H9 kv
 clear kv
 go_enter Tryz.func50,Tryz.ntmps50
 have U:=H9 (Bel.push (Bel.push (Bel.refl w) (.cells #[.bool false, .int .i64 high, .int .i64 jump] 42)) (.cells #[.bool false, .int .i64 0, .int .i64 0] 42))
 have T:=H9 ((Blk.new w 42 #[.bool false, .int .i64 high, .int .i64 jump]).push (.cells #[.bool false, .int .i64 0, .int .i64 0] 42))
 have B:=H9 (Blk.new1 w (.cells #[.bool false, .int .i64 high, .int .i64 jump] 42) 42 #[.bool false, .int .i64 0, .int .i64 0])
 go_wp2_with fail
 refine (KV.out _).mono ?_
 rintro e v ⟨rfl,hb⟩
 have hb0:=H9 hb
 clear hb
 replace U:=H9 (U.out.later hb0.out)
 replace T:=H9 (T.out.later hb0.out)
 replace B:=H9 (B.out.later hb0.out)
 clear hb0 KV
 have t0:=T.out.at 0 _ rfl
 have t1:=T.out.at 1 _ rfl
 have t2:=T.out.at 2 _ rfl
 have tz:=T.out.frozen
 have r0:=B.out.at 0 _ rfl
 have r1:=B.out.at 1 _ rfl
 have r2:=B.out.at 2 _ rfl
 have rz:=B.out.frozen
 have hn10:w.heap.size+1≠w.heap.size:=by omega
 have hn01:w.heap.size≠w.heap.size+1:=by omega
 go_wp2_with fail
 have BF:=Blk.setRow B.out [.bool true, .int .i64 q, .int .i64 (-1)] rfl
 have UF:=below_setRow (g:=w.heap.size+1) (by omega) [.bool true, .int .i64 q, .int .i64 (-1)] _ 0 U.out
 simp only [setRow,Nat.zero_add,Nat.reduceAdd] at BF UF
 exact bodyPost_ret (v := .tuple #[.agg #[.bool true, .int .i64 q, .int .i64 (-1)], .int .i64 q, .bool true]) (zax Tryz.results50 rfl (run_loadVar_row (P:=Tryz.prog) _ _ _ _ _ _ _ BF Tryz.underlying42 rfl (by kernel_rfl)) rfl rfl) rfl ⟨rfl,UF⟩
theorem zoo (q0:0≤q) (q1:q≤65535) (b0 : -9223372036854775808≤high) (b1:high≤9223372036854775807) (c0 : -9223372036854775808≤jump) (c1:jump≤9223372036854775807) (g:0≤high) (g2:high≤281474976710656) (g3 : -1≤jump) (g4:jump≤65535) (h1:0≤Pk.near high q 65536) (h2:Pk.near high q 65536≤high+3000) (h3:high-100≤Pk.near high q 65536):Calls Tryz.prog 50 #[.agg #[.bool true, .int .i64 high, .int .i64 jump], .int .u16 q] w fun e w'=>e = .returned (.tuple #[.agg #[.bool true, .int .i64 (max high (Pk.near high q 65536)), .int .i64 (-1)], .int .i64 (Pk.near high q 65536), .bool true])∧Bel w w':=by
 have k1:=fun W=>zfz high q W q0 q1 b0 b1
 obtain ⟨n,hn⟩:∃ n,n=Pk.near high q 65536:=⟨_,rfl⟩
 simp only [← hn]
 rw [← hn] at k1 h1 h2 h3
 have hnb:=Pk.near_bd16 high q (by omega)
 rw [← hn] at hnb
 obtain ⟨n0,n1,_⟩:=hnb
 have n2:n≤281474976800000:=by omega
 have n3 : -40000≤n:=by omega
 have hv1:=zbp (high+3000) (by omega) (by omega)
 have hv2:=zbp (high-100) (by omega) (by omega)
 have K1:=H9 k1
 clear k1 n0 n1 hn
 have kv:=fun W=>zdx high jump W true g g2 g3 g4
 have KV:=H9 kv
 clear kv
 go_enter Tryz.func50,Tryz.ntmps50
 have U:=H9 (Bel.push (Bel.push (Bel.refl w) (.cells #[.bool true, .int .i64 high, .int .i64 jump] 42)) (.cells #[.bool false, .int .i64 0, .int .i64 0] 42))
 have T:=H9 ((Blk.new w 42 #[.bool true, .int .i64 high, .int .i64 jump]).push (.cells #[.bool false, .int .i64 0, .int .i64 0] 42))
 have B:=H9 (Blk.new1 w (.cells #[.bool true, .int .i64 high, .int .i64 jump] 42) 42 #[.bool false, .int .i64 0, .int .i64 0])
 go_wp2_with fail
 refine (KV.out _).mono ?_
 rintro e v ⟨rfl,hb⟩
 have hb0:=H9 hb
 clear hb
 replace U:=H9 (U.out.later hb0.out)
 replace T:=H9 (T.out.later hb0.out)
 replace B:=H9 (B.out.later hb0.out)
 clear hb0 KV
 have t0:=T.out.at 0 _ rfl
 have t1:=T.out.at 1 _ rfl
 have t2:=T.out.at 2 _ rfl
 have tz:=T.out.frozen
 have r0:=B.out.at 0 _ rfl
 have r1:=B.out.at 1 _ rfl
 have r2:=B.out.at 2 _ rfl
 have rz:=B.out.frozen
 have hn10:w.heap.size+1≠w.heap.size:=by omega
 have hn01:w.heap.size≠w.heap.size+1:=by omega
 go_wp2_with fail
 refine (K1.out _).mono ?_
 rintro e w1 ⟨rfl,rfl⟩
 go_wp2_with fail
 have BF:=Blk.setRow ((B.out.far (p:=⟨w.heap.size,1,none⟩) (by simp) (.int .i64 (max high n))).far (p:=⟨w.heap.size,2,none⟩) (by simp) (.int .i64 (-1))) [.bool true, .int .i64 (max high n), .int .i64 (-1)] rfl
 have UF:=below_setRow (g:=w.heap.size+1) (by omega) [.bool true, .int .i64 (max high n), .int .i64 (-1)] _ 0 (zal (p:=⟨w.heap.size,2,none⟩) (zal (p:=⟨w.heap.size,1,none⟩) U.out (by simp) (.int .i64 (max high n))) (by simp) (.int .i64 (-1)))
 simp only [setRow,Nat.zero_add,Nat.reduceAdd] at BF UF
 exact bodyPost_ret (v := .tuple #[.agg #[.bool true, .int .i64 (max high n), .int .i64 (-1)], .int .i64 n, .bool true]) (zax Tryz.results50 rfl (run_loadVar_row (P:=Tryz.prog) _ _ _ _ _ _ _ BF Tryz.underlying42 rfl (by kernel_rfl)) rfl rfl) rfl ⟨rfl,UF⟩
end
theorem r79 (s:Nat→Value):((List.range 79).map s).toArray = #[s 0,s 1,s 2,s 3,s 4,s 5,s 6,s 7,s 8,s 9,s 10,s 11,s 12,s 13,s 14,s 15,s 16,s 17,s 18,s 19,s 20,s 21,s 22,s 23,s 24,s 25,s 26,s 27,s 28,s 29,s 30,s 31,s 32,s 33,s 34,s 35,s 36,s 37,s 38,s 39,s 40,s 41,s 42,s 43,s 44,s 45,s 46,s 47,s 48,s 49,s 50,s 51,s 52,s 53,s 54,s 55,s 56,s 57,s 58,s 59,s 60,s 61,s 62,s 63,s 64,s 65,s 66,s 67,s 68,s 69,s 70,s 71,s 72,s 73,s 74,s 75,s 76,s 77,s 78]:=rfl
noncomputable def rf10_code:Code:=((Tryz.f50.body.bind (fromReg 10)).getD .skip)
theorem zln {high jump q:Int} {w v:World} {R:Ending→World→Prop} (T:Hid (Blk v w.heap.size 42 #[.bool true, .int .i64 high, .int .i64 jump])) (B:Hid (Blk v (w.heap.size+1) 42 #[.bool false, .int .i64 0, .int .i64 0])) (U:Hid (Bel w v)) (q0:0≤q) (q1:q≤65535) (g:0≤high) (g2:high≤281474976710656) (g3 : -1≤jump) (g4:jump≤65535) (hR1:(q=jump∧high<140737488355328)→∀ (e:Ending) (w':World),e = .returned (.tuple #[.agg #[.bool true, .int .i64 (high+Pk.gap high q), .int .i64 (-1)], .int .i64 (high+Pk.gap high q), .bool true])∧Below w.heap.size w w'→R e w') (hR2:¬(q=jump∧high<140737488355328)→∀ (e:Ending) (w':World),e = .returned (.tuple #[.agg #[.bool true, .int .i64 high, .int .i64 ((q+1) % 65536)], .int .i64 0, .bool false])∧Below w.heap.size w w'→R e w') (a:Act) (ha:Fr 79 [(1, .int .u16 q),(2, .pointer (some ⟨w.heap.size,0,none⟩)),(4, .pointer (some ⟨w.heap.size+1,0,none⟩))] a):firstWp Tryz.prog rf10_code (bodyPost Tryz.prog Tryz.f50 R) a v:=by
 have hn10:w.heap.size+1≠w.heap.size:=by omega
 have hn01:w.heap.size≠w.heap.size+1:=by omega
 by_cases hc:(q=jump∧high<140737488355328)
 · replace hR1:=hR1 hc
   obtain ⟨hj,hh⟩:=hc
   have ej:(jump==q)=true:=by rw [beq_iff_eq];exact hj.symm
   clear hj hR2
   have hgb:=Pk.gap_bd high q
   have hgm:=Pk.gap_mod high q q0 q1
   have hgl:=Pk.gap_least high q
   obtain ⟨d,hd⟩:∃ d:Nat,(d:Int)=Pk.gap high q:=⟨(Pk.gap high q).toNat,by omega⟩
   rw [← hd] at hgb hgm hgl
   rw [← hd] at hR1
   obtain ⟨d0,d1⟩:=hgb
   have HGM:=H9 hgm
   have HGL:=H9 hgl
   clear hgm hgl hd
   have hv3:=zbp (high+1) (by omega) (by omega)
   have HR:=H9 hR1
   clear hR1
   have t0:=T.out.at 0 _ rfl
   have t1:=T.out.at 1 _ rfl
   have t2:=T.out.at 2 _ rfl
   have tz:=T.out.frozen
   obtain ⟨s_,rfl,e1,e2,e4,_⟩:=ha
   rw [r79,e1,e2,e4]
   clear e1 e2 e4
   refine zay ?_
   intro _ _ _ _
   go_wp2_with fail
   go_loopg [7] d (fun gk s7 wr => ∃ k:Nat,gk+k=d∧k<d∧s7 = .int .i64 (high+((k:Int)+1))∧Hid (wr=v))
   case atStart=>exact ⟨0,rfl,by omega,by simp,H9 rfl⟩
   case round =>
    obtain ⟨k,hgk,hkd,rfl,HW⟩:=hrel
    obtain rfl:wr=v:=HW.out
    clear HW
    have hk0:(0:Int)≤(k:Int):=by omega
    have hv4:=zbp (high+((k:Int)+1)) (by omega) (by omega)
    have hv5:=zbp (high+((k:Int)+1)+1) (by omega) (by omega)
    by_cases hlt:k+1<d
    · have hm:=HGL.out ((k:Int)+1) q0 q1 (by omega) (by omega)
      obtain ⟨x,hx⟩:∃ x,x=high+((k:Int)+1):=⟨_,rfl⟩
      rw [← hx] at hm hv4 hv5 ⊢
      have em:(x.tmod 65536 != q)=true:=by rw [bne_iff_ne,Int.tmod_eq_emod_of_nonneg (by omega)];exact hm
      have em2:(x % 65536 != q)=true:=by rw [bne_iff_ne];exact hm
      have HX:=H9 hx
      have hx0:0≤x:=by omega
      have hx1:x≤281474976800000:=by omega
      clear hx hm
      go_wp2_with fail
      go_roundg (gk-1)
      case measure=>omega
      case rel=>exact ⟨k+1,by omega,hlt,by rw [HX.out];congr 1;omega,H9 rfl⟩
    · have hdk:(d:Int)=(k:Int)+1:=by omega
      have hm:=HGM.out
      rw [hdk] at hm
      obtain ⟨x,hx⟩:∃ x,x=high+((k:Int)+1):=⟨_,rfl⟩
      rw [← hx] at hm hv4 hv5 ⊢
      have em:(x.tmod 65536 != q)=false:=by rw [Int.tmod_eq_emod_of_nonneg (by omega),hm];simp
      have em2:(x % 65536 != q)=false:=by rw [hm];simp
      have hdx:high+(d:Int)=x:=by omega
      have HDX:=H9 hdx
      have hx0:0≤x:=by omega
      have hx1:x≤281474976800000:=by omega
      clear hx hm hdk hdx HGM HGL
      have r0:=B.out.at 0 _ rfl
      have r1:=B.out.at 1 _ rfl
      have r2:=B.out.at 2 _ rfl
      have rz:=B.out.frozen
      go_wp2_with fail
      have BF:=Blk.setRow ((B.out.far (p:=⟨w.heap.size,1,none⟩) (by simp) (.int .i64 x)).far (p:=⟨w.heap.size,2,none⟩) (by simp) (.int .i64 (-1))) [.bool true, .int .i64 x, .int .i64 (-1)] rfl
      have UF:=below_setRow (g:=w.heap.size+1) (by omega) [.bool true, .int .i64 x, .int .i64 (-1)] _ 0 (zal (p:=⟨w.heap.size,2,none⟩) (zal (p:=⟨w.heap.size,1,none⟩) U.out (by simp) (.int .i64 x)) (by simp) (.int .i64 (-1)))
      simp only [setRow,Nat.zero_add,Nat.reduceAdd] at BF UF
      exact bodyPost_ret (v := .tuple #[.agg #[.bool true, .int .i64 x, .int .i64 (-1)], .int .i64 x, .bool true]) (zax Tryz.results50 rfl (run_loadVar_row (P:=Tryz.prog) _ _ _ _ _ _ _ BF Tryz.underlying42 rfl (by kernel_rfl)) rfl rfl) rfl (HR.out _ _ ⟨(by rw [HDX.out]),UF⟩)
 have HR:=H9 (hR2 hc)
 clear hR1 hR2
 by_cases hq:q=jump
 · have hh:¬high<140737488355328:=fun h=>hc ⟨hq,h⟩
   have ej:(jump==q)=true:=by rw [beq_iff_eq];exact hq.symm
   clear hq hc
   have t0:=T.out.at 0 _ rfl
   have t1:=T.out.at 1 _ rfl
   have t2:=T.out.at 2 _ rfl
   have tz:=T.out.frozen
   have r0:=B.out.at 0 _ rfl
   have r1:=B.out.at 1 _ rfl
   have r2:=B.out.at 2 _ rfl
   have rz:=B.out.frozen
   obtain ⟨s_,rfl,e1,e2,e4,_⟩:=ha
   rw [r79,e1,e2,e4]
   clear e1 e2 e4
   refine zay ?_
   intro _ _ _ _
   go_wp2_with fail
   have BF:=Blk.setRow (B.out.far (p:=⟨w.heap.size,2,none⟩) (by simp) (.int .i64 ((q+1) % 65536))) [.bool true, .int .i64 high, .int .i64 ((q+1) % 65536)] rfl
   have UF:=below_setRow (g:=w.heap.size+1) (by omega) [.bool true, .int .i64 high, .int .i64 ((q+1) % 65536)] _ 0 (zal (p:=⟨w.heap.size,2,none⟩) U.out (by simp) (.int .i64 ((q+1) % 65536)))
   simp only [setRow,Nat.zero_add,Nat.reduceAdd] at BF UF
   exact bodyPost_ret (v := .tuple #[.agg #[.bool true, .int .i64 high, .int .i64 ((q+1) % 65536)], .int .i64 0, .bool false]) (zax Tryz.results50 rfl (run_loadVar_row (P:=Tryz.prog) _ _ _ _ _ _ _ BF Tryz.underlying42 rfl (by kernel_rfl)) rfl rfl) rfl (HR.out _ _ ⟨rfl,UF⟩)
 · have ej:(jump==q)=false:=by rw [beq_eq_false_iff_ne];exact fun e=>hq e.symm
   clear hq hc
   have t0:=T.out.at 0 _ rfl
   have t1:=T.out.at 1 _ rfl
   have t2:=T.out.at 2 _ rfl
   have tz:=T.out.frozen
   have r0:=B.out.at 0 _ rfl
   have r1:=B.out.at 1 _ rfl
   have r2:=B.out.at 2 _ rfl
   have rz:=B.out.frozen
   obtain ⟨s_,rfl,e1,e2,e4,_⟩:=ha
   rw [r79,e1,e2,e4]
   clear e1 e2 e4
   refine zay ?_
   intro _ _ _ _
   go_wp2_with fail
   have BF:=Blk.setRow (B.out.far (p:=⟨w.heap.size,2,none⟩) (by simp) (.int .i64 ((q+1) % 65536))) [.bool true, .int .i64 high, .int .i64 ((q+1) % 65536)] rfl
   have UF:=below_setRow (g:=w.heap.size+1) (by omega) [.bool true, .int .i64 high, .int .i64 ((q+1) % 65536)] _ 0 (zal (p:=⟨w.heap.size,2,none⟩) U.out (by simp) (.int .i64 ((q+1) % 65536)))
   simp only [setRow,Nat.zero_add,Nat.reduceAdd] at BF UF
   exact bodyPost_ret (v := .tuple #[.agg #[.bool true, .int .i64 high, .int .i64 ((q+1) % 65536)], .int .i64 0, .bool false]) (zax Tryz.results50 rfl (run_loadVar_row (P:=Tryz.prog) _ _ _ _ _ _ _ BF Tryz.underlying42 rfl (by kernel_rfl)) rfl rfl) rfl (HR.out _ _ ⟨rfl,UF⟩)
theorem zjm {high jump q:Int} {w:World} {R:Ending→World→Prop} (b0 : -9223372036854775808≤high) (b1:high≤9223372036854775807) (q0:0≤q) (q1:q≤65535) (g:0≤high) (g2:high≤281474976710656) (g3 : -1≤jump) (g4:jump≤65535) (hnn:¬(0≤Pk.near high q 65536∧Pk.near high q 65536≤high+3000∧high-100≤Pk.near high q 65536)) (hR1:(q=jump∧high<140737488355328)→∀ (e:Ending) (w':World),e = .returned (.tuple #[.agg #[.bool true, .int .i64 (high+Pk.gap high q), .int .i64 (-1)], .int .i64 (high+Pk.gap high q), .bool true])∧Below w.heap.size w w'→R e w') (hR2:¬(q=jump∧high<140737488355328)→∀ (e:Ending) (w':World),e = .returned (.tuple #[.agg #[.bool true, .int .i64 high, .int .i64 ((q+1) % 65536)], .int .i64 0, .bool false])∧Below w.heap.size w w'→R e w'):Calls Tryz.prog 50 #[.agg #[.bool true, .int .i64 high, .int .i64 jump], .int .u16 q] w R:=by
 have HRA:=H9 hR1
 have HRB:=H9 hR2
 clear hR1 hR2
 have k1:=fun W=>zfz high q W q0 q1 b0 b1
 obtain ⟨n,hn⟩:∃ n,n=Pk.near high q 65536:=⟨_,rfl⟩
 rw [← hn] at k1 hnn
 have hnb:=Pk.near_bd16 high q (by omega)
 rw [← hn] at hnb
 obtain ⟨n0,n1,_⟩:=hnb
 have n2:n≤281474976800000:=by omega
 have n3 : -40000≤n:=by omega
 have hv1:=zbp (high+3000) (by omega) (by omega)
 have hv2:=zbp (high-100) (by omega) (by omega)
 have K1:=H9 k1
 clear k1 n0 n1 hn
 have kv:=fun W=>zdx high jump W true g g2 g3 g4
 have KV:=H9 kv
 clear kv
 go_enter Tryz.func50,Tryz.ntmps50
 have U:=H9 (Bel.push (Bel.push (Bel.refl w) (.cells #[.bool true, .int .i64 high, .int .i64 jump] 42)) (.cells #[.bool false, .int .i64 0, .int .i64 0] 42))
 have T:=H9 ((Blk.new w 42 #[.bool true, .int .i64 high, .int .i64 jump]).push (.cells #[.bool false, .int .i64 0, .int .i64 0] 42))
 have B:=H9 (Blk.new1 w (.cells #[.bool true, .int .i64 high, .int .i64 jump] 42) 42 #[.bool false, .int .i64 0, .int .i64 0])
 go_wp2_with fail
 refine (KV.out _).mono ?_
 rintro e v ⟨rfl,hb⟩
 have hb0:=H9 hb
 clear hb
 replace U:=H9 (U.out.later hb0.out)
 replace T:=H9 (T.out.later hb0.out)
 replace B:=H9 (B.out.later hb0.out)
 clear hb0 KV
 have t0:=T.out.at 0 _ rfl
 have t1:=T.out.at 1 _ rfl
 have t2:=T.out.at 2 _ rfl
 have tz:=T.out.frozen
 have r0:=B.out.at 0 _ rfl
 have r1:=B.out.at 1 _ rfl
 have r2:=B.out.at 2 _ rfl
 have rz:=B.out.frozen
 have hn10:w.heap.size+1≠w.heap.size:=by omega
 have hn01:w.heap.size≠w.heap.size+1:=by omega
 go_wp2_with fail
 refine (K1.out _).mono ?_
 rintro e w1 ⟨rfl,rfl⟩
 clear t0 t1 t2 tz r0 r1 r2 rz
 have t0:=T.out.at 0 _ rfl
 have t1:=T.out.at 1 _ rfl
 have t2:=T.out.at 2 _ rfl
 have tz:=T.out.frozen
 by_cases h1:0≤n
 · by_cases h2:n≤high+3000
   · have h3:n<high-100:=by omega
     clear hnn
     go_upto_region 10 with fail
     refine zbk (by assumption) (by assumption) ?_
     exact zln T B U q0 q1 g g2 g3 g4 HRA.out HRB.out _ (Fr.mk rfl ⟨rfl,rfl,rfl,trivial⟩)
   · replace h2:=Int.not_le.1 h2
     clear hnn
     go_upto_region 10 with fail
     refine zbk (by assumption) (by assumption) ?_
     exact zln T B U q0 q1 g g2 g3 g4 HRA.out HRB.out _ (Fr.mk rfl ⟨rfl,rfl,rfl,trivial⟩)
 · replace h1:=Int.not_le.1 h1
   clear hnn
   go_upto_region 10 with fail
   refine zbk (by assumption) (by assumption) ?_
   exact zln T B U q0 q1 g g2 g3 g4 HRA.out HRB.out _ (Fr.mk rfl ⟨rfl,rfl,rfl,trivial⟩)
section
variable (on:Bool) (high jump q:Int) (w:World)
theorem zop (q0:0≤q) (q1:q≤65535) (b0 : -9223372036854775808≤high) (b1:high≤9223372036854775807) (c0 : -9223372036854775808≤jump) (c1:jump≤9223372036854775807):Calls Tryz.prog 42 #[.agg #[.bool on, .int .i64 high, .int .i64 jump], .int .u16 q] w fun e w'=>e = .returned (.tuple #[.agg (Pk.follow ⟨on,high,jump⟩ q).1.row.toArray, .int .i64 (Pk.follow ⟨on,high,jump⟩ q).2.1, .bool (Pk.follow ⟨on,high,jump⟩ q).2.2])∧Bel w w':=by
 unfold Pk.follow
 by_cases hok:Pk.Tr.ok ⟨on,high,jump⟩
 rotate_left
 · rw [if_pos hok]
   have hn:¬(0≤high∧high≤281474976710656 ∧ -1≤jump∧jump≤65535):=hok
   by_cases h1:high<0
   · exact zlc high jump q w q0 q1 b0 b1 c0 c1 on h1
   by_cases h2:281474976710656<high
   · exact zld high jump q w q0 q1 b0 b1 c0 c1 on (by omega) h2
   by_cases h3:jump < -1
   · exact zle high jump q w q0 q1 b0 b1 c0 c1 on (by omega) (by omega) h3
   · exact zlf high jump q w q0 q1 b0 b1 c0 c1 on (by omega) (by omega) (by omega) (by omega)
 rw [if_neg (fun h=>h hok)]
 obtain ⟨g,g2,g3,g4⟩:0≤high∧high≤281474976710656 ∧ -1≤jump∧jump≤65535:=hok
 cases on
 · rw [if_pos rfl]
   exact zon high jump q w q0 q1 b0 b1 c0 c1 g g2 g3 g4
 rw [if_neg (by simp)]
 by_cases hin:0≤Pk.near high q 65536∧Pk.near high q 65536≤high+3000∧high-100≤Pk.near high q 65536
 · rw [if_pos hin]
   exact zrd high jump q w q0 q1 b0 b1 c0 c1 g g2 g3 g4 hin.1 hin.2.1 hin.2.2
 rw [if_neg hin]
 refine zlg b0 b1 q0 q1 g g2 g3 g4 hin (fun hj e w' h => ?_) (fun hj e w' h => ?_)
 · rw [if_pos hj]
   exact h
 · rw [if_neg hj]
   exact h
theorem zlo (q0:0≤q) (q1:q≤65535) (b0 : -9223372036854775808≤high) (b1:high≤9223372036854775807) (c0 : -9223372036854775808≤jump) (c1:jump≤9223372036854775807):Calls Tryz.prog 50 #[.agg #[.bool on, .int .i64 high, .int .i64 jump], .int .u16 q] w fun e w'=>e = .returned (.tuple #[.agg (Pk.follow ⟨on,high,jump⟩ q).1.row.toArray, .int .i64 (Pk.follow ⟨on,high,jump⟩ q).2.1, .bool (Pk.follow ⟨on,high,jump⟩ q).2.2])∧Bel w w':=by
 unfold Pk.follow
 by_cases hok:Pk.Tr.ok ⟨on,high,jump⟩
 rotate_left
 · rw [if_pos hok]
   exact zll high jump q w q0 q1 b0 b1 c0 c1 on hok
 rw [if_neg (fun h=>h hok)]
 obtain ⟨g,g2,g3,g4⟩:0≤high∧high≤281474976710656 ∧ -1≤jump∧jump≤65535:=hok
 cases on
 · rw [if_pos rfl]
   exact zlm high jump q w q0 q1 b0 b1 c0 c1 g g2 g3 g4
 rw [if_neg (by simp)]
 by_cases hin:0≤Pk.near high q 65536∧Pk.near high q 65536≤high+3000∧high-100≤Pk.near high q 65536
 · rw [if_pos hin]
   exact zoo high jump q w q0 q1 b0 b1 c0 c1 g g2 g3 g4 hin.1 hin.2.1 hin.2.2
 rw [if_neg hin]
 refine zjm b0 b1 q0 q1 g g2 g3 g4 hin (fun hj e w' h => ?_) (fun hj e w' h => ?_)
 · rw [if_pos hj]
   exact h
 · rw [if_neg hj]
   exact h
end
theorem zre {w W:World} {p:Sb.Pt} {A:Option Addr} {l:List TW} {n c:Nat} {x:Rx} {now:Int} (C:RC w p A l n c x now) (S:RS w W p A n c x) {R:Ending→World→Prop} {gt:Nat} {TC:Array Value} (BT:Blk W gt 108 TC) (hgt:w.heap.size<gt) (F:Pk.Tr) (fn:Int) (ok:Bool) (hF:Pk.follow p.tk x.sq=(F,fn,ok)) (hk0 : -9223372036854775808≤p.tk.high) (hk1:p.tk.high≤9223372036854775807) (hk2 : -9223372036854775808≤p.tk.jump) (hk3:p.tk.jump≤9223372036854775807)
 (h:∀ (W:World) (a:Act),RS w W { p with tk:=F } A n c x→Blk W gt 108 TC→FrU w.heap.size now gt p.tk.on fn ok a→firstWp Tryz.prog rcS_code (bodyPost Tryz.prog Tryz.f11 R) a W) (a:Act) (ha:FrB w.heap.size now gt true a):firstWp Tryz.prog rcB_code (bodyPost Tryz.prog Tryz.f11 R) a W:=by
 obtain ⟨s,rfl,e1,e3,e5,e6,e11,e12,_⟩:=ha
 rw [r164,e1,e3,e5,e6,e11,e12]
 clear e1 e3 e5 e6 e11 e12
 have k3:∀ W,Calls Tryz.prog 42 #[.agg #[.bool p.tk.on, .int .i64 p.tk.high, .int .i64 p.tk.jump], .int .u16 x.sq] W fun e w'=>e = .returned (.tuple #[.agg #[.bool F.on, .int .i64 F.high, .int .i64 F.jump], .int .i64 fn, .bool ok])∧Bel W w':=fun W=>by
  have h:=zop p.tk.on p.tk.high p.tk.jump x.sq W C.q0 C.q1 hk0 hk1 hk2 hk3
  have e:(⟨p.tk.on,p.tk.high,p.tk.jump⟩:Pk.Tr)=p.tk:=rfl
  rw [e,hF] at h
  exact h
 replace k3:=H9 k3
 replace BT:=H9 BT
 clear hF
 have x2:=S.c2
 have x28:=S.b0.tk.1
 refine zay ?_
 intro _ _ _ _
 go_upto_region 14 with fail
 go_wp2_with (first|(refine zab rfl 42 (.tmp 71) rfl (w.heap.size) 28 rfl 48 (PL p A n c) S.b0 3 _ Tryz.underlying42 zcx (show 28+3≤48 by decide) (#[.bool p.tk.on, .int .i64 p.tk.high, .int .i64 p.tk.jump]) (by rfl) rfl ?_)|fail)
 refine (k3.out _).mono ?_
 rintro e w4 ⟨rfl,hb1⟩
 replace S:=S.later hb1
 replace BT:=H9 (BT.out.later hb1)
 clear hb1 k3 x2 x28
 have BK:=H9 (Blk.new w4 42 #[.bool F.on, .int .i64 F.high, .int .i64 F.jump])
 obtain ⟨g3,hg3⟩:∃ g,g=w4.heap.size:=⟨_,rfl⟩
 replace S:=S.push (.cells #[.bool F.on, .int .i64 F.high, .int .i64 F.jump] 42)
 replace BT:=H9 (BT.out.push (.cells #[.bool F.on, .int .i64 F.high, .int .i64 F.jump] 42))
 obtain ⟨W5,hW5⟩:∃ W,W=w4.alloc (Obj.cells #[.bool F.on, .int .i64 F.high, .int .i64 F.jump] 42):=⟨_,rfl⟩
 rw [← hg3,← hW5] at BK
 go_upto_region 15 with fail
 rw [← hg3]
 rw [← hW5] at S BT ⊢
 clear hW5 hg3
 go_upto_region 16 with (first|(refine zab rfl 42 (.tmp 14) rfl (g3) 0 rfl 42 ([.bool F.on, .int .i64 F.high, .int .i64 F.jump]) BK.out 3 _ Tryz.underlying42 zcx (show 0+3≤3 by decide) (#[.bool F.on, .int .i64 F.high, .int .i64 F.jump]) (by rfl) rfl ?_)|(refine zac rfl 42 (.tmp 80) (.tmp 79) rfl (w.heap.size) 28 rfl 48 (PL p A n c) S.b0 ([.bool F.on, .int .i64 F.high, .int .i64 F.jump]) rfl zcx (show 28+3≤48 by decide) rfl (PL { p with tk:=F } A n c) rfl ?_;intro WF BF OF)|fail)
 replace S:=S.over OF BF
 replace BT:=H9 (OF.blk BT.out (by omega))
 clear BF OF BK
 refine zbk (by assumption) (by assumption) ?_
 exact h _ _ S BT.out FrU.mk
theorem zxf {w W:World} {p:Sb.Pt} {A:Option Addr} {l:List TW} {n c:Nat} {x:Rx} {now:Int} (C:RC w p A l n c x now) (S:RS w W p A n c x) {R:Ending→World→Prop} {gt:Nat} {on:Bool} {fn:Int}
 (h:∀ (a:Act),FrC w.heap.size now gt on fn a→firstWp Tryz.prog rcC_code (bodyPost Tryz.prog Tryz.f11 R) a W) (a:Act) (ha:FrU w.heap.size now gt on fn true a):firstWp Tryz.prog rcS_code (bodyPost Tryz.prog Tryz.f11 R) a W:=by
 obtain ⟨s,rfl,e1,e3,e5,e6,e11,e13,e15,e16,_⟩:=ha
 rw [r164,e1,e3,e5,e6,e11,e13,e15,e16]
 clear e1 e3 e5 e6 e11 e13 e15 e16
 refine zay ?_
 intro _ _ _ _
 go_upto_region 18 with fail
 refine zbk (by assumption) (by assumption) ?_
 exact h _ FrC.mk
end Go.Proofs.YtahbecinkciahaaGreat
namespace Go.Proofs.YtahbecinkciahaaGreat
open Go.RowKit
theorem zhz {a b:Bool} (h:a=b):Ending.returned (.bool a) = .returned (.bool b):=by rw [h]
section
variable (lo hi:Int) (A:Option Addr) (xs:List Int) (c n:Nat) (w:World)
theorem zeh (hn:xs.length=n) (hA:IntsAt w w.heap.size .i64 A xs) (hl:n≤100) :
 Calls Tryz.prog 145 #[.int .i64 lo, .int .i64 hi, .slice A n c] w fun e w'=>e = .returned (.bool (Rep.all lo hi xs))∧w=w':=by
 subst hn
 have HA:=H9 hA
 clear hA
 go_enter Tryz.func145,Tryz.ntmps145
 go_wp2
 go_loop [11] (fun i => ∃ k:Nat,k≤xs.length∧i = .int .i64 k∧Hid (Rep.all lo hi (xs.take k)=true)) (fun i=>xs.length-(intOf i).toNat)
 case atStart=>exact ⟨0,Nat.zero_le _,rfl,H9 rfl⟩
 case round =>
  obtain ⟨k,hk,rfl,HK⟩:=hrel
  by_cases hlt:k<xs.length
  · obtain ⟨b,off,rfl,hbB,qc⟩:=HA.out (by omega)
    have hc:=qc k hlt
    have hst:=Rep.all_take lo hi xs k hlt
    rw [HK.out,Bool.true_and] at hst
    have HS:=H9 hst
    have HF:=H9 (Rep.all_false lo hi xs k hlt)
    clear qc hst
    have hi0:(0:Int)≤(k:Int):=by omega
    have hi1:(k:Int)<(xs.length:Int):=by omega
    generalize xs.getD k 0=x at *
    by_cases h1:x<lo
    · have t1:decide (x<lo)=true:=by simpa using h1
      have HB:=H9 (HF.out (by simp [Rep.inB];omega))
      go_wp2
      go_ret
      exact ⟨zhz HB.out.symm,rfl⟩
    · have t1:decide (x<lo)=false:=by simpa using h1
      by_cases h2:hi<x
      · have t2:decide (hi<x)=true:=by simpa using h2
        have HB:=H9 (HF.out (by simp [Rep.inB];omega))
        go_wp2
        go_ret
        exact ⟨zhz HB.out.symm,rfl⟩
      · have t2:decide (hi<x)=false:=by simpa using h2
        have hin:Rep.inB lo hi x=true:=by rw [Rep.inB_iff];omega
        have HI:=H9 hin
        clear hin
        go_wp2
        go_round
        case rel=>exact ⟨k+1,by omega,by go_num,H9 (by rw [HS.out,HI.out])⟩
        case measure=>simp [intOf];omega
  · obtain rfl:k=xs.length:=by omega
    have hf:=HK.out
    rw [List.take_length] at hf
    have HF:=H9 hf
    clear hf
    go_wp2
    go_ret
    exact ⟨zhz HF.out.symm,rfl⟩
end
section
variable (x y z:Int) (w:World)
theorem zgb:Calls Tryz.prog 100 #[.int .i64 x] w fun e w'=>e = .returned (.bool (Rep.small x))∧w=w':=by
 have h:Rep.small x=(decide (-281474976710656≤x)&&decide (x≤281474976710656)):=rfl
 rw [h]
 cases h1:decide (-281474976710656≤x)<;>cases h2:decide (x≤281474976710656)
 all_goals
  clear h
  go_enter Tryz.func100,Tryz.ntmps100
  go_wp2
  go_ret
  exact ⟨rfl,rfl⟩
theorem zam (m0:0≤y) (m1:y≤1152921504606846976):Calls Tryz.prog 116 #[.int .i64 x, .int .i64 y] w fun e w'=>e = .returned (.bool (Rep.inB (-y) y x))∧w=w':=by
 have h:Rep.inB (-y) y x=(decide (-y≤x)&&decide (x≤y)):=rfl
 rw [h]
 cases h1:decide (-y≤x)<;>cases h2:decide (x≤y)
 all_goals
  clear h
  go_enter Tryz.func116,Tryz.ntmps116
  go_wp2
  go_ret
  exact ⟨rfl,rfl⟩
end
end Go.Proofs.YtahbecinkciahaaGreat
