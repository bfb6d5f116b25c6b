/- The rules that settle a frame's slots, in one. -/
import Derived.WalkKit
import Derived.Lib.Hide
import Derived.Test.YtbcgnddpkiemoaaGreatRows
import Derived.WalkSpells
import Derived.WalkLawsBesides
import Derived.Outline
import Derived.Below
import Derived.Deep.Draws
import Derived.Deep.AppendLies
import Derived.Deep.OwnRows
import Derived.Laws.BytesArg
import Derived.Laws.OwnMore
import Derived.Deep.MidRow
import Derived.ProofKit
import Derived.OpenShut
import Derived.ShutString
import Derived.ChangeOld
import Derived.SizedLaws
import Derived.Deep.Slices
import Derived.Deep.Strs
import Derived.Lib.SmallJoins
import Derived.Deep.RegionHeld3
import Derived.Deep.DrawnRows
import Derived.Deep.DeepCutAuto
import Derived.Lib.BitFns
import Derived.Laws.Rows
import Derived.Deep.RegionHeldLaw
import Derived.Laws.Bits64b
import Derived.BigQuiet
import Derived.Deep.QuietTactic
import Derived.Maps.AppendAt
import Derived.OwnWalk
set_option linter.unusedVariables false
set_option linter.unusedSimpArgs false
set_option maxRecDepth 100000
set_option maxHeartbeats 12800000
namespace Go.Proofs.YtbcgnddpkiemoaaGreat
variable {v v0 v1 v2 v3:Value} {b i base n c B o j g B' m g':Nat} {a p a0 a1:Addr} {lo hi now high:Int} {e t y0 y1:TypeId} {w w' W w1 W' w0:World} {K:IntKind} {P:Program} {A A1:Option Addr} {tmps cs:Array Value} {L xs:List Value} {ops:Array Oper}
section
open Go.RowKit
theorem Z9 {p:Prop} (h:p):Hid p:=Lib.hid h
theorem q9 {Q:Exit→Act→World→Prop} (A:∀ (ch:List PanicEntry) (a:Act) (d:Tmp) (u:Value) (w:World),Q (.panic ch) (a.put (some d) u) w→Q (.panic ch) a w) {d:Option Tmp} (c:List PanicEntry) (a:Act) (w:World) (h:Q (.panic c) (a.put d v) w):Q (.panic c) a w:=by
 cases d
 · exact h
 · exact A _ _ _ _ _ h
theorem ss9:(∀ (α : Type) (xs:List α) (i:Nat) (h:i<xs.toArray.size),xs.toArray[i]'h=xs[i]'(by simpa using h))∧(∀ (α : Type) (a : α) (l:List α) (h:0<(a::l).length),(a::l)[0]'h=a)∧(∀ (α : Type) (a : α) (l:List α) (i:Nat) (h:i+1<(a::l).length),(a::l)[i+1]'h=l[i]'(by simpa using h)) ∧
 (∀ (a:Act) (d:Tmp) (v:Value),a.put (some d) v = { a with tmps:=a.tmps.setIfInBounds d v })∧(∀ (a:Act) (v:Value),a.put none v=a)∧(∀ (α : Type) (xs:List α) (i:Nat) (a : α),xs.toArray.setIfInBounds i a=(xs.set i a).toArray)∧(∀ (α : Type) (a b : α) (l:List α),(a::l).set 0 b=b::l)∧(∀ (α : Type) (a b : α) (l:List α) (i:Nat),(a::l).set (i+1) b=a::l.set i b) :=
 ⟨fun _ _ _ _=>List.getElem_toArray _,fun _ _ _ _=>rfl,fun _ _ _ _ _=>rfl,fun _ _ _=>rfl,fun _ _=>rfl,fun _ _ _ _=>List.setIfInBounds_toArray _ _ _,fun _ _ _ _=>rfl,fun _ _ _ _ _=>rfl⟩
theorem nm9 {α:Sort _} (a:α):∃ x,x=a:=⟨a,rfl⟩
theorem rl9:(∀ n:Nat,List.range n=List.range.loop n [])∧(∀ (n:Nat) (l:List Nat),List.range.loop (n+1) l=List.range.loop n (n::l))∧(∀ l:List Nat,List.range.loop 0 l=l)∧(∀ s:Nat→Value,List.map s []=[])∧(∀ (s:Nat→Value) (a:Nat) (l:List Nat),List.map s (a::l)=s a::List.map s l):=⟨fun _=>rfl,fun _ _=>rfl,fun _=>rfl,fun _=>rfl,fun _ _ _=>rfl⟩
end
namespace Cmp
open Go.RowKit
def all2:Nat→Nat→(Nat→Bool)→Bool
 | 0,b,p=>p b
 | k+1,b,p=>all2 k b p&&all2 k (b+2 ^ k) p
theorem zgn {p:Nat→Bool} : ∀ {k b:Nat}, all2 k b p=true→∀ n,b≤n→n<b+2 ^ k→p n=true
 | 0, b, h, n, h1, h2 => by
   obtain rfl:n=b:=by simp at h2;omega
   exact h
 | k + 1, b, h, n, h1, h2 => by
   simp only [all2,Bool.and_eq_true] at h
   by_cases hn:n<b+2 ^ k
   · exact zgn h.1 n h1 hn
   · exact zgn h.2 n (by omega) (by rw [Nat.pow_succ] at h2;omega)
theorem byte_all {p:Nat→Prop} [DecidablePred p] (H:all2 8 0 (fun b=>decide (p b))=true):∀ b,b<256→p b :=
 fun b h=>of_decide_eq_true (zgn H b (by omega) (by omega))
def expo (m:Nat):Nat :=
 if m<256 then 0 else if m<512 then 1 else if m<1024 then 2 else if m<2048 then 3 else if m<4096 then 4 else if m<8192 then 5 else if m<16384 then 6 else 7
theorem expo_le (m:Nat):expo m≤7:=by unfold expo;(repeat' split)<;>omega
def muRaw (jB m:Nat):Nat:=jB-16*expo m-m / 2 ^ (expo m+3) % 16
def magMu (x:Int):Nat:=min x.natAbs 32635+132
def mu (x:Int):Nat:=muRaw (if x<0 then 127 else 255) (magMu x)
def fromMu (b:Nat):Int :=
 let c:=255-b
 let v:Int:=((8*(c % 16)+132)*2 ^ (c / 16 % 8)-132:Nat)
 if 128≤c then -v else v
def magA (x:Int):Nat:=if x<0 then (-x-1).toNat else x.toNat
def aRaw (s m:Nat):Nat:=s+16*expo m+m / 2 ^ (if expo m=0 then 4 else expo m+3) % 16
def aCode (x:Int):Nat:=aRaw (if x<0 then 0 else 128) (magA x) ^^^ 85
def fromAc (c:Nat):Int :=
 let v:Int:=(if c / 16 % 8=0 then 16*(c % 16)+8 else (16*(c % 16)+264)*2 ^ (c / 16 % 8-1):Nat)
 if c<128 then -v else v
def fromA (b:Nat):Int:=fromAc (b ^^^ 85)
def pow2 (n:Int):Int:=2 ^ n.toNat
theorem q16 (m:Int) (k:Nat) (h:0≤m):(m / 2 ^ k).tmod 16=((m.toNat / 2 ^ k % 16:Nat):Int):=by
 obtain ⟨n,rfl⟩:=Int.eq_ofNat_of_zero_le h
 have:((n:Int) / 2 ^ k)=((n / 2 ^ k:Nat):Int):=by simp
 rw [this,Int.toNat_natCast]
 generalize n / 2 ^ k=q
 rw [Int.tmod_eq_emod_of_nonneg (by omega)]
 omega
theorem mu_close (x:Int) (A:Nat) (m:Int) (k:Nat) (ht:A=if x<0 then 127 else 255) (hm:m=magMu x) (hk:k=expo m.toNat) :
 wrap64 ((A:Int)-16*(k:Int)-(m / 2 ^ (k+3)).tmod 16) % 256=(mu x:Nat):=by
 have B:=expo_le m.toNat
 rw [q16 m (k+3) (by rw [hm];omega)]
 unfold mu muRaw
 rw [← ht]
 have e:m.toNat=magMu x:=by rw [hm];rfl
 rw [e] at hk B ⊢
 rw [← hk]
 have C:magMu x / 2 ^ (k+3) % 16<16:=Nat.mod_lt _ (by omega)
 generalize magMu x / 2 ^ (k+3) % 16=q at C ⊢
 rw [← hk] at B
 have D:127≤A∧A≤255:=by rw [ht];split<;>omega
 rw [IntWalk.wrap64_in _ ⟨by omega,by omega⟩]
 omega
theorem mu_lt (x:Int):mu x<256:=by
 unfold mu muRaw;split<;>omega
theorem aRaw_lt (x:Int):aRaw (if x<0 then 0 else 128) (magA x)<256:=by
 have:=expo_le (magA x)
 unfold aRaw
 have:∀ a b,a / b % 16<16:=fun _ _=>Nat.mod_lt _ (by omega)
 have A:=this (magA x) (2 ^ (if expo (magA x)=0 then 4 else expo (magA x)+3))
 generalize magA x / 2 ^ (if expo (magA x)=0 then 4 else expo (magA x)+3) % 16=q at A ⊢
 split<;>omega
theorem aCode_lt (x:Int):aCode x<256:=Nat.xor_lt_two_pow (n:=8) (aRaw_lt x) (by omega)
theorem xor_u8:∀ c:Nat,c<256→bits .xor .u8 (c:Int) 85=((c ^^^ 85:Nat):Int):=by
 have h:all2 8 0 (fun c:Nat=>decide (bits .xor .u8 (c:Int) 85=((c ^^^ 85:Nat):Int)))=true:=by decide +kernel
 intro c hc
 exact of_decide_eq_true (zgn h c (by omega) (by omega))
theorem a_close (x:Int) (s:Nat) (m:Int) (k t:Nat) (hs:s=if x<0 then 0 else 128) (hm:m=magA x) (hk:k=expo m.toNat) (ht:t=if k=0 then 4 else k+3) :
 wrap64 ((s:Int)+16*(k:Int)+(m / 2 ^ t).tmod 16) % 256=(aRaw (if x<0 then 0 else 128) (magA x):Nat):=by
 have A:=expo_le m.toNat
 rw [q16 m t (by rw [hm];omega)]
 unfold aRaw
 rw [← hs]
 have e:m.toNat=magA x:=by rw [hm];rfl
 rw [e] at hk A ⊢
 rw [← hk,← ht]
 rw [← hk] at A
 have B:magA x / 2 ^ t % 16<16:=Nat.mod_lt _ (by omega)
 generalize magA x / 2 ^ t % 16=q at B ⊢
 have C:s≤128:=by rw [hs];split<;>omega
 rw [IntWalk.wrap64_in _ ⟨by omega,by omega⟩]
 omega
theorem a_close0 (x:Int) (s:Nat) (m:Int) (k:Nat) (hs:s=if x<0 then 0 else 128) (hm:m=magA x) (hk:k=expo m.toNat) (h0:k=0) :
 (s:Int)+16*(k:Int)+m / 16 % 16=(aRaw (if x<0 then 0 else 128) (magA x):Nat):=by
 unfold aRaw
 rw [← hs]
 have e:m.toNat=magA x:=by rw [hm];rfl
 rw [e] at hk
 rw [← hk,h0,hm]
 simp
theorem fromMu_bd:∀ b,b<256 → -32124≤fromMu b∧fromMu b≤32124:=byte_all (by decide +kernel)
theorem fromA_bd:∀ b,b<256 → -32256≤fromA b∧fromA b≤32256:=byte_all (by decide +kernel)
def backA (m:Nat):Nat:=if expo m=0 then 16*(m / 2 ^ (if expo m=0 then 4 else expo m+3) % 16)+8 else (16*(m / 2 ^ (if expo m=0 then 4 else expo m+3) % 16)+264)*2 ^ (expo m-1)
def muZ (x:Int):Int:=(mu x:Nat)
def aZ (x:Int):Int:=(aCode x:Nat)
def fromMuZ (b:Int):Int:=fromMu b.toNat
def fromAZ (b:Int):Int:=fromA b.toNat
end Cmp
section
open Go.RowKit
theorem zbw {k:IntKind} {a b:Int} (h:a=b):Ending.returned (.int k a) = .returned (.int k b):=by rw [h]
theorem zkh (k:Nat) (h:k<7):wrap64 (2 ^ (k+8))=2 ^ (k+8):=by
 have:∀ k:Fin 7,wrap64 (2 ^ (k.val+8))=2 ^ (k.val+8):=by decide +kernel
 exact this ⟨k,h⟩
theorem zuj (m:Int) (k:Nat) (h0:0≤m) (h1:m≤32767) (hk:k<7) (B:k=0∨2 ^ (k+7)≤m) (hlt:m<wrap64 (2 ^ (k+8))):(k:Int)=(Cmp.expo m.toNat:Nat):=by
 obtain ⟨n,rfl⟩:=Int.eq_ofNat_of_zero_le h0
 rw [zkh k hk] at hlt
 simp only [Int.toNat_natCast]
 have A:k=0∨k=1∨k=2∨k=3∨k=4∨k=5∨k=6:=by omega
 unfold Cmp.expo
 rcases A with rfl|rfl|rfl|rfl|rfl|rfl|rfl<;>simp at B hlt<;>(repeat' split)<;>omega
theorem zqy (m:Int) (h0:0≤m) (h1:m≤32767) (A:2 ^ (7+7)≤m):7=((Cmp.expo m.toNat:Nat):Int):=by
 obtain ⟨n,rfl⟩:=Int.eq_ofNat_of_zero_le h0
 simp only [Int.toNat_natCast]
 unfold Cmp.expo
 simp at A
 (repeat' split)<;>omega
theorem zhm (m:Int) (w:World) (h0:0≤m) (h1:m≤32767) :
 Calls Tryz.prog 163 #[.int .i64 m] w fun e w'=>e = .returned (.int .i64 (Cmp.expo m.toNat))∧w'=w:=by
 go_enter Tryz.func163,Tryz.ntmps163
 go_wp2
 go_loop [4] (fun i => ∃ k:Nat,k≤7∧(k=0∨2 ^ (k+7)≤m)∧i = .int .i64 k) (fun i=>7-(intOf i).toNat)
 case atStart=>exact ⟨0,by omega, .inl rfl,rfl⟩
 case round =>
  obtain ⟨k,hk,B,rfl⟩:=hrel
  have H:=Z9 B
  clear B
  go_wp2
  · go_ret
    exact ⟨zbw (zuj m k h0 h1 (by omega) H.out (by assumption)),rfl⟩
  · have hlt:(k:Int)<7:=by assumption
    have A:wrap64 (2 ^ (k+8))≤m:=by assumption
    rw [zkh k (by omega)] at A
    go_round
    case rel=>exact ⟨k+1,by omega, .inr A,by go_num⟩
    case measure=>simp [intOf];omega
  · have C:k=7:=by omega
    subst C
    go_ret
    exact ⟨zbw (zqy m h0 h1 (H.out.resolve_left (by omega))),rfl⟩
theorem zck (m:Int) (w:World) (h0:0≤m) (h1:m≤32767) :
 Calls Tryz.prog 163 #[.int .i64 m] w fun e w' => ∃ k:Nat,k≤7∧Hid (k=Cmp.expo m.toNat)∧e = .returned (.int .i64 k)∧w=w' :=
 (zhm m w h0 h1).mono fun e w' ⟨he,hw⟩=>⟨Cmp.expo m.toNat,Cmp.expo_le _,rfl,he,hw.symm⟩
theorem zwv (x:Int) (w:World) (h0 : -32768≤x) (h1:x≤32767) :
 Calls Tryz.prog 161 #[.int .i16 x] w fun e w'=>e = .returned (.int .u8 (Cmp.mu x))∧w=w':=by
 by_cases hx:x<0
 · by_cases B:32635 < -x
   all_goals
    go_enter Tryz.func161,Tryz.ntmps161
    go_wp2_with (go_at_call 163;refine (zck _ _ (by omega) (by omega)).mono ?_;rintro e w' ⟨k,hk,A,rfl,rfl⟩)
    go_ret
    refine ⟨zbw (Cmp.mu_close x 127 _ k (by rw [if_pos hx]) (by unfold Cmp.magMu;omega) ?_),rfl⟩
    rw [A.out]
 · by_cases B:32635<x
   all_goals
    go_enter Tryz.func161,Tryz.ntmps161
    go_wp2_with (go_at_call 163;refine (zck _ _ (by omega) (by omega)).mono ?_;rintro e w' ⟨k,hk,A,rfl,rfl⟩)
    go_ret
    refine ⟨zbw (Cmp.mu_close x 255 _ k (by rw [if_neg (by omega)]) (by unfold Cmp.magMu;omega) ?_),rfl⟩
    rw [A.out]
theorem zng (x:Int) (s:Nat) (m:Int) (k:Nat) (hs:s=if x<0 then 0 else 128) (hm:m=Cmp.magA x) (hk:k=Cmp.expo m.toNat) (h0:k≠0) :
 bits .xor .u8 (wrap64 ((s:Int)+16*(k:Int)+(m / 2 ^ (k+3)).tmod 16) % 256) 85=(Cmp.aCode x:Nat):=by
 rw [Cmp.a_close x s m k (k+3) hs hm hk (by rw [if_neg h0]),Cmp.xor_u8 _ (Cmp.aRaw_lt x)]
 rfl
theorem zki (x:Int) (s:Nat) (m:Int) (k:Nat) (hs:s=if x<0 then 0 else 128) (hm:m=Cmp.magA x) (hk:k=Cmp.expo m.toNat) (h0:k=0) :
 bits .xor .u8 ((s:Int)+16*(k:Int)+m / 16 % 16) 85=(Cmp.aCode x:Nat):=by
 rw [Cmp.a_close0 x s m k hs hm hk h0,Cmp.xor_u8 _ (Cmp.aRaw_lt x)]
 rfl
theorem zyr (x:Int) (w:World) (h0 : -32768≤x) (h1:x≤32767) :
 Calls Tryz.prog 166 #[.int .i16 x] w fun e w'=>e = .returned (.int .u8 (Cmp.aCode x))∧w=w':=by
 by_cases hx:x<0
 · go_enter Tryz.func166,Tryz.ntmps166
   go_wp2_with (go_at_call 163;refine (zck _ _ (by omega) (by omega)).mono ?_;rintro e w' ⟨k,hk,B,rfl,rfl⟩)
   all_goals go_ret
   · have A : k = 0 := by have h : ((k : Int) == 0) = true := by assumption
                          simpa using h
     refine ⟨zbw ?_,rfl⟩
     have h:=zki x 0 (-x-1) k (by rw [if_pos hx]) (by unfold Cmp.magA;rw [if_pos hx];omega) B.out A
     simpa using h
   · have A : k ≠ 0 := by have h : ((k : Int) == 0) = false := by assumption
                          simpa using h
     refine ⟨zbw ?_,rfl⟩
     have h:=zng x 0 (-x-1) k (by rw [if_pos hx]) (by unfold Cmp.magA;rw [if_pos hx];omega) B.out A
     simpa using h
 · go_enter Tryz.func166,Tryz.ntmps166
   go_wp2_with (go_at_call 163;refine (zck _ _ (by omega) (by omega)).mono ?_;rintro e w' ⟨k,hk,B,rfl,rfl⟩)
   all_goals go_ret
   · have A : k = 0 := by have h : ((k : Int) == 0) = true := by assumption
                          simpa using h
     refine ⟨zbw ?_,rfl⟩
     exact zki x 128 x k (by rw [if_neg (by omega)]) (by unfold Cmp.magA;rw [if_neg (by omega)];omega) B.out A
   · have A : k ≠ 0 := by have h : ((k : Int) == 0) = false := by assumption
                          simpa using h
     refine ⟨zbw ?_,rfl⟩
     exact zng x 128 x k (by rw [if_neg (by omega)]) (by unfold Cmp.magA;rw [if_neg (by omega)];omega) B.out A
theorem zll (b:Nat) (w:World) (h0:b<256) :
 Calls Tryz.prog 162 #[.int .u8 b] w fun e w'=>e = .returned (.int .i16 (Cmp.fromMu b))∧w=w':=by
 go_enter Tryz.func162,Tryz.ntmps162
 go_wp2
 all_goals go_ret
 all_goals
  refine ⟨zbw ?_,rfl⟩
  revert b
  exact Cmp.byte_all (by decide +kernel)
theorem znh (b:Nat) (w:World) (h0:b<256) :
 Calls Tryz.prog 167 #[.int .u8 b] w fun e w'=>e = .returned (.int .i16 (Cmp.fromA b))∧w=w':=by
 have hb:0≤bits .xor .u8 (b:Int) 85∧bits .xor .u8 (b:Int) 85≤255:=by
  rw [Cmp.xor_u8 b h0]
  have:=Nat.xor_lt_two_pow (n:=8) h0 (show 85<2 ^ 8 by omega)
  omega
 obtain ⟨B,A⟩:=hb
 by_cases he:0<bits .xor .u8 (b:Int) 85 / 16 % 8
 all_goals
  go_enter Tryz.func167,Tryz.ntmps167
  go_wp2
  all_goals go_ret
  all_goals
   refine ⟨zbw ?_,rfl⟩
   revert b
   exact Cmp.byte_all (by decide +kernel)
end
namespace Dlt
open Go.RowKit
def st:Nat→Int
 | 0=>7
 | i+1=>min (st i+(st i+5) / 10) 32767
theorem st_bd:∀ i,7≤st i∧st i≤32767
 | 0=>by decide
 | i + 1 => by
   have h:=st_bd i
   unfold st
   omega
def szL:List Value:=(List.range 89).map fun i => .int .i64 (st i)
def szA:Array Value:=szL.toArray
def zeroA:Array Value:=Array.replicate 89 (.int .i64 0)
theorem szL_len:szL.length=89:=by simp [szL]
theorem szL_at (i:Nat) (h:i<89):szL[i]? = some (.int .i64 (st i)):=by simp [szL,h]
theorem szL_one:∀ v∈szL,v.oneCell'=true:=by
 intro v hv
 obtain ⟨i,_,rfl⟩:=List.mem_map.1 hv
 rfl
def clamp (lo hi x:Int):Int:=min (max x lo) hi
def nextV (v i c:Int):Int:=clamp (-32768) 32767 (if 8≤c then v-(2*(c % 8)+1)*st i.toNat / 8 else v+(2*(c % 8)+1)*st i.toNat / 8)
def nextI (i c:Int):Int:=clamp 0 88 (if c % 8<4 then i-1 else i+2*(c % 8-3))
def code (v i x:Int):Int:=(if x-v<0 then 8 else 0)+min (4*((x-v).natAbs:Int) / st i.toNat) 7
theorem nextV_bd (v i c:Int) : -32768≤nextV v i c∧nextV v i c≤32767:=by unfold nextV clamp;omega
theorem zqz (i c:Int):0≤nextI i c∧nextI i c≤88:=by unfold nextI clamp;omega
theorem zuk (v i x:Int):0≤code v i x∧code v i x≤15:=by
 have h:=st_bd i.toNat
 unfold code
 have h0:0≤4*((x-v).natAbs:Int) / st i.toNat:=Int.ediv_nonneg (by omega) (by omega)
 split<;>omega
def valid (v i:Int):Bool:=decide (-32768≤v)&&decide (v≤32767)&&decide (0≤i)&&decide (i≤88)
end Dlt
section
open Go.RowKit
def IntsAt (w:World) (B:Nat) (k:IntKind) (A:Option Addr) (zs:List Int):Prop :=
 0<zs.length→∃ b off,A=some ⟨b,off,none⟩∧b<B∧∀ i,i<zs.length→w.cell? ⟨b,off+i,none⟩=some (.int k (zs.getD i 0))
def Within (lo hi:Int) (zs:List Int):Prop:=∀ z∈zs,lo≤z∧z≤hi
theorem Within.at {zs:List Int} (h:Within lo hi zs) (hi':i<zs.length):lo≤zs.getD i 0∧zs.getD i 0≤hi:=by
 rw [List.getD_eq_getElem?_getD,List.getElem?_eq_getElem hi']
 exact h _ (List.getElem_mem hi')
theorem Within.nil (lo hi:Int):Within lo hi []:=fun _ h=>by cases h
theorem Within.append {a b:List Int} (A:Within lo hi a) (hb:Within lo hi b):Within lo hi (a++b) :=
 fun z hz=>(List.mem_append.1 hz).elim (A z) (hb z)
theorem Within.take {a:List Int} (h:Within lo hi a) (n:Nat):Within lo hi (a.take n):=fun z hz=>h z (List.mem_of_mem_take hz)
theorem Within.drop {a:List Int} (h:Within lo hi a) (n:Nat):Within lo hi (a.drop n):=fun z hz=>h z (List.mem_of_mem_drop hz)
section
variable {w w':World} {B B':Nat} {k:IntKind} {A:Option Addr} {zs:List Int}
theorem IntsAt.nil:IntsAt w B k A []:=fun h=>absurd h (by simp)
theorem IntsAt.at (h:IntsAt w B k A zs) (h0:0<zs.length):∃ b off,A=some ⟨b,off,none⟩∧b<B∧∀ i,i<zs.length→w.cell? ⟨b,off+i,none⟩=some (.int k (zs.getD i 0)):=h h0
theorem IntsAt.keep (h:IntsAt w B k A zs) (hk:∀ p:Addr,p.block<B→w'.cell? p=w.cell? p):IntsAt w' B k A zs:=fun h0=>by
 obtain ⟨b,off,rfl,hb,hc⟩:=h h0
 exact ⟨b,off,rfl,hb,fun i hi=>(hk _ hb).trans (hc i hi)⟩
theorem IntsAt.more (h:IntsAt w B k A zs) (hB:B≤B'):IntsAt w B' k A zs:=fun h0=>by
 obtain ⟨b,off,rfl,hb,hc⟩:=h h0
 exact ⟨b,off,rfl,by omega,hc⟩
theorem IntsAt.below (h:IntsAt w B k A zs) (hb:Below B w w'):IntsAt w' B k A zs:=h.keep fun _ hp=>hb.cell hp
theorem IntsAt.later (h:IntsAt w w.heap.size k A zs) (hb:Below w.heap.size w w'):IntsAt w' w'.heap.size k A zs:=(h.below hb).more hb.size
theorem IntsAt.drew (h:IntsAt w B k A zs):IntsAt w.drew B k A zs:=h
theorem IntsAt.drewN (h:IntsAt w B k A zs) (n:Nat):IntsAt (w.drewN n) B k A zs:=h
theorem IntsAt.alloc (h:IntsAt w B k A zs) (hB:B≤w.heap.size) (o:Obj):IntsAt (w.alloc o) B k A zs:=h.keep fun p hp=>World.cell?_alloc_lt w o p (by omega)
theorem IntsAt.setCell (h:IntsAt w B k A zs) (hB:B≤p.block) (u:Value):IntsAt (w.setCell p u) B k A zs :=
 h.keep fun q hq=>World.cell?_setCell_other w p q u (fun e=>by subst e;omega)
theorem IntsAt.drop (h:IntsAt w B k A zs) (n:Nat) (hn:n<zs.length):∃ b off,A=some ⟨b,off,none⟩∧IntsAt w B k (some ⟨b,off+n,none⟩) (zs.drop n):=by
 obtain ⟨b,off,rfl,hb,hc⟩:=h (by omega)
 refine ⟨b,off,rfl,fun _=>⟨b,off+n,rfl,hb,fun i hi => ?_⟩⟩
 have hi':n+i<zs.length:=by simp at hi;omega
 have:=hc (n+i) hi'
 rw [Nat.add_assoc]
 rw [this]
 simp [List.getD_eq_getElem?_getD]
theorem IntsAt.take (h:IntsAt w B k A zs) (n:Nat):IntsAt w B k A (zs.take n):=fun h0=>by
 obtain ⟨b,off,rfl,hb,hc⟩:=h (by simp at h0;omega)
 refine ⟨b,off,rfl,hb,fun i hi => ?_⟩
 have hi':i<n∧i<zs.length:=by simp at hi;omega
 rw [hc i hi'.2]
 simp [List.getD_eq_getElem?_getD,hi'.1]
theorem IntsAt.of_own (h:w.ownsRow base e 1 (.slice A n c) n (zs.map (Value.int k))):IntsAt w w.heap.size k A zs:=fun h0=>by
 have hn:zs.length=n:=by have:=h.1;simpa using this
 obtain ⟨g,cap,hv,_,hlt⟩:=h.form (by omega)
 have B:A=some ⟨g,0,none⟩:=by injection hv
 subst B
 refine ⟨g,0,rfl,hlt,fun i hi => ?_⟩
 have hc:=h.cells (g:=g) rfl i (.int k (zs.getD i 0)) (by rw [List.getElem?_map,List.getD_eq_getElem?_getD,List.getElem?_eq_getElem hi];rfl)
 rw [← hc]
 by_cases h0:i=0
 · subst h0;rfl
 · simp [Addr.add,h0]
end
theorem IntsAt.of_row {k:IntKind} {f:Nat→Value} {zs:List Int} (h:w.rowIs b t n f) (hn:zs.length≤n) (hf:∀ i,i<zs.length→f i = .int k (zs.getD i 0)) :
 IntsAt w w.heap.size k (some ⟨b,0,none⟩) zs:=fun _ =>
 ⟨b,0,rfl,h.lt,fun i hi=>by rw [Nat.zero_add,h.cell (by omega),hf i hi]⟩
theorem zbf {k:Nat} {g:Nat→Int} (h:w.rowIs b t n (fun j => .int K (if j<k then g j else 0))) :
 (w.setCell ⟨b,k,none⟩ (.int K (g k))).rowIs b t n (fun j => .int K (if j<k+1 then g j else 0)):=by
 refine (h.set k _).congr fun i _ => ?_
 by_cases e:i=k
 · subst e;simp
 · simp only [e,if_false]
   by_cases A:i<k
   · rw [if_pos A,if_pos (by omega)]
   · rw [if_neg A,if_neg (by omega)]
theorem IntsAt.of_fill {f:Int→Int} {zs:List Int} (h:w.rowIs b t zs.length (fun j => .int K (if j<zs.length then f (zs.getD j 0) else 0))) :
 IntsAt w w.heap.size K (some ⟨b,0,none⟩) (zs.map f):=by
 refine IntsAt.of_row h (by simp) fun i hi => ?_
 have hi':i<zs.length:=by simpa using hi
 rw [if_pos hi']
 simp [List.getD_eq_getElem?_getD,List.getElem?_eq_getElem hi']
theorem zbk {f:Nat→Value} (h:w.rowIs b t n f) (hb:Below B w w') (hB:b<B):w'.rowIs b t n f:=h.of_block (hb.block b hB)
theorem zkj (w:World) (cs:List Value) (t:TypeId) (j:Nat):(w.alloc (.cells cs.toArray t)).cell? ⟨w.heap.size,j,none⟩=cs[j]? := by
 have h:(w.alloc (.cells cs.toArray t)).heap[w.heap.size]? = some (.cells cs.toArray t (0,0)):=by
  show (w.heap.push _)[w.heap.size]? = _
  simp
 rw [cell_of_row _ w.heap.size j cs.toArray t (0,0) h]
 simp
theorem zul (hb:Below W.heap.size W w1):(∀ b o,b<W.heap.size→w1.cell? ⟨b,o,none⟩=W.cell? ⟨b,o,none⟩)∧(∀ b o,b<W.heap.size→w1.frozen? ⟨b,o,none⟩=W.frozen? ⟨b,o,none⟩) :=
 ⟨fun b o h=>hb.cell (p:=⟨b,o,none⟩) h,fun b o h=>hb.frozen (p:=⟨b,o,none⟩) h⟩
def Owns (w:World) (base:Nat) (e:TypeId) (size:Nat) (A:Option Addr) (n c:Nat) (xs:List Value):Prop:=w.ownsRow base e size (.slice A n c) n xs
def ownB (A:Option Addr):Option Nat:=A.map (·.block)
section
variable {w w':World} {base size n c B:Nat} {e:TypeId} {A:Option Addr} {xs:List Value}
theorem zbr:(Value.slice A n c).ownBlock=ownB A:=by cases A<;>rfl
theorem Owns.nil:Owns w base e size none 0 0 []:=World.ownsRow_nil _ _ _ _
theorem Owns.form (h:Owns w base e size A n c xs) (hn:0<n):∃ g,A=some ⟨g,0,none⟩∧base≤g∧g<w.heap.size:=by
 obtain ⟨g,cap,hv,hb,hlt⟩:=World.ownsRow.form h hn
 injection hv with B _ _
 exact ⟨g,B,hb,hlt⟩
theorem Owns.block (h:Owns w base e size A n c xs):∀ g,ownB A=some g→base≤g∧g<w.heap.size:=by
 intro g hg
 rcases h.2 with ⟨hv,_⟩|⟨g',cap,cur,hv,hb,C,_⟩
 · injection hv with B _ _
   subst B
   cases hg
 · injection hv with B _ _
   subst B
   injection hg with hg
   subst hg
   exact ⟨hb,(Array.getElem?_eq_some_iff.1 C).1⟩
theorem Owns.of_block (h:Owns w base e size A n c xs) (hk:∀ g,ownB A=some g→w'.heap[g]? = w.heap[g]?):Owns w' base e size A n c xs:=by
 refine ⟨h.1,?_⟩
 rcases h.2 with h2|⟨g',cap,cur,hv,hb,B,r⟩
 · exact .inl h2
 · refine .inr ⟨g',cap,cur,hv,hb,?_,r⟩
   injection hv with C _ _
   subst C
   rw [hk g' rfl]
   exact B
theorem Owns.below (h:Owns w base e size A n c xs) (hb:Below w.heap.size w w'):Owns w' base e size A n c xs:=h.of_block fun g hg=>hb.block g (h.block g hg).2
theorem Owns.alloc (h:Owns w base e size A n c xs) (o:Obj):Owns (w.alloc o) base e size A n c xs:=h.of_block fun g hg=>Below.heap_alloc w o g (h.block g hg).2
theorem Owns.drew (h:Owns w base e size A n c xs):Owns w.drew base e size A n c xs:=h
theorem Owns.setCell (h:Owns w base e size A n c xs) (hp:∀ g,ownB A=some g→g≠p.block) (u:Value):Owns (w.setCell p u) base e size A n c xs :=
 h.of_block fun g hg=>Below.heap_setCell w p u g (hp g hg)
theorem Owns.grown (h:Owns w base e size A n c xs) {row:Option Nat} (hg:w.grownBy w' row) (hr:∀ g,ownB A=some g→row≠some g):Owns w' base e size A n c xs :=
 h.of_block fun g B=>hg.block g (h.block g B).2 fun e=>hr g B e.symm
theorem Owns.ints {k:IntKind} {zs:List Int} (h:Owns w base e 1 A n c (zs.map (Value.int k))):IntsAt w w.heap.size k A zs:=IntsAt.of_own h
theorem zek {a:World} (h:Below B a w) (ho:Owns w base e size A n c xs) (hg:w.grownBy w' (ownB A)) (hB:B≤w.heap.size) (hb:B≤base):Below B a w' :=
 h.grown hg hB fun g e=>by have:=(ho.block g e).1;omega
end
theorem zcg {zs:List Int} (h:IntsAt w B .u8 A zs) (src C e:TypeId) (hs:P.underlying src=some (.slice e)) (he:P.underlying e=some (.int .u8)) (hd:P.underlying C=some .string)
 (n c:Nat) (hn:zs.length=n):(convert src C (.slice A n c)).run P w = .ok (.string (strOfNums zs)) w:=by
 subst hn
 rcases Nat.eq_zero_or_pos zs.length with h0|h0
 · obtain rfl:=List.eq_nil_of_length_eq_zero h0
   rcases A with _|a
   · rw [run_convert_bytes_nil w src e hs he _ _ C hd];rfl
   · rw [run_convert_bytes_string w src C e _ _ c hs he hd,run_bytesToString w a _ c [] (by simpa using run_loadCells_list (P:=P) w a [] (by simp))]
     rfl
 · obtain ⟨b,off,rfl,_,hc⟩:=h h0
   exact run_convert_bytes_arg w src e hs he b off _ c zs rfl hc C hd
end
theorem zel {fn:Func} {C:Tmp} (h:fn.results = #[.cell C y0]) (A:tmps.getD C undef = .pointer (some a0)) (B:(loadVar y0 a0).run P w = .ok v0 w) :
 (results fn tmps).run P w = .ok (v0) w:=by
 simp only [Array.getD_eq_getD_getElem?] at A
 simp only [results,h]
 first|(simp [asAddr,A,B];done)|(simp [Result.andThen,asAddr,A,B];done)|(simp [Sem.run_bind,Result.andThen,asAddr,A,B];done)
theorem zem {fn:Func} {E:Tmp} {D:Tmp} (h:fn.results = #[.cell E y0, .tmp D]) (B:tmps.getD E undef = .pointer (some a0)) (C:(loadVar y0 a0).run P w = .ok v0 w) (A:tmps.getD D undef=v1) :
 (results fn tmps).run P w = .ok (.tuple #[v0,v1]) w:=by
 simp only [Array.getD_eq_getD_getElem?] at B A
 simp only [results,h]
 first|(simp [asAddr,B,C,A];done)|(simp [Result.andThen,asAddr,B,C,A];done)|(simp [Sem.run_bind,Result.andThen,asAddr,B,C,A];done)
theorem zni {fn:Func} {E:Tmp} {p1:Tmp} (h:fn.results = #[.cell E y0, .cell p1 y1]) (B:tmps.getD E undef = .pointer (some a0)) (C:(loadVar y0 a0).run P w = .ok v0 w) (A:tmps.getD p1 undef = .pointer (some a1)) (D:(loadVar y1 a1).run P w = .ok v1 w) :
 (results fn tmps).run P w = .ok (.tuple #[v0,v1]) w:=by
 simp only [Array.getD_eq_getD_getElem?] at B A
 simp only [results,h]
 first|(simp [asAddr,B,C,A,D];done)|(simp [Result.andThen,asAddr,B,C,A,D];done)|(simp [Sem.run_bind,Result.andThen,asAddr,B,C,A,D];done)
theorem ziw {fn:Func} {F:Tmp} {p1:Tmp} {E:Tmp} (h:fn.results = #[.tmp F, .cell p1 y1, .tmp E]) (A:tmps.getD F undef=v0) (B:tmps.getD p1 undef = .pointer (some a1)) (D:(loadVar y1 a1).run P w = .ok v1 w) (C:tmps.getD E undef=v2) :
 (results fn tmps).run P w = .ok (.tuple #[v0,v1,v2]) w:=by
 simp only [Array.getD_eq_getD_getElem?] at A B C
 simp only [results,h]
 first|(simp [asAddr,A,B,D,C];done)|(simp [Result.andThen,asAddr,A,B,D,C];done)|(simp [Sem.run_bind,Result.andThen,asAddr,A,B,D,C];done)
theorem zbe {fn:Func} {G:Tmp} {F:Tmp} {E:Tmp} (h:fn.results = #[.cell G y0, .tmp F, .tmp E]) (C:tmps.getD G undef = .pointer (some a0)) (D:(loadVar y0 a0).run P w = .ok v0 w) (A:tmps.getD F undef=v1) (B:tmps.getD E undef=v2) :
 (results fn tmps).run P w = .ok (.tuple #[v0,v1,v2]) w:=by
 simp only [Array.getD_eq_getD_getElem?] at C A B
 simp only [results,h]
 first|(simp [asAddr,C,D,A,B];done)|(simp [Result.andThen,asAddr,C,D,A,B];done)|(simp [Sem.run_bind,Result.andThen,asAddr,C,D,A,B];done)
theorem znj {fn:Func} {G:Tmp} {p1:Tmp} {F:Tmp} (h:fn.results = #[.cell G y0, .cell p1 y1, .tmp F]) (C:tmps.getD G undef = .pointer (some a0)) (D:(loadVar y0 a0).run P w = .ok v0 w) (A:tmps.getD p1 undef = .pointer (some a1)) (E:(loadVar y1 a1).run P w = .ok v1 w) (B:tmps.getD F undef=v2) :
 (results fn tmps).run P w = .ok (.tuple #[v0,v1,v2]) w:=by
 simp only [Array.getD_eq_getD_getElem?] at C A B
 simp only [results,h]
 first|(simp [asAddr,C,D,A,E,B];done)|(simp [Result.andThen,asAddr,C,D,A,E,B];done)|(simp [Sem.run_bind,Result.andThen,asAddr,C,D,A,E,B];done)
theorem zbp {fn:Func} {I:Tmp} {H:Tmp} {G:Tmp} {F:Tmp} (h:fn.results = #[.cell I y0, .tmp H, .tmp G, .tmp F]) (D:tmps.getD I undef = .pointer (some a0)) (E:(loadVar y0 a0).run P w = .ok v0 w) (B:tmps.getD H undef=v1) (C:tmps.getD G undef=v2) (A:tmps.getD F undef=v3) :
 (results fn tmps).run P w = .ok (.tuple #[v0,v1,v2,v3]) w:=by
 simp only [Array.getD_eq_getD_getElem?] at D B C A
 simp only [results,h]
 first|(simp [asAddr,D,E,B,C,A];done)|(simp [Result.andThen,asAddr,D,E,B,C,A];done)|(simp [Sem.run_bind,Result.andThen,asAddr,D,E,B,C,A];done)
theorem zab (ts:Array TypeId) (t:TypeId) (k:IntKind) (x y:Int):(Builtin.min_ ts t #[.int k x, .int k y]).run P w = .ok (.int k (min x y)) w:=by
 rw [run_min_int2];congr 2;split<;>omega
theorem zac (ts:Array TypeId) (t:TypeId) (k:IntKind) (x y:Int):(Builtin.max_ ts t #[.int k x, .int k y]).run P w = .ok (.int k (max x y)) w:=by
 rw [run_max_int2];congr 2;split<;>omega
theorem zaa: (w.drewN n).setCell a v=(w.setCell a v).drewN n:=rfl
theorem zad {o:Obj} : (w.drewN n).alloc o=(w.alloc o).drewN n:=rfl
section
open Go.RowKit
theorem zgo {k:IntKind} {a b:Int} (h:a=b):Ending.returned (.int k a) = .returned (.int k b):=by rw [h]
theorem zkk (w:World):(zeroValue 196).run Tryz.prog w = .ok (.agg Dlt.zeroA) w:=by kernel_rfl
theorem znk:(Tryz.prog.info? 196).map (·.size)=some 89:=by kernel_rfl
theorem zum:(Tryz.prog.info? 196).map (·.size)=some Dlt.szL.length:=by rw [Dlt.szL_len];exact znk
theorem zra:(Tryz.prog.info? 196).map (·.size)=some Dlt.szL.toArray.size:=by
 have A:Dlt.szL.toArray.size=89:=by simp [Dlt.szL]
 rw [A];exact znk
theorem zbq {B:Nat} {a:World} {b:Nat} (hb:B≤b):∀ (vs:List Value) (o:Nat) (w:World),Below B a w→Below B a (w.setCells b o vs)
 | [],_,_,h=>h
 | v :: r, o, w, h => by
   rw [World.setCells]
   exact zbq hb r (o+1) _ (h.setCell (p:=⟨b,o,none⟩) hb v)
theorem znl (b:Nat) (s:Int) (w:World) (hc:w.cell? ⟨b,0,none⟩=some (.int .i64 s)) (hf:w.frozen? ⟨b,0,none⟩=false) (h0:7≤s) (h1:s≤32767) :
 Calls Tryz.prog 104 #[.pointer (some ⟨b,0,none⟩)] w fun e w'=>e = .returned (.int .i64 s)∧w.setCell ⟨b,0,none⟩ (.int .i64 (min (s+(s+5) / 10) 32767))=w':=by
 by_cases h:32767<s+(s+5) / 10
 · go_enter Tryz.func104,Tryz.ntmps104
   go_wp2
   go_ret
   refine ⟨rfl,?_⟩
   congr 2
   omega
 · go_enter Tryz.func104,Tryz.ntmps104
   go_wp2
   go_ret
   refine ⟨rfl,?_⟩
   congr 2
   omega
theorem zix (w:World):(w.alloc (.cells Dlt.zeroA 196)).rowIs w.heap.size 196 89 (fun _ => .int .i64 0):=by
 have h:=World.rowIs_alloc w Dlt.zeroA 196 (fun _ => .int .i64 0) (fun i hi=>by
  have:i<89:=by simpa [Dlt.zeroA] using hi
  simp [Dlt.zeroA,this])
 have e:Dlt.zeroA.size=89:=by simp [Dlt.zeroA]
 rwa [e] at h
theorem znm (h:w.rowIs b t 89 (fun j => .int .i64 (if j<89 then Dlt.st j else 0))):w.rangeAt b 0 Dlt.szL:=fun j v hv=>by
 have A:j<89:=by have:=(List.getElem?_eq_some_iff.1 hv).1;rwa [Dlt.szL_len] at this
 rw [Nat.zero_add,h.cell A,if_pos A]
 rw [Dlt.szL_at j A] at hv
 exact hv
theorem zhn {f:Nat→Value} (h:w.rowIs b t n f):w.there b 0 n:=fun j A=>by
 rw [Nat.zero_add]
 exact ⟨by rw [h.cell A];rfl,h.frozen j⟩
def SizesEnd (w:World) (e:Ending) (w':World):Prop:=e = .returned (.agg Dlt.szA)∧Below w.heap.size w w'
theorem znn (w:World):Calls Tryz.prog 70 #[] w (SizesEnd w):=by
 have hz:=zkk
 have D:=((zix w).alloc (.cells Dlt.zeroA 196)).alloc (.cells #[.int .i64 7] 3)
 have C:=(zix (w.alloc (.cells Dlt.zeroA 196))).alloc (.cells #[.int .i64 7] 3)
 have hb:Below w.heap.size w (((w.alloc (.cells Dlt.zeroA 196)).alloc (.cells Dlt.zeroA 196)).alloc (.cells #[.int .i64 7] 3)) :=
  (((Below.refl _ _).alloc (Nat.le_refl _) _).alloc (by simp) _).alloc (by simp;omega) _
 have B:(((w.alloc (.cells Dlt.zeroA 196)).alloc (.cells Dlt.zeroA 196)).alloc (.cells #[.int .i64 7] 3)).rowIs (w.heap.size+1+1) 3 1 (fun _ => .int .i64 7):=by
  have h:=World.rowIs_alloc ((w.alloc (.cells Dlt.zeroA 196)).alloc (.cells Dlt.zeroA 196)) #[.int .i64 7] 3 (fun _ => .int .i64 7) (fun i hi=>by
   have:i=0:=by simpa using hi
   subst this;rfl)
  simpa using h
 have L:=Z9 D
 have K:=Z9 C
 have J:=Z9 B
 have U:=Z9 hb
 clear D C B hb
 go_enter Tryz.func70,Tryz.ntmps70
 go_wp2_with fail
 go_loopw [6] (fun i wr => ∃ k:Nat,k≤89∧i = .int .i64 k∧wr.rowIs w.heap.size 196 89 (fun _ => .int .i64 0) ∧
  wr.rowIs (w.heap.size+1) 196 89 (fun j => .int .i64 (if j<k then Dlt.st j else 0))∧wr.rowIs (w.heap.size+1+1) 3 1 (fun _ => .int .i64 (Dlt.st k))∧Below w.heap.size w wr)
  (fun i _=>89-(intOf i).toNat)
 case atStart=>exact ⟨0,by omega,rfl,by simpa using L.out,by simpa using K.out,by simpa [Dlt.st] using J.out,U.out⟩
 case round =>
  obtain ⟨k,hk,rfl,q0,q1,q2,hb⟩:=hrel
  have X:=q0.lt
  have V:=q1.lt
  have Z:=q2.lt
  by_cases hlt:(k:Int)<89
  · have Y:wr.cell? ⟨w.heap.size+1,k,none⟩=some (.int .i64 0):=by rw [q1.cell (by omega)];simp
    have H:=q1.frozen k
    have T:=q2.cell (i:=0) (by omega)
    have G:=q2.frozen 0
    obtain ⟨s0,s1⟩:=Dlt.st_bd k
    have O:=Z9 q0
    have N:=Z9 q1
    have M:=Z9 q2
    clear q0 q1 q2 hz
    go_wp2_with (go_at_call 104;refine (znl _ _ _ T G s0 s1).mono ?_;rintro e w' ⟨rfl,rfl⟩)
    go_roundw
    case rel =>
     refine ⟨k+1,by omega,by go_num,(O.out.setOther (by simp;omega) _).setOther (by simp) _,?_,?_,(hb.setCell (by simp;omega) _).setCell (by simp) _⟩
     · exact zbf (g:=Dlt.st) (N.out.setOther (by simp) _)
     · exact ((M.out.set 0 _).setOther (by simp) _).congr fun i hi=>by
        have:i=0:=by omega
        subst this;rfl
    case measure=>simp [intOf];omega
  · obtain rfl:k=89:=by omega
    have hr:=znm q1
    have ht:=zhn q0
    clear q0 q1 q2 hz
    have A:Dlt.szL.toArray.size=89:=by simp [Dlt.szL]
    have E:Hid (wr.there w.heap.size 0 Dlt.szL.toArray.size):=by rw [A];exact ht
    have F:=Z9 zum
    have R:=Z9 zra
    have hs:=Below.size hb
    clear A ht
    go_wp2_with (first
     | (refine wpList_load_mid rfl 196 (.tmp 1) (by rfl) (w.heap.size+1) 0 (by rfl) Dlt.szL _ hr Tryz.underlying196 rfl F.out ?_)
     | (refine wpList_store_mid rfl 196 (.tmp 0) (.tmp 14) (by rfl) w.heap.size 0 Dlt.szL.toArray (by rfl) (by rfl) E.out R.out (all_oneCell_toArray Dlt.szL_one) ?_))
    have I:=run_loadVar_mid (P:=Tryz.prog) (wr.setCells w.heap.size 0 Dlt.szL) w.heap.size 0 196 Dlt.szL _ (World.rangeAt_setCells_same wr w.heap.size 0 Dlt.szL (by have:=E.out;rwa [List.size_toArray] at this)) Tryz.underlying196 rfl F.out
    exact bodyPost_ret (v := .agg Dlt.szA) (zel Tryz.results70 rfl I) rfl ⟨rfl,zbq (Nat.le_refl _) _ _ _ hb⟩
theorem zen (w:World) :
 Calls Tryz.prog 70 #[] w fun e w'=>e = .returned (.agg Dlt.szA)∧Below w.heap.size w w':=znn w
end
section
open Go.ChangeShapes Go.WideShapes Go.ChangeAt Go.RowKit
theorem zrb:ownKnob Tryz.prog.godebug=none:=by kernel_rfl
theorem zno:laidOutB Tryz.prog=true:=by kernel_rfl
section
variable {H:Type} {enc:TypeId×Value→H} {P:Program}
theorem zcx (hl:laidOutB P=true) {W W':World} (hb:Below W.heap.size W W'):∀ (ts:List TypeId) (vs:List Value) (ds:List (DataW H)) (ps:List MemPlace),
 (∀ t∈ts,P.readableRec t=true∧t<P.types.size)→(∀ x∈ps,x.block<W.heap.size)→DataW.TrodAll enc P W 0 (fun _=>true) true ts vs ds ps →
  DataW.TrodAll enc P W' 0 (fun b=>decide (b<W.heap.size)) true ts vs ds ps
 | [], vs, ds, ps, _, _, h => by
   obtain ⟨rfl,rfl,rfl⟩:=trodAll_nil h
   exact trodAll_mk0
 | t :: ts, vs, ds, ps, hr, hlt, h => by
   obtain ⟨v0,B,E,C,D,q0,rfl,rfl,rfl,h0,A⟩:=trodAll_cons h
   have ht:=hr t (List.mem_cons_self ..)
   exact trodAll_cons_mk (Below.trod hl ht.1 ht.2 h0 hb fun x hx=>hlt x (List.mem_append_left _ hx))
    (zcx hl hb ts B C q0 (fun u hu=>hr u (List.mem_cons_of_mem _ hu)) (fun x hx=>hlt x (List.mem_append_right _ hx)) A)
theorem zcu (h:w.cell? a=some v):a.block<w.heap.size:=by
 rcases Nat.lt_or_ge a.block w.heap.size with h1|h1
 · exact h1
 · unfold World.cell? at h
   rw [Array.getElem?_eq_none h1] at h
   split at h<;>simp_all
theorem zlm {r:Reach} {b0:Nat} {spare:Nat→Bool} {held:Bool} {k:IntKind} {d:DataW H} {p:List MemPlace} (ht:P.underlying t=some (.slice e)) (he:P.underlying e=some (.int k)) (hc:P.cellsOf e=1)
 (hv:Value.okWide P W r b0 t v) (h:DataW.Trod enc P W base spare held t v d p) :
 ∃ (A:Option Addr) (zs:List Int) (cap:Nat),v = .slice A zs.length cap∧zs.length≤cap∧cap≤maxLen∧IntsAt W W.heap.size k A zs∧∀ n∈zs,(Lit.int k n).wf=true:=by
 obtain ⟨A,len,cap,rfl⟩:=okWide_slice ht hv
 obtain ⟨K,hf⟩:=h
 rcases open_ints ht he hc hf with ⟨B,_⟩|⟨x,l,c,zs,B,_,hl,hm,hz,_,qc,E⟩
 · simp [Value.cells] at B
   obtain ⟨rfl,rfl,rfl⟩:=B
   exact ⟨none,[],0,rfl,Nat.le_refl _,by unfold maxLen;omega,IntsAt.nil,fun n hn=>by cases hn⟩
 · simp [Value.cells] at B
   obtain ⟨rfl,rfl,rfl⟩:=B
   have C:(zs.take len).length=len:=by
    rw [List.length_take,hz]
    split<;>omega
   refine ⟨some x,zs.take len,cap,by rw [C],by rw [C];exact hl,hm,fun h0 => ?_,fun n hn=>E n (List.mem_of_mem_take hn)⟩
   have J:len≤zs.length:=by rw [hz];split<;>omega
   have D:=qc 0 (by omega)
   have I:=World.cell?_spot D
   obtain ⟨b,off,G⟩:=x
   have F:G=none:=by simpa [Addr.add] using I
   subst F
   refine ⟨b,off,rfl,by simpa [Addr.add] using zcu D,fun i hi => ?_⟩
   rw [C] at hi
   have h2:(zs.take len).getD i 0=zs.getD i 0:=by simp [List.getD_eq_getElem?_getD,hi]
   rw [h2,← qc i (by omega)]
   by_cases h0:i=0
   · subst h0;rfl
   · simp [Addr.add,h0]
end
theorem IntsAt.new (w:World) (e:TypeId) (k:IntKind) (zs:List Int) (cs:List Value) (h:cs=zs.map (Value.int k)):IntsAt (w.alloc (.cells cs.toArray e)) (w.alloc (.cells cs.toArray e)).heap.size k (some ⟨w.heap.size,0,none⟩) zs:=fun _=>by
 refine ⟨w.heap.size,0,rfl,by simp,fun i hi => ?_⟩
 rw [Nat.zero_add,zkj,h,List.getElem?_map,List.getElem?_eq_getElem hi,List.getD_eq_getElem?_getD,List.getElem?_eq_getElem hi]
 rfl
end
section
open Go.ChangeShapes Go.WideShapes Go.ChangeAt Go.RowKit Go.Deep
def flatFs (g:TypeId→Option (List TypeId)):List Field→Nat→Option (List TypeId)
 | [],_=>some []
 | f::fs,o=>if f.offset=o then (g f.type).bind fun l=>(flatFs g fs (o+l.length)).map (l ++ ·) else none
def flat (P:Program):Nat→TypeId→Option (List TypeId)
 | 0,_=>none
 | n + 1, t => match P.underlying t with
   | some (.struct fs)=>(flatFs (flat P n) fs.toList 0).bind fun l=>if l.length=P.cellsOf t then some l else none
   | some (.int _)=>some [t]
   | some .bool=>some [t]
   | some .string=>some [t]
   | some (.slice _)=>some [t]
   | _=>none
def AllAt (cs:List Value):Nat→List Value→Prop
 | _,[]=>True
 | o,v::L=>cs[o]? = some v∧AllAt cs (o+1) L
theorem AllAt.get {cs:List Value} : ∀ {L:List Value} {o:Nat}, AllAt cs o L→∀ (i:Nat) (v:Value),L[i]? = some v→cs[o+i]? = some v
 | [],o,_,i,v,h=>by simp at h
 | u :: L, o, h, 0, v, hv => by
   simp at hv
   subst hv
   exact h.1
 | u :: L, o, h, i + 1, v, hv => by
   have:=AllAt.get h.2 i v (by simpa using hv)
   rw [← this];congr 1;omega
theorem AllAt.eq {cs:List Value} (h:AllAt cs 0 L) (hl:cs.length=L.length):cs=L:=by
 refine List.ext_getElem? fun i => ?_
 by_cases hi:i<L.length
 · rw [List.getElem?_eq_getElem hi]
   have:=h.get i _ (List.getElem?_eq_getElem hi)
   simpa using this
 · rw [List.getElem?_eq_none (by omega),List.getElem?_eq_none (by omega)]
section
variable {H:Type} {enc:TypeId×Value→H} {P:Program} {w:World} {base:Nat} {spare:Nat→Bool} {held:Bool}
def Leaf (enc:TypeId×Value→H) (P:Program) (w:World) (base:Nat) (spare:Nat→Bool) (held:Bool) (t:TypeId) (v:Value):Prop:=∃ n y,DataW.trod enc P w base spare held n t [v]=some y
theorem zho {g:TypeId→Option (List TypeId)} {cs:List Value} {ok:TypeId→Value→Prop} : ∀ (fs:List Field) (o:Nat) (ls:List TypeId),flatFs g fs o=some ls →
 (∀ f∈fs,∀ l,g f.type=some l→((cs.drop f.offset).take (P.cellsOf f.type)).length=l.length∧∀ (i:Nat) (lt:TypeId),l[i]? = some lt→∃ v,((cs.drop f.offset).take (P.cellsOf f.type))[i]? = some v∧ok lt v) →
 ∀ (i:Nat) (lt:TypeId),ls[i]? = some lt→∃ v,cs[o+i]? = some v∧ok lt v
 | [], o, ls, h, _, i, lt, hi => by
   injection h with h
   subst h
   simp at hi
 | f :: fs, o, ls, h, hf, i, lt, hi => by
   unfold flatFs at h
   by_cases ho:f.offset=o
   · rw [if_pos ho] at h
     rw [Option.bind_eq_some_iff] at h
     obtain ⟨l,hl,h⟩:=h
     rw [Option.map_eq_some_iff] at h
     obtain ⟨r,hr,rfl⟩:=h
     obtain ⟨h1,h2⟩:=hf f (List.mem_cons_self ..) l hl
     by_cases hi':i<l.length
     · rw [List.getElem?_append_left hi'] at hi
       obtain ⟨v,hv,A⟩:=h2 i lt hi
       refine ⟨v,?_,A⟩
       rw [List.getElem?_take,List.getElem?_drop,ho] at hv
       split at hv
       · exact hv
       · cases hv
     · rw [List.getElem?_append_right (by omega)] at hi
       obtain ⟨v,hv,A⟩:=zho fs (o+l.length) r hr (fun B C=>hf B (List.mem_cons_of_mem _ C)) (i-l.length) lt hi
       exact ⟨v,by rw [← hv];congr 1;omega,A⟩
   · rw [if_neg ho] at h
     cases h
theorem zeo:∀ (n m:Nat) (t:TypeId) (ls:List TypeId) (cs:List Value) (x:DataW H×List MemPlace),flat P n t=some ls→DataW.trod enc P w base spare held m t cs=some x →
 cs.length=ls.length∧∀ (i:Nat) (lt:TypeId),ls[i]? = some lt→∃ v,cs[i]? = some v∧Leaf enc P w base spare held lt v
 | 0,m,t,ls,cs,x,h,_=>by cases h
 | n + 1, m, t, ls, cs, x, h, hx => by
   have one:∀ v,cs=[v]→ls=[t]→cs.length=ls.length∧∀ (i:Nat) (lt:TypeId),ls[i]? = some lt→∃ v,cs[i]? = some v∧Leaf enc P w base spare held lt v:=by
    rintro v rfl rfl
    refine ⟨rfl,fun i lt hi => ?_⟩
    have h0:i=0:=by
     have:=(List.getElem?_eq_some_iff.1 hi).1
     simpa using this
    subst h0
    injection hi with hi
    subst hi
    exact ⟨v,rfl,m,x,hx⟩
   unfold flat at h
   split at h
   · rename_i fs ht
     rw [Option.bind_eq_some_iff] at h
     obtain ⟨l,hl,h⟩:=h
     by_cases hc:l.length=P.cellsOf t
     · rw [if_pos hc] at h
       injection h with h
       subst h
       obtain ⟨xs,k,_,rfl,F,G,hf⟩:=DataW.trod_struct ht hx
       refine ⟨by rw [F,hc],fun i lt hi => ?_⟩
       have:=zho (P:=P) (cs:=cs) (ok:=Leaf enc P w base spare held) fs.toList 0 l hl (fun f C l' E=>by
        obtain ⟨j,A,rfl⟩:=List.mem_iff_getElem.1 C
        have B:fs[j]? = some (fs.toList[j]):=by simp at A ⊢
        have D:j<xs.length:=by simp at A;omega
        have h2:=hf j _ B
        rw [List.getElem?_eq_getElem D] at h2
        exact zeo n k _ l' _ _ E h2) i lt hi
       simpa using this
     · rw [if_neg hc] at h
       cases h
   · rename_i k ht
     injection h with h
     obtain ⟨z,hz,_⟩:=DataW.trod_int ht hx
     exact one _ hz h.symm
   · rename_i ht
     injection h with h
     obtain ⟨z,hz,_⟩:=DataW.trod_bool ht hx
     exact one _ hz h.symm
   · rename_i ht
     injection h with h
     obtain ⟨z,hz,_⟩:=DataW.trod_string ht hx
     exact one _ hz h.symm
   · rename_i e ht
     injection h with h
     rcases open_slice ht hx with ⟨hz,_⟩|⟨a,len,cap,_,_,_,_,hz,_⟩
     · exact one _ hz h.symm
     · exact one _ hz h.symm
   · cases h
theorem Leaf.int {k:IntKind} (h:Leaf enc P w base spare held t v) (ht:P.underlying t=some (.int k)):∃ z,v = .int k z∧(Lit.int k z).wf=true:=by
 obtain ⟨n,y,h⟩:=h
 obtain ⟨z,hz,_,hw⟩:=DataW.trod_int ht h
 injection hz with hz
 exact ⟨z,hz,hw⟩
theorem Leaf.bool (h:Leaf enc P w base spare held t v) (ht:P.underlying t=some .bool):∃ z,v = .bool z:=by
 obtain ⟨n,y,h⟩:=h
 obtain ⟨z,hz,_⟩:=DataW.trod_bool ht h
 injection hz with hz
 exact ⟨z,hz⟩
theorem zln (a:Addr) (n:Nat):(a.add n).block=a.block:=by unfold Addr.add;split<;>rfl
theorem cells?_nth {cs:List Value} (h:w.cells? base a n=some cs) (hv:cs[j]? = some v):w.cell? (a.add j)=some v:=by
 obtain ⟨_,hl,hc⟩:=World.cells?_some h
 rw [hc j (by have:=(List.getElem?_eq_some_iff.1 hv).1;omega),hv]
theorem cells?_len {cs:List Value} (h:w.cells? base a n=some cs):cs.length=n:=(World.cells?_some h).2.1
theorem zun {k:IntKind} {len cap:Nat} (ht:P.underlying t=some (.slice e)) (he:P.underlying e=some (.int k)) (hc:P.cellsOf e=1)
 (h:∃ n y,DataW.trod enc P w base spare held n t [.slice A len cap]=some y) :
 ∃ (A':Option Addr) (zs:List Int) (C:Nat),Value.slice A len cap = .slice A' zs.length C∧zs.length≤C∧C≤maxLen∧IntsAt w w.heap.size k A' zs∧∀ n∈zs,(Lit.int k n).wf=true:=by
 obtain ⟨K,y,hf⟩:=h
 rcases open_ints ht he hc hf with ⟨B,_⟩|⟨x,l,c,zs,B,_,hl,hm,hz,_,qc,F⟩
 · simp at B
   obtain ⟨rfl,rfl,rfl⟩:=B
   exact ⟨none,[],0,rfl,Nat.le_refl _,by unfold maxLen;omega,IntsAt.nil,fun n hn=>by cases hn⟩
 · simp at B
   obtain ⟨rfl,rfl,rfl⟩:=B
   have D:(zs.take len).length=len:=by
    rw [List.length_take,hz]
    split<;>omega
   refine ⟨some x,zs.take len,cap,by rw [D],by rw [D];exact hl,hm,fun h0 => ?_,fun n hn=>F n (List.mem_of_mem_take hn)⟩
   have J:len≤zs.length:=by rw [hz];split<;>omega
   have E:=qc 0 (by omega)
   have I:=World.cell?_spot E
   obtain ⟨b,off,H⟩:=x
   have G:H=none:=by simpa [Addr.add] using I
   subst G
   refine ⟨b,off,rfl,by simpa [Addr.add] using zcu E,fun i hi => ?_⟩
   rw [D] at hi
   have h2:(zs.take len).getD i 0=zs.getD i 0:=by simp [List.getD_eq_getElem?_getD,hi]
   rw [h2,← qc i (by omega)]
   by_cases h0:i=0
   · subst h0;rfl
   · simp [Addr.add,h0]
theorem Leaf.ints {k:IntKind} (h:Leaf enc P w base spare held t v) (ht:P.underlying t=some (.slice e)) (he:P.underlying e=some (.int k)) (hc:P.cellsOf e=1) :
 ∃ (A:Option Addr) (zs:List Int) (cap:Nat),v = .slice A zs.length cap∧zs.length≤cap∧cap≤maxLen∧IntsAt w w.heap.size k A zs∧∀ n∈zs,(Lit.int k n).wf=true:=by
 obtain ⟨n,y,h⟩:=h
 have hv:∃ A len cap,v = .slice A len cap:=by
  rcases open_slice ht h with ⟨B,_⟩|⟨x,l,c,_,_,_,_,B,_⟩
  · injection B with B;exact ⟨_,_,_,B⟩
  · injection B with B;exact ⟨_,_,_,B⟩
 obtain ⟨A,len,cap,rfl⟩:=hv
 exact zun ht he hc ⟨n,y,h⟩
def RowsAt {α : Type} (w:World) (B size:Nat) (row : α → List Value) (A:Option Addr) (l:List α):Prop :=
 0<l.length→∃ b off,A=some ⟨b,off,none⟩∧b<B∧∀ (i:Nat) (a : α),l[i]? = some a→∀ (j:Nat) (v:Value),(row a)[j]? = some v→w.cell? ⟨b,off+i*size+j,none⟩=some v
theorem zep {α : Type} {Q:Nat → α → Prop} : ∀ (n:Nat),(∀ i,i<n→∃ a,Q i a)→∃ l:List α, l.length=n∧∀ (i:Nat) (a : α),l[i]? = some a→Q i a
 | 0,_=>⟨[],rfl,fun i a h=>by simp at h⟩
 | n + 1, h => by
   obtain ⟨l,hl,hQ⟩:=zep n fun i hi=>h i (by omega)
   obtain ⟨a,A⟩:=h n (by omega)
   refine ⟨l ++ [a],by simp [hl],fun i b hb => ?_⟩
   by_cases hi:i<l.length
   · rw [List.getElem?_append_left hi] at hb;exact hQ i b hb
   · have B:i=n:=by
      have:=(List.getElem?_eq_some_iff.1 hb).1
      simp at this;omega
     subst B
     rw [List.getElem?_append_right (by omega),hl] at hb
     simp at hb
     subst hb
     exact A
theorem Leaf.rows {α : Type} {row : α → List Value} {ok : α → Prop} {size:Nat} (h:Leaf enc P w base spare held t v) (ht:P.underlying t=some (.slice e)) (O:P.cellsOf e=size) (h0:0<size)
 (H:∀ n cs x,DataW.trod enc P w base spare held n e cs=some x→∃ a,cs=row a∧ok a) :
 ∃ (A:Option Addr) (l:List α) (cap:Nat),v = .slice A l.length cap∧l.length≤cap∧cap≤maxLen∧RowsAt w w.heap.size size row A l∧∀ a∈l,ok a:=by
 obtain ⟨n,y,h⟩:=h
 rcases open_slice ht h with ⟨C,_⟩|⟨x,len,cap,m,k,D,X,C,hb,T,M,hm,_,R⟩
 · injection C with C
   subst C
   exact ⟨none,[],0,rfl,Nat.le_refl _,by unfold maxLen;omega,fun h=>absurd h (by simp),fun a B=>by cases B⟩
 · injection C with C
   subst C
   have V:len≤m:=by rw [hm];split<;>omega
   obtain ⟨l,hl,hQ⟩:=zep (Q:=fun i a=>w.cells? base (x.add (i*size)) size=some (row a)∧ok a) len (fun i hi=>by
    obtain ⟨U,h1,h2⟩:=R i (by omega)
    obtain ⟨a,rfl,B⟩:=H _ _ _ h2
    rw [O] at h1
    exact ⟨a,h1,B⟩)
   refine ⟨some x,l,cap,by rw [hl],by omega,M,fun G => ?_,fun a B => ?_⟩
   · obtain ⟨a0,F⟩:∃ a0,l[0]? = some a0:=⟨_,List.getElem?_eq_getElem G⟩
     have L:=(hQ 0 a0 F).1
     have qc:∀ (i:Nat) (a : α),l[i]? = some a→∀ (j:Nat) (v:Value),(row a)[j]? = some v→w.cell? ((x.add (i*size)).add j)=some v:=fun i a B j v hv=>cells?_nth (hQ i a B).1 hv
     have Y:(row a0).length=size:=cells?_len L
     obtain ⟨v0,I⟩:∃ v0,(row a0)[0]? = some v0:=⟨_,List.getElem?_eq_getElem (by omega)⟩
     have E:=qc 0 a0 F 0 v0 I
     have N:=World.cell?_spot E
     obtain ⟨b,off,K⟩:=x
     have J:K=none:=by simpa [Addr.add] using N
     subst J
     refine ⟨b,off,rfl,?_,fun i a B j v hv => ?_⟩
     · have:=zcu E
       simpa [zln] using this
     · have:=qc i a B j v hv
       rw [← this]
       congr 1
       simp only [Addr.add]
       repeat' split
       all_goals simp_all
       all_goals omega
   · obtain ⟨i,hi,rfl⟩:=List.mem_iff_getElem.1 B
     exact (hQ i _ (List.getElem?_eq_getElem hi)).2
end
end
section
open Go.RowKit
def Blk (w:World) (g:Nat) (t:TypeId) (cs:Array Value):Prop:=w.heap[g]? = some (.cells cs t (0,0))
section
variable {w w':World} {g:Nat} {t:TypeId} {cs:Array Value}
theorem Blk.lt (h:Blk w g t cs):g<w.heap.size:=by
 rcases Nat.lt_or_ge g w.heap.size with hlt|A
 · exact hlt
 · unfold Blk at h;rw [Array.getElem?_eq_none A] at h;cases h
theorem Blk.cell (h:Blk w g t cs) (i:Nat):w.cell? ⟨g,i,none⟩=cs[i]? := cell_of_row w g i cs t (0,0) h
theorem Blk.at (h:Blk w g t cs) (i:Nat) (v:Value) (hv:cs[i]? = some v):w.cell? ⟨g,i,none⟩=some v:=(h.cell i).trans hv
theorem Blk.frozen (h:Blk w g t cs) (i:Nat):w.frozen? ⟨g,i,none⟩=false:=by
 unfold Blk at h
 simp [World.frozen?,h]
theorem Blk.new (w:World) (t:TypeId) (cs:Array Value):Blk (w.alloc (.cells cs t)) w.heap.size t cs:=by
 show (w.heap.push _)[w.heap.size]? = _
 simp
theorem Blk.drew (h:Blk w g t cs):Blk w.drew g t cs:=h
theorem Blk.drewN (h:Blk w g t cs) (n:Nat):Blk (w.drewN n) g t cs:=h
theorem Blk.alloc (h:Blk w g t cs) (o:Obj):Blk (w.alloc o) g t cs:=(Below.heap_alloc w o g h.lt).trans h
theorem Blk.set_ (h:Blk w g t cs) (i:Nat) (u:Value):Blk (w.setCell ⟨g,i,none⟩ u) g t (cs.setIfInBounds i u):=by
 unfold Blk at h ⊢
 simp [World.setCell,Array.getElem?_modify,h]
theorem Blk.far (h:Blk w g t cs) (hp:g≠p.block) (u:Value):Blk (w.setCell p u) g t cs:=(Below.heap_setCell w p u g hp).trans h
theorem Blk.below (h:Blk w g t cs) (hb:Below B w w') (hg:g<B):Blk w' g t cs:=(hb.block g hg).trans h
theorem Blk.later (h:Blk w g t cs) (hb:Below w.heap.size w w'):Blk w' g t cs:=h.below hb h.lt
theorem Blk.grown {row:Option Nat} (h:Blk w g t cs) (hb:w.grownBy w' row) (hg:some g≠row):Blk w' g t cs:=(hb.block g h.lt hg).trans h
end
theorem zae (hb:Below W.heap.size W w') (h:W.cell? a=some v):w'.cell? a=some v:=(hb.cell (zcu h)).trans h
theorem zak (hb:Below W.heap.size W w') (h:Below w.heap.size w W):Below w.heap.size w w':=h.trans (hb.mono h.size)
theorem zat (h:W.cell? a=some v) (o:Obj):(W.alloc o).cell? a=some v:=by
 rw [World.cell?_alloc_lt W o a (zcu h)];exact h
theorem zaj (h:Below w.heap.size w W) (o:Obj):Below w.heap.size w (W.alloc o):=h.alloc h.size o
theorem zah (h:Below B w W) (hp:B≤p.block) (u:Value):Below B w (W.setCell p u):=h.setCell hp u
theorem zfr (h:W.cell? a=some v) (hp:a.block≠p.block) (u:Value):(W.setCell p u).cell? a=some v:=by
 rw [World.cell?_setCell_other W p a u (fun e=>hp (by rw [e]))];exact h
def RetInts (k:IntKind) (l:List Int) (er:Int) (w:World) (e:Ending) (w':World):Prop :=
 ∃ (A':Option Addr) (c':Nat),e = .returned (.tuple #[.slice A' l.length c', .int .u8 er])∧IntsAt w' w'.heap.size k A' l∧Below w.heap.size w w'
def Bel (w W:World):Prop:=Below w.heap.size w W
theorem Bel.refl (w:World):Bel w w:=Below.refl _ _
theorem Bel.later (h:Bel w W) (hb:Below W.heap.size W w'):Bel w w':=h.trans (hb.mono h.size)
theorem Bel.push (h:Bel w W) (o:Obj):Bel w (W.alloc o):=h.alloc h.size o
theorem Bel.drew (h:Bel w W):Bel w W.drew:=Below.drew h
theorem Bel.drewN (h:Bel w W) (n:Nat):Bel w (W.drewN n):=⟨h.os,h.tape,h.output,h.size,h.block⟩
theorem Blk.push (h:Blk w g t cs) (o:Obj):Blk (w.alloc o) g t cs:=h.alloc o
theorem Blk.new1 (w:World) (o1:Obj) (t:TypeId) (cs:Array Value):Blk ((w.alloc o1).alloc (.cells cs t)) (w.heap.size+1) t cs:=by
 have h:=Blk.new (w.alloc o1) t cs
 simpa using h
theorem Blk.new2 (w:World) (o1 o2:Obj) (t:TypeId) (cs:Array Value):Blk (((w.alloc o1).alloc o2).alloc (.cells cs t)) (w.heap.size+1+1) t cs:=by
 have h:=Blk.new ((w.alloc o1).alloc o2) t cs
 simpa using h
theorem Blk.new3 (w:World) (o1 o2 o3:Obj) (t:TypeId) (cs:Array Value):Blk ((((w.alloc o1).alloc o2).alloc o3).alloc (.cells cs t)) (w.heap.size+1+1+1) t cs:=by
 have h:=Blk.new (((w.alloc o1).alloc o2).alloc o3) t cs
 simpa using h
theorem IntsAt.push {k:IntKind} {zs:List Int} (h:IntsAt w w.heap.size k A zs) (o:Obj):IntsAt (w.alloc o) (w.alloc o).heap.size k A zs :=
 (h.alloc (Nat.le_refl _) o).more (by simp)
theorem IntsAt.lit0 (w:World) (e:TypeId) (k:IntKind) (zs:List Int) (cs:List Value) (h:cs=zs.map (Value.int k)):IntsAt (w.alloc (.cells cs.toArray e)) (w.alloc (.cells cs.toArray e)).heap.size k (some ⟨w.heap.size,0,none⟩) zs:=IntsAt.new w e k zs cs h
section
variable {α : Type} {row : α → List Value} {w w':World} {B size:Nat} {A:Option Addr} {l:List α}
theorem RowsAt.nil:RowsAt w B size row A []:=fun h=>absurd h (by simp)
theorem RowsAt.keep (h:RowsAt w B size row A l) (hk:∀ p:Addr,p.block<B→w'.cell? p=w.cell? p):RowsAt w' B size row A l:=fun h0=>by
 obtain ⟨b,off,rfl,hb,hc⟩:=h h0
 exact ⟨b,off,rfl,hb,fun i a C j v hv=>(hk _ hb).trans (hc i a C j v hv)⟩
theorem RowsAt.more (h:RowsAt w B size row A l) (hB:B≤B'):RowsAt w B' size row A l:=fun h0=>by
 obtain ⟨b,off,rfl,hb,hc⟩:=h h0
 exact ⟨b,off,rfl,by omega,hc⟩
theorem RowsAt.later (h:RowsAt w w.heap.size size row A l) (hb:Below w.heap.size w w'):RowsAt w' w'.heap.size size row A l:=(h.keep fun _ hp=>hb.cell hp).more hb.size
theorem RowsAt.push (h:RowsAt w w.heap.size size row A l) (o:Obj):RowsAt (w.alloc o) (w.alloc o).heap.size size row A l:=(h.keep fun p hp=>World.cell?_alloc_lt w o p hp).more (by simp)
theorem RowsAt.setCell (h:RowsAt w B size row A l) (hB:B≤p.block) (u:Value):RowsAt (w.setCell p u) B size row A l :=
 h.keep fun q hq=>World.cell?_setCell_other w p q u (fun e=>by subst e;omega)
theorem zeg (hr:∀ a,(row a).length=size):∀ (l:List α) (i:Nat) (a : α),l[i]? = some a→∀ (j:Nat) (v:Value),(row a)[j]? = some v→(l.flatMap row)[i*size+j]? = some v
 | [],i,a,h,_,_,_=>by simp at h
 | b :: l, 0, a, h, j, v, hv => by
   simp at h
   subst h
   rw [List.flatMap_cons,Nat.zero_mul,Nat.zero_add,List.getElem?_append_left (List.getElem?_eq_some_iff.1 hv).1]
   exact hv
 | b :: l, i + 1, a, h, j, v, hv => by
   have ih:=zeg hr l i a (by simpa using h) j v hv
   rw [List.flatMap_cons,List.getElem?_append_right (by rw [hr,Nat.succ_mul];omega),hr]
   rw [← ih];congr 1
   rw [Nat.succ_mul];omega
theorem Owns.rows (h:Owns w base e size A n c (l.flatMap row)) (hn:l.length=n) (hr:∀ a,(row a).length=size):RowsAt w w.heap.size size row A l:=fun h0=>by
 obtain ⟨g,rfl,hg,hlt⟩:=Owns.form h (by omega)
 refine ⟨g,0,rfl,hlt,fun i a B j v hv => ?_⟩
 have hc:=World.ownsRow.cells (g:=g) h rfl (i*size+j) v (zeg hr l i a B j v hv)
 rw [← hc]
 by_cases h1:i*size+j=0
 · rw [h1]
   have:(⟨g,0+i*size+j,none⟩:Addr)=⟨g,0,none⟩:=by congr 1;omega
   rw [this];rfl
 · simp only [Addr.add,h1,if_false]
   congr 2;omega
theorem RowsAt.lit0 (w:World) (e:TypeId) (row : α → List Value) (l:List α) (cs:Array Value) (h:cs.toList=l.flatMap row) (hr:∀ a,(row a).length=size):RowsAt (w.alloc (.cells cs e)) (w.alloc (.cells cs e)).heap.size size row (some ⟨w.heap.size,0,none⟩) l:=fun _=>by
 refine ⟨w.heap.size,0,rfl,by simp,fun i a A j v hv => ?_⟩
 rw [(Blk.new w e cs).cell,Nat.zero_add]
 have:=zeg hr l i a A j v hv
 rw [← h] at this
 simpa using this
end
def RowsNew {α : Type} (n:Nat) (w:World) (size:Nat) (row : α → List Value) (A:Option Addr) (l:List α):Prop :=
 RowsAt w w.heap.size size row A l∧(0<l.length→∀ b off,A=some ⟨b,off,none⟩→n≤b)
section
variable {α : Type} {row : α → List Value} {w w':World} {B n size:Nat} {A:Option Addr} {l:List α}
theorem RowsNew.nil:RowsNew n w size row A []:=⟨RowsAt.nil,fun h=>absurd h (by simp)⟩
theorem RowsNew.later (h:RowsNew n w size row A l) (hb:Below w.heap.size w w'):RowsNew n w' size row A l:=⟨h.1.later hb,h.2⟩
theorem RowsNew.push (h:RowsNew n w size row A l) (o:Obj):RowsNew n (w.alloc o) size row A l:=⟨h.1.push o,h.2⟩
theorem RowsNew.less (h:RowsNew n w size row A l) (hm:m≤n):RowsNew m w size row A l:=⟨h.1,fun h0 b off e=>Nat.le_trans hm (h.2 h0 b off e)⟩
theorem RowsNew.setCell (h:RowsNew n w size row A l) (hp:p.block<n) (u:Value):RowsNew n (w.setCell p u) size row A l:=by
 refine ⟨fun h0 => ?_,h.2⟩
 obtain ⟨b,off,rfl,hb,hc⟩:=h.1 h0
 have hn:=h.2 h0 b off rfl
 refine ⟨b,off,rfl,by simpa [World.setCell] using hb,fun i a B j v hv => ?_⟩
 rw [World.cell?_setCell_other w p _ u (fun e=>by subst e;simp at hp;omega)]
 exact hc i a B j v hv
theorem Owns.rowsNew (h:Owns w base e size A n c (l.flatMap row)) (hn:l.length=n) (hr:∀ a,(row a).length=size) (hB:B≤base:=by omega):RowsNew B w size row A l:=by
 refine ⟨Owns.rows h hn hr,fun h0 b off e => ?_⟩
 obtain ⟨g,rfl,hg,hlt⟩:=Owns.form h (by omega)
 injection e with e
 injection e with D C
 omega
end
end
section
open Go.ChangeShapes Go.WideShapes Go.ChangeAt Go.RowKit Go.Deep
section
variable {H:Type} {enc:TypeId×Value→H} {P:Program} {w:World} {r:Reach} {b0 base:Nat} {spare:Nat→Bool} {held:Bool}
structure TInts where
 A:Option Addr
 zs:List Int
 cap:Nat
def TInts.row (a:TInts):List Value:=[.slice a.A a.zs.length a.cap]
def TInts.ok (k:IntKind) (w:World) (a:TInts):Prop:=a.zs.length≤a.cap∧a.cap≤maxLen∧IntsAt w w.heap.size k a.A a.zs∧∀ z∈a.zs,(Lit.int k z).wf=true
theorem TInts.of_trod {k:IntKind} (ht:P.underlying t=some (.slice e)) (he:P.underlying e=some (.int k)) (hc:P.cellsOf e=1) (n:Nat) (cs:List Value) (x:DataW H×List MemPlace)
 (h:DataW.trod enc P w base spare held n t cs=some x):∃ a:TInts,cs=a.row∧a.ok k w:=by
 have hv:∃ v,cs=[v]:=by
  rcases open_slice ht h with ⟨B,_⟩|⟨x,l,c,_,_,_,_,B,_⟩
  · exact ⟨_,B⟩
  · exact ⟨_,B⟩
 obtain ⟨v,rfl⟩:=hv
 obtain ⟨A,zs,cap,rfl,h1,h2,h3,h4⟩:=Leaf.ints (enc:=enc) (spare:=spare) (held:=held) (base:=base) ⟨n,x,h⟩ ht he hc
 exact ⟨⟨A,zs,cap⟩,rfl,h1,h2,h3,h4⟩
end
end
namespace Jb
open Go.RowKit
structure Md where
 sq:Int
 ti:Int
 mrk:Bool
 ty:Int
 pl:List Int
structure Wt where
 at_:Int
 m:Md
structure Jt where
 least:Int
 most:Int
 now:Int
 on:Bool
 zero:Int
 first:Int
 high:Int
 done:Int
 spread:Int
 trans:Int
 q:List Wt
 late:Int
 twice:Int
 played:Int
def Md.zero:Md:=⟨0,0,false,0,[]⟩
def Wt.zero:Wt:=⟨0,Md.zero⟩
def Jt.none:Jt:=⟨0,0,0,false,0,0,0,0,0,0,[],0,0,0⟩
def Md.ok (m:Md):Prop:=(0≤m.sq∧m.sq≤281474976710656)∧(-281474976710656≤m.ti∧m.ti≤281474976710656)∧m.pl.length≤1500
instance (m:Md):Decidable m.ok:=by unfold Md.ok;infer_instance
def cfg (l m:Int):Prop:=1≤l∧l≤m∧m≤1000
instance (l m:Int):Decidable (cfg l m):=by unfold cfg;infer_instance
def bef (a b:Wt):Prop:=a.at_<b.at_∨(a.at_=b.at_∧a.m.sq<b.m.sq)
instance (a b:Wt):Decidable (bef a b):=by unfold bef;infer_instance
def okAt (now high:Int) (q:List Wt) (k:Nat):Prop :=
 (q.getD k Wt.zero).m.ok∧now<(q.getD k Wt.zero).at_∧(q.getD k Wt.zero).at_≤562949953421312∧(q.getD k Wt.zero).m.sq≤high ∧
 (0<k→bef (q.getD (k-1) Wt.zero) (q.getD k Wt.zero))∧∀ i,i<k→(q.getD i Wt.zero).m.sq≠(q.getD k Wt.zero).m.sq
instance (now high:Int) (q:List Wt) (k:Nat):Decidable (okAt now high q k):=by unfold okAt;infer_instance
def okQ (now high:Int) (q:List Wt):Prop:=q.length≤200∧∀ k,k<q.length→okAt now high q k
instance (now high:Int) (q:List Wt):Decidable (okQ now high q):=by unfold okQ;infer_instance
def Jt.nums (s:Jt):Prop:=(0≤s.now∧s.now≤281474976710656)∧(-1125899906842624≤s.zero∧s.zero≤1125899906842624)∧(-1125899906842624≤s.trans∧s.trans≤1125899906842624) ∧
 (-281474976710656≤s.first∧s.first≤281474976710656)∧(-1≤s.high∧s.high≤281474976710656)∧(-1≤s.done∧s.done≤281474976710656)∧(0≤s.spread∧s.spread≤72057594037927936)
instance (s:Jt):Decidable s.nums:=by unfold Jt.nums;infer_instance
def Jt.cnts (s:Jt):Prop:=(0≤s.late∧s.late≤281474976710656)∧(0≤s.twice∧s.twice≤281474976710656)∧(0≤s.played∧s.played≤281474976710656)
instance (s:Jt):Decidable s.cnts:=by unfold Jt.cnts;infer_instance
def Jt.rest (s:Jt):Prop:=s.on=true∨(s.q.length=0∧s.high = -1∧s.done = -1)
instance (s:Jt):Decidable s.rest:=by unfold Jt.rest;infer_instance
def Jt.ok (s:Jt):Prop:=s.nums∧cfg s.least s.most∧s.cnts∧s.rest∧okQ s.now s.high s.q
instance (s:Jt):Decidable s.ok:=by unfold Jt.ok;infer_instance
def valid (s:Jt):Bool:=decide s.ok
def new (l m:Int):Jt×Int:=if cfg l m then (⟨l,m,0,false,0,0, -1, -1,0,0,[],0,0,0⟩,0) else (Jt.none,3)
def ptime (s:Jt) (t:Int):Int:=s.zero+(t-s.first) / 8
def play (s:Jt) (t:Int):Int:=if s.ok ∧ -281474976710656≤t∧t≤281474976710656 then ptime s t else 0
def chk (s:Jt) (now:Int) (fm:Bool):Int:=if ¬s.ok∨281474976710656<now∨fm=false then 2 else if now<s.now then 9 else 0
def due (now:Int) (q:List Wt):List Wt:=q.takeWhile fun w=>decide (w.at_≤now)
def left (now:Int) (q:List Wt):List Wt:=q.dropWhile fun w=>decide (w.at_≤now)
def maxSq (d:Int) (l:List Wt):Int:=l.foldl (fun d w=>max d w.m.sq) d
def run0 (s:Jt) (now:Int):Jt := { s with q:=left now s.q,played:=s.played+(due now s.q).length,done:=maxSq s.done (due now s.q),now:=now }
def run (s:Jt) (now:Int):Jt×List Wt×Int:=if chk s now true=0 then (run0 s now,due now s.q,0) else (Jt.none,[],chk s now true)
def lastAt (z:Int) (q:List Wt):Int:=if q.length=0 then z else max z ((q.getD (q.length-1) Wt.zero).at_+1)
def meas (s:Jt) (m:Md):Jt :=
 let t:=s.now-m.ti / 8
 let sp:=if s.on then s.spread+max (t-s.trans) (s.trans-t)-(s.spread+8) / 16 else s.spread
 let beg:=s.on=false∨(m.mrk=true∧s.high<m.sq)
 { s with spread:=sp,trans:=t,on:=true,high:=max s.high m.sq,first:=if beg then m.ti else s.first,zero:=if beg then lastAt (s.now+min (s.least+sp / 4) s.most) s.q else s.zero }
def ins (q:List Wt) (w:Wt):List Wt:=q.takeWhile (fun x=>decide (bef x w))++w::q.dropWhile (fun x=>decide (bef x w))
def put0 (s:Jt) (m:Md):Jt×Int :=
 if (s.q.any fun w=>w.m.sq==m.sq) then ({ s with twice:=s.twice+1 }, 3) else
 if s.on=true∧m.sq≤s.done then ({ s with late:=s.late+1 }, 2) else
 if 200≤s.q.length then (s,4) else
 let r:=meas s m
 let a:=ptime r m.ti
 if a≤s.now then ({ r with late:=r.late+1 }, 2) else
 if s.now+120000<a then (r,5) else ({ r with q:=ins r.q ⟨a,m⟩ }, 1)
def put (s:Jt) (now:Int) (m:Md):Jt×List Wt×Int×Int :=
 if chk s now (decide m.ok)=0 then ((put0 (run0 s now) m).1,due now s.q,(put0 (run0 s now) m).2,0) else (Jt.none,[],0,chk s now (decide m.ok))
def Asc (q:List Wt):Prop:=∀ i j,i<j→j<q.length→bef (q.getD i Wt.zero) (q.getD j Wt.zero)
theorem bef_trans {a b c:Wt} (h1:bef a b) (h2:bef b c):bef a c:=by unfold bef at *; omega
theorem bef_at {a b:Wt} (h:bef a b):a.at_≤b.at_:=by unfold bef at h;omega
theorem okQ.asc {q:List Wt} (h:okQ now high q):Asc q:=by
 intro i j B A
 induction j with
 | zero=>omega
 | succ j ih =>
   have h1:=(h.2 (j+1) A).2.2.2.2.1 (by omega)
   rw [Nat.add_sub_cancel] at h1
   by_cases h2:i=j
   · rw [h2];exact h1
   · exact bef_trans (ih (by omega) (by omega)) h1
theorem Asc.tail {a:Wt} {q:List Wt} (h:Asc (a::q)):Asc q:=fun i j B A=>by
 have:=h (i+1) (j+1) (by omega) (by simp;omega)
 simpa using this
theorem Asc.head {a:Wt} {q:List Wt} (h:Asc (a::q)) (b:Wt) (hb:b∈q):bef a b:=by
 obtain ⟨j,A,rfl⟩:=List.getElem_of_mem hb
 have:=h 0 (j+1) (by omega) (by simp;omega)
 simpa [List.getD_eq_getElem?_getD,List.getElem?_eq_getElem A] using this
theorem due_left (now:Int) (q:List Wt):due now q++left now q=q:=List.takeWhile_append_dropWhile
end Jb
namespace Ev
open Go.RowKit
def encT (c:Int) (e:Bool) (v d:Int):List Int×Int:=if 63<v then ([],3) else ([c,v+(if e then 128 else 0),d / 256,d % 256],0)
structure Tone where
 code:Int
 fin:Bool
 vol:Int
 dur:Int
def Tone.zero:Tone:=⟨0,false,0,0⟩
def decT (bs:List Int):Tone×Int :=
 if bs.length<4 then (Tone.zero,6) else if 4<bs.length∨bs.getD 1 0 / 64 % 2=1 then (Tone.zero,5) else
  (⟨bs.getD 0 0,decide (128≤bs.getD 1 0),bs.getD 1 0 % 64,256*bs.getD 2 0+bs.getD 3 0⟩,0)
structure Snd where
 on:Bool
 code:Int
 vol:Int
 start:Int
 len:Int
 ends:Int
def Snd.zero:Snd:=⟨false,0,0,0,0,0⟩
def Snd.valid (s:Snd):Bool:=decide (s.vol≤63)&&decide (0≤s.len)&&decide (s.len≤65535)&&decide (0≤s.ends)&&decide (s.ends≤3)&&(!s.on||s.ends==0)
def press (s:Snd) (code vol time:Int):Snd×Int :=
 if s.valid=false then (Snd.zero,2) else if s.on=true∨s.ends≠0 then (Snd.zero,9) else if 63<vol then (Snd.zero,3) else (⟨true,code,vol,time,0,0⟩,0)
def release (s:Snd):Snd×Int :=
 if s.valid=false then (Snd.zero,2) else if s.on=false then (Snd.zero,9) else (⟨false,s.code,s.vol,s.start,s.len,3⟩,0)
structure Out where
 time:Int
 marker:Bool
 tone:Tone
def Out.zero:Out:=⟨0,false,Tone.zero⟩
structure Nxt where
 s:Snd
 o:Out
 some:Bool
 err:Int
def next (s:Snd) (n:Int):Nxt :=
 if s.valid=false then ⟨Snd.zero,Out.zero,false,2⟩ else if n<1∨8000<n then ⟨Snd.zero,Out.zero,false,3⟩ else
  if s.on=true then ⟨⟨true,s.code,s.vol,s.start,min (s.len+n) 65535,s.ends⟩,⟨s.start,s.len==0,⟨s.code,false,s.vol,min (s.len+n) 65535⟩⟩,true,0⟩ else
   if s.ends=0 then ⟨s,Out.zero,false,0⟩ else ⟨if s.ends=1 then Snd.zero else ⟨false,s.code,s.vol,s.start,s.len,s.ends-1⟩,⟨s.start,false,⟨s.code,true,s.vol,s.len⟩⟩,true,0⟩
structure Rcv where
 on:Bool
 time:Int
 code:Int
 len:Int
 ended:Bool
structure Key where
 code:Int
 down:Bool
 time:Int
 len:Int
def hear (r:Rcv) (time:Int) (t:Tone):Rcv×List Key :=
 if r.on=false∨1≤(time-r.time) % 4294967296∧(time-r.time) % 4294967296<2147483648 then
  (⟨true,time,t.code,t.dur,t.fin⟩,(if r.on=true∧r.ended=false then [⟨r.code,false,r.time,r.len⟩] else []) ++ [⟨t.code,true,time,0⟩]++(if t.fin=true then [⟨t.code,false,time,t.dur⟩] else []))
 else if (time-r.time) % 4294967296=0∧t.code=r.code∧r.ended=false then
  (⟨r.on,r.time,r.code,max r.len t.dur,t.fin⟩,if t.fin=true then [⟨r.code,false,r.time,max r.len t.dur⟩] else [])
 else (r,[])
def sumSq (zs:List Int):Nat:=(zs.map fun z=>(z*z).toNat).sum
def lev (zs:List Int):Int:=if zs.length=0 then 127 else if sumSq zs / zs.length=0 then 127 else 3*(30-(Nat.log2 (sumSq zs / zs.length):Int))
def amp:Nat→Int
 | 0=>32767
 | k+1=>amp k / 2
def seed (s:Int):Nat→Int
 | 0=>s
 | k+1=>(seed s k*1103515245+12345) % 4294967296
def nsamp (a s:Int) (k:Nat):Int:=seed s (k+1) / 65536 % (2*a+1)-a
def noise (mM s n:Int):List Int×Int×Int :=
 if n<0∨8000<n then ([],0,3) else ((List.range n.toNat).map fun k=>nsamp (amp (mM / 6).toNat) s k,seed s n.toNat,0)
def quiet (q:Int) (zs:List Int):Int:=if lev zs<60 then 0 else min (max q 0) 9+1
theorem zea:∀ (f x:Nat),x<2 ^ f→Lib.bitLenAux f x=if x=0 then 0 else Nat.log2 x+1
 | 0, x, h => by
   have:x=0:=by simpa using h
   subst this;rfl
 | f + 1, x, h => by
   unfold Lib.bitLenAux
   by_cases h0:x=0
   · rw [if_pos h0,if_pos h0]
   · rw [if_neg h0,if_neg h0,zea f (x / 2) (by rw [Nat.pow_succ] at h;omega)]
     by_cases h1:x / 2=0
     · have:x=1:=by omega
       subst this;rfl
     · rw [if_neg h1,Nat.log2_def x,if_pos (by omega)];omega
theorem bitLen_eq (x:Nat) (h:x<18446744073709551616):Lib.bitLen x=if x=0 then 0 else Nat.log2 x+1:=zea 64 x h
theorem sumSq_take (zs:List Int) (k:Nat) (h:k<zs.length):sumSq (zs.take (k+1))=sumSq (zs.take k)+(zs.getD k 0*zs.getD k 0).toNat:=by
 unfold sumSq
 rw [List.take_succ_eq_append_getElem h,List.map_append,List.sum_append,List.getD_eq_getElem?_getD,List.getElem?_eq_getElem h]
 simp
theorem sq_bd (z:Int) (h0 : -32768≤z) (h1:z≤32767):0≤z*z∧z*z≤1073741824:=by
 rcases Int.le_total 0 z with h|h
 · have h2:=Int.mul_nonneg h h
   have:=Int.mul_le_mul h1 h1 h (by omega);omega
 · have h2:=Int.mul_nonneg (show 0 ≤ -z by omega) (show 0 ≤ -z by omega)
   rw [Int.neg_mul_neg] at h2
   have:=Int.mul_le_mul (show -z≤32768 by omega) (show -z≤32768 by omega) (by omega) (by omega)
   rw [Int.neg_mul_neg] at this;omega
theorem sumSq_bd (zs:List Int) (h:∀ z∈zs, -32768≤z∧z≤32767):sumSq zs≤zs.length*1073741824:=by
 induction zs with
 | nil=>simp [sumSq]
 | cons a l ih =>
   have h1:=ih fun z hz=>h z (List.mem_cons_of_mem _ hz)
   have h2:=sq_bd a (h a (List.mem_cons_self ..)).1 (h a (List.mem_cons_self ..)).2
   unfold sumSq at *
   simp only [List.map_cons,List.sum_cons,List.length_cons]
   omega
theorem mean_bd (zs:List Int) (h:∀ z∈zs, -32768≤z∧z≤32767):sumSq zs / zs.length≤1073741824:=by
 have:=sumSq_bd zs h
 rcases Nat.eq_zero_or_pos zs.length with h0|h0
 · rw [h0];simp
 · exact Nat.div_le_of_le_mul (by omega)
theorem log2_bd (n:Nat) (h:n≤1073741824) (h0:n≠0):Nat.log2 n≤30:=by
 have:=(Nat.log2_lt h0 (k:=31)).2 (by omega)
 omega
def halve (p:Nat):Nat→Nat
 | 0=>p
 | k+1=>halve p k / 2
theorem lev_bd (zs:List Int) (h:∀ z∈zs, -32768≤z∧z≤32767):0≤lev zs∧lev zs≤127:=by
 unfold lev
 have hm:=mean_bd zs h
 split
 · omega
 · split
   · omega
   · rename_i h0 h1
     have:=log2_bd _ hm h1
     omega
end Ev
namespace Pk
open Go.RowKit
def newer (a b:Int):Int:=if (a-b) % 65536=0 then 0 else if (a-b) % 65536<32768∨((a-b) % 65536=32768∧b<a) then 1 else -1
def near (last x m:Int):Int:=if last < -1152921504606846976∨1152921504606846976<last then 0 else if m / 2<(x-last) % m then last+((x-last) % m-m) else last+(x-last) % m
structure Tr where
 on:Bool
 high:Int
 jump:Int
def Tr.zero:Tr:=⟨false,0,0⟩
def Tr.row (t:Tr):List Value:=[.bool t.on, .int .i64 t.high, .int .i64 t.jump]
def Tr.ok (t:Tr):Prop:=0≤t.high∧t.high≤281474976710656 ∧ -1≤t.jump∧t.jump≤65535
instance (t:Tr):Decidable t.ok:=by unfold Tr.ok;infer_instance
def gap (high seq:Int):Int:=if (seq-high) % 65536=0 then 65536 else (seq-high) % 65536
def follow (t:Tr) (seq:Int):Tr×Int×Bool :=
 if ¬t.ok then (Tr.zero,0,false) else
 if t.on=false then (⟨true,seq, -1⟩,seq,true) else
 if 0≤near t.high seq 65536∧near t.high seq 65536≤t.high+3000∧t.high-100≤near t.high seq 65536 then (⟨true,max t.high (near t.high seq 65536), -1⟩,near t.high seq 65536,true) else
 if seq=t.jump∧t.high<140737488355328 then (⟨true,t.high+gap t.high seq, -1⟩,t.high+gap t.high seq,true) else
 (⟨true,t.high,(seq+1) % 65536⟩,0,false)
theorem near_bd16 (last x:Int) (h:¬(last < -1152921504606846976∨1152921504606846976<last)) : -32767≤near last x 65536-last∧near last x 65536-last≤32768∧(near last x 65536-x) % 65536=0:=by
 unfold near
 rw [if_neg h]
 split<;>omega
end Pk
namespace Rep
open Go.RowKit
structure St where
 seen:Bool
 base:Int
 high:Int
 got:Int
 wexp:Int
 wrec:Int
 trans:Int
 jit:Int
def St.zero:St:=⟨false,0,0,0,0,0,0,0⟩
def St.row (s:St):Array Value := #[.bool s.seen, .int .i64 s.base, .int .i64 s.high, .int .i64 s.got, .int .i64 s.wexp, .int .i64 s.wrec, .int .i64 s.trans, .int .i64 s.jit]
structure Bk where
 source:Int
 frac:Int
 lost:Int
 high:Int
 jit:Int
 last:Int
 delay:Int
def Bk.zero:Bk:=⟨0,0,0,0,0,0,0⟩
def Bk.row (b:Bk):Array Value := #[.int .u32 b.source, .int .u8 b.frac, .int .i64 b.lost, .int .u32 b.high, .int .u32 b.jit, .int .u32 b.last, .int .u32 b.delay]
def inB (lo hi x:Int):Bool:=decide (lo≤x)&&decide (x≤hi)
def all (lo hi:Int) (xs:List Int):Bool:=xs.all (inB lo hi)
def okS (s:St):Bool:=all (-1125899906842624) 1125899906842624 [s.base,s.high,s.trans]&&decide (s.base≤s.high)&&all 0 1125899906842624 [s.got,s.wexp,s.wrec]&&all 0 72057594037927936 [s.jit]
def small (x:Int):Bool:=inB (-281474976710656) 281474976710656 x
theorem inB_iff (lo hi x:Int):inB lo hi x=true↔lo≤x∧x≤hi:=by simp [inB]
theorem okS_iff (s:St):okS s=true↔((-1125899906842624≤s.base∧s.base≤1125899906842624)∧(-1125899906842624≤s.high∧s.high≤1125899906842624)∧(-1125899906842624≤s.trans∧s.trans≤1125899906842624))∧s.base≤s.high∧((0≤s.got∧s.got≤1125899906842624)∧(0≤s.wexp∧s.wexp≤1125899906842624)∧(0≤s.wrec∧s.wrec≤1125899906842624))∧0≤s.jit∧s.jit≤72057594037927936:=by
 simp [okS,all,inB,and_assoc]
def absI (x:Int):Int:=if x<0 then -x else x
def arrive (s:St) (seq arr time:Int):St :=
 if (okS s&&small seq&&small arr&&small time)=false then St.zero else
  if s.seen=false then ⟨true,seq,seq,1,0,0,arr-time,0⟩ else
   ⟨true,min s.base seq,max s.high seq,s.got+1,s.wexp,s.wrec,arr-time,s.jit+(absI (arr-time-s.trans)-(s.jit+8) / 16)⟩
def frac (x y:Int):Int:=if 0<x∧0<y then min (256*y / x) 255 else 0
def summary (s:St) (source last delay:Int):Bk×St :=
 if okS s=false then (Bk.zero,St.zero) else if s.seen=false then (⟨source,0,0,0,0,last,delay⟩,s) else
  (⟨source,frac (s.high-s.base+1-s.wexp) (s.high-s.base+1-s.wexp-(s.got-s.wrec)),min (max (s.high-s.base+1-s.got) (-8388608)) 8388607,s.high % 4294967296,min (s.jit / 16) 4294967295,last,delay⟩,
   ⟨s.seen,s.base,s.high,s.got,s.high-s.base+1,s.got,s.trans,s.jit⟩)
def trip (now last delay:Int):Int:=if 2147483648≤(now-last-delay) % 4294967296 then 0 else (now-last-delay) % 4294967296
theorem frac_bd (x y:Int):0≤frac x y∧frac x y≤255:=by
 unfold frac
 split
 · rename_i h
   have:=Int.ediv_nonneg (a:=256*y) (b:=x) (by omega) (by omega)
   omega
 · omega
theorem all_take (lo hi:Int) (xs:List Int) (k:Nat) (h:k<xs.length):all lo hi (xs.take (k+1))=(all lo hi (xs.take k)&&inB lo hi (xs.getD k 0)):=by
 unfold all
 rw [List.take_succ_eq_append_getElem h,List.all_append,List.getD_eq_getElem?_getD,List.getElem?_eq_getElem h]
 simp
theorem all_false (lo hi:Int) (xs:List Int) (k:Nat) (h:k<xs.length) (hx:inB lo hi (xs.getD k 0)=false):all lo hi xs=false:=by
 unfold all
 rw [List.all_eq_false]
 refine ⟨xs[k],List.getElem_mem h,?_⟩
 rw [List.getD_eq_getElem?_getD,List.getElem?_eq_getElem h] at hx
 simpa using hx
end Rep
namespace Dlt
open Go.RowKit
def stepS (s:Int×Int) (x:Int):Int×Int:=(nextV s.1 s.2 (code s.1 s.2 x),nextI s.2 (code s.1 s.2 x))
def stAt (s:Int×Int) (zs:List Int) (k:Nat):Int×Int:=(zs.take k).foldl stepS s
def codeAt (s:Int×Int) (zs:List Int) (k:Nat):Int:=code (stAt s zs k).1 (stAt s zs k).2 (zs.getD k 0)
theorem stAt_succ (s:Int×Int) (zs:List Int) (k:Nat) (h:k<zs.length) :
 stAt s zs (k+1)=(nextV (stAt s zs k).1 (stAt s zs k).2 (codeAt s zs k),nextI (stAt s zs k).2 (codeAt s zs k)):=by
 unfold stAt
 rw [List.take_succ_eq_append_getElem h,List.foldl_append]
 unfold codeAt stAt
 rw [List.getD_eq_getElem?_getD,List.getElem?_eq_getElem h]
 rfl
theorem zfv (v i c:Int):valid (nextV v i c) (nextI i c)=true:=by
 have h1:=nextV_bd v i c
 have h2:=zqz i c
 simp [valid,h1,h2]
theorem stAt_valid (s:Int×Int) (hs:valid s.1 s.2=true) (zs:List Int):∀ k,valid (stAt s zs k).1 (stAt s zs k).2=true
 | 0=>hs
 | k + 1 => by
   by_cases h:k<zs.length
   · rw [stAt_succ s zs k h];exact zfv _ _ _
   · have e:stAt s zs (k+1)=stAt s zs k:=by unfold stAt;rw [List.take_of_length_le (by omega),List.take_of_length_le (by omega)]
     rw [e];exact stAt_valid s hs zs k
theorem codeAt_bd (s:Int×Int) (zs:List Int) (k:Nat):0≤codeAt s zs k∧codeAt s zs k≤15:=zuk _ _ _
def part (s:Int×Int) (zs:List Int) (k j:Nat):Int:=(if 2*j<k then 16*codeAt s zs (2*j) else 0)+(if 2*j+1<k then codeAt s zs (2*j+1) else 0)
theorem zuo (s:Int×Int) (zs:List Int) (k j:Nat):0≤part s zs k j∧part s zs k j≤255:=by
 have h1:=codeAt_bd s zs (2*j)
 have h2:=codeAt_bd s zs (2*j+1)
 unfold part
 split<;>split<;>omega
theorem part_even (s:Int×Int) (zs:List Int) (k:Nat) (h:k % 2=0):part s zs k (k / 2)=0∧part s zs (k+1) (k / 2)=16*codeAt s zs k:=by
 have e:2*(k / 2)=k:=by omega
 unfold part
 rw [e]
 constructor
 · rw [if_neg (by omega),if_neg (by omega)];rfl
 · rw [if_pos (by omega),if_neg (by omega)];omega
theorem part_odd (s:Int×Int) (zs:List Int) (k:Nat) (h:k % 2=1):part s zs k (k / 2)=16*codeAt s zs (k-1)∧part s zs (k+1) (k / 2)=16*codeAt s zs (k-1)+codeAt s zs k:=by
 have e:2*(k / 2)=k-1:=by omega
 have A:2*(k / 2)+1=k:=by omega
 unfold part
 rw [A,e]
 constructor
 · rw [if_pos (by omega),if_neg (by omega)];omega
 · rw [if_pos (by omega),if_pos (by omega)]
theorem zlo (s:Int×Int) (zs:List Int) (k j:Nat) (h:j≠k / 2):part s zs (k+1) j=part s zs k j:=by
 unfold part
 have a:(2*j<k+1)=(2*j<k):=by simp;omega
 have b:(2*j+1<k+1)=(2*j+1<k):=by simp;omega
 simp only [a,b]
def packAt (s:Int×Int) (zs:List Int) (k j:Nat):Int :=
 if j=0 then s.1 % 65536 / 256 else if j=1 then s.1 % 256 else if j=2 then s.2 else if j=3 then 0 else part s zs k (j-4)
theorem packAt_set (s:Int×Int) (zs:List Int) (k j:Nat):packAt s zs (k+1) j=if j=4+k / 2 then part s zs (k+1) (k / 2) else packAt s zs k j:=by
 by_cases h:j=4+k / 2
 · rw [if_pos h,h]
   unfold packAt
   rw [if_neg (by omega),if_neg (by omega),if_neg (by omega),if_neg (by omega),show 4+k / 2-4=k / 2 by omega]
 · rw [if_neg h]
   unfold packAt
   by_cases h4:j<4
   · have:j=0∨j=1∨j=2∨j=3:=by omega
     rcases this with rfl|rfl|rfl|rfl<;>rfl
   · rw [zlo s zs k (j-4) (by omega)]
theorem packAt_body (s:Int×Int) (zs:List Int) (k j:Nat):packAt s zs k (4+j)=part s zs k j:=by
 unfold packAt
 rw [if_neg (by omega),if_neg (by omega),if_neg (by omega),if_neg (by omega),show 4+j-4=j by omega]
def packB (s:Int×Int) (zs:List Int):List Int:=(List.range (4+(zs.length+1) / 2)).map (packAt s zs zs.length)
theorem packB_len (s:Int×Int) (zs:List Int):(packB s zs).length=4+(zs.length+1) / 2:=by simp [packB]
theorem packB_at (s:Int×Int) (zs:List Int) (j:Nat) (h:j<4+(zs.length+1) / 2):(packB s zs).getD j 0=packAt s zs zs.length j:=by
 simp [packB,List.getD_eq_getElem?_getD,List.getElem?_range h]
theorem packAt_bd (s:Int×Int) (hs:valid s.1 s.2=true) (zs:List Int) (k j:Nat):0≤packAt s zs k j∧packAt s zs k j≤255:=by
 have h : -32768≤s.1∧s.1≤32767∧0≤s.2∧s.2≤88:=by simpa [valid,and_assoc] using hs
 have:=zuo s zs k (j-4)
 unfold packAt
 (repeat' split)<;>omega
def nib (bs:List Int) (k:Nat):Int:=if k % 2=0 then bs.getD (4+k / 2) 0 / 16 else bs.getD (4+k / 2) 0 % 16
def dAt (s:Int×Int) (bs:List Int):Nat→Int×Int
 | 0=>s
 | k+1=>(nextV (dAt s bs k).1 (dAt s bs k).2 (nib bs k),nextI (dAt s bs k).2 (nib bs k))
theorem dAt_valid (s:Int×Int) (hs:valid s.1 s.2=true) (bs:List Int):∀ k,valid (dAt s bs k).1 (dAt s bs k).2=true
 | 0=>hs
 | _+1=>zfv _ _ _
def headS (bs:List Int):Int×Int:=((256*bs.getD 0 0+bs.getD 1 0+32768) % 65536-32768,bs.getD 2 0)
def unpackL (bs:List Int) (n:Nat):List Int:=(List.range n).map fun k=>(dAt (headS bs) bs (k+1)).1
end Dlt
section
open Go.RowKit
def speechB (k:Int):Bool:=k==0||k==8||k==96
theorem zhp {k:Int} (h:k=0∨k=8∨k=96):speechB k=true:=by rcases h with rfl|rfl|rfl<;>rfl
theorem zeq {k:Int} (h:¬(k=0∨k=8∨k=96)):speechB k=false:=by
 have h0:(k==0)=false:=by simp;omega
 have h1:(k==8)=false:=by simp;omega
 have h2:(k==96)=false:=by simp;omega
 unfold speechB
 rw [h0,h1,h2];rfl
theorem zal {k:Int} : speechB k=true↔k=0∨k=8∨k=96:=by
 refine ⟨fun h => ?_,zhp⟩
 rcases Classical.em (k=0∨k=8∨k=96) with h1|h1
 · exact h1
 · rw [zeq h1] at h;cases h
namespace Sb
structure Pt where
 codec:Int
 src:Int
 seq:Int
 time:Int
 mrk:Bool
 below:Int
 cv:Int
 ci:Int
 tn:Ev.Snd
 jt:Jb.Jt
 tk:Pk.Tr
 ht:Int
 st:Rep.St
 hd:Ev.Rcv
 seed:Int
 pk:Int
 oc:Int
def Pt.zero:Pt:=⟨0,0,0,0,false,0,0,0,Ev.Snd.zero,Jb.Jt.none,Pk.Tr.zero,0,Rep.St.zero,⟨false,0,0,0,false⟩,0,0,0⟩
def Pt.near (p:Pt):Prop:=0≤p.tk.high∧p.tk.high≤140737488355328 ∧ -1≤p.tk.jump∧p.tk.jump≤65535 ∧ -140737488355328≤p.ht∧p.ht≤140737488355328
instance (p:Pt):Decidable p.near:=by unfold Pt.near;infer_instance
def Pt.valid (p:Pt):Bool:=speechB p.codec&&Dlt.valid p.cv p.ci&&Jb.valid p.jt&&p.tn.valid&&decide p.near
structure Pt.wf (p:Pt):Prop where
 codec:0≤p.codec∧p.codec≤255
 src:0≤p.src∧p.src≤4294967295
 seq:0≤p.seq∧p.seq≤65535
 time:0≤p.time∧p.time≤4294967295
 below : -9223372036854775808≤p.below∧p.below≤9223372036854775807
 tvol:0≤p.tn.vol∧p.tn.vol≤255
 tcode:0≤p.tn.code∧p.tn.code≤255
 tst:0≤p.tn.start∧p.tn.start≤4294967295
 seed:0≤p.seed∧p.seed≤4294967295
 pk:0≤p.pk∧p.pk≤4294967295
 oc:0≤p.oc∧p.oc≤4294967295
def new (codec src l m:Int):Pt×Int :=
 if speechB codec=false then (Pt.zero,15) else if Jb.cfg l m then ({ Pt.zero with codec:=codec,src:=src,mrk:=true,jt:=(Jb.new l m).1,seed:=src }, 0) else (Pt.zero,3)
structure Pkt where
 mrk:Bool
 ty:Int
 sq:Int
 ti:Int
 src:Int
 pl:List Int
def emit (p:Pt) (ty ti:Int) (mk:Bool) (pl:List Int):Pt×Pkt :=
 ({ p with seq:=(p.seq+1) % 65536,pk:=(p.pk+1) % 4294967296,oc:=(p.oc+pl.length) % 4294967296 }, ⟨mk,ty,p.seq,ti,p.src,pl⟩)
def enc (c:Int) (s:Int×Int) (zs:List Int):List Int×(Int×Int) :=
 if c=0 then (zs.map Cmp.muZ,s) else if c=8 then (zs.map Cmp.aZ,s) else (Dlt.packB s zs,Dlt.stAt s zs zs.length)
def later (t:Int):Int:=(t+160) % 4294967296
def send0 (p:Pt) (zs:List Int):Pt×List Pkt :=
 if p.tn.on=true∨p.tn.ends≠0 then
  let x:=Ev.next p.tn 160
  let r:=emit { p with tn:=x.s } 101 x.o.time x.o.marker (Ev.encT x.o.tone.code x.o.tone.fin x.o.tone.vol x.o.tone.dur).1
  ({ r.1 with below:=0,mrk:=true,time:=later p.time }, [r.2])
 else if Ev.quiet p.below zs=10 then
  if p.below<10 then
   let r:=emit p 13 p.time false [Ev.lev zs]
   ({ r.1 with below:=Ev.quiet p.below zs,mrk:=true,time:=later p.time }, [r.2])
  else ({ p with below:=Ev.quiet p.below zs,mrk:=true,time:=later p.time }, [])
 else
  let b:=enc p.codec (p.cv,p.ci) zs
  let r:=emit { p with below:=Ev.quiet p.below zs } p.codec p.time p.mrk b.1
  ({ r.1 with mrk:=false,cv:=b.2.1,ci:=b.2.2,time:=later p.time }, [r.2])
def send (p:Pt) (zs:List Int):Pt×List Pkt×Int :=
 if p.valid=true∧zs.length=160 then ((send0 p zs).1,(send0 p zs).2,0) else (Pt.zero,[],2)
def press (p:Pt) (code:Int):Pt×Int :=
 if p.valid=false then (Pt.zero,2) else if 15<code then (Pt.zero,3) else
  if (Ev.press p.tn code 10 p.time).2=0 then ({ p with tn:=(Ev.press p.tn code 10 p.time).1 }, 0) else (Pt.zero,(Ev.press p.tn code 10 p.time).2)
def release (p:Pt):Pt×Int :=
 if p.valid=false then (Pt.zero,2) else if (Ev.release p.tn).2=0 then ({ p with tn:=(Ev.release p.tn).1 }, 0) else (Pt.zero,(Ev.release p.tn).2)
def Dlt.fits (bs:List Int) (n:Nat):Prop:=bs.length=4+(n+1) / 2∧bs.getD 2 0≤88∧bs.getD 3 0=0∧(n % 2=1→bs.getD (bs.length-1) 0 % 16=0)
instance (bs:List Int) (n:Nat):Decidable (Dlt.fits bs n):=by unfold Dlt.fits;infer_instance
def decS (c:Int) (pl:List Int):List Int :=
 if c=0 then pl.map Cmp.fromMuZ else if c=8 then pl.map Cmp.fromAZ else if c=96 then (if Dlt.fits pl 160 then Dlt.unpackL pl 160 else []) else []
def dec (c:Int) (pl:List Int) (seed:Int):List Int×Int :=
 if c=13 then (if pl.length=1 then ((Ev.noise (pl.getD 0 0) seed 160).1,(Ev.noise (pl.getD 0 0) seed 160).2.1) else ([],seed)) else (decS c pl,seed)
structure Sd where
 at_:Int
 zs:List Int
 ks:List Ev.Key
def sounds:Int→List Jb.Wt→Int×List Sd
 | s,[]=>(s,[])
 | s,a::l=>((sounds (dec a.m.ty a.m.pl s).2 l).1,⟨a.at_,(dec a.m.ty a.m.pl s).1,[]⟩::(sounds (dec a.m.ty a.m.pl s).2 l).2)
def chkT (p:Pt) (now:Int):Int:=if p.valid=false∨281474976710656<now then 2 else if now<p.jt.now then 9 else 0
def run (p:Pt) (now:Int):Pt×List Sd :=
 ({ p with jt:=(Jb.run p.jt now).1,seed:=(sounds p.seed (Jb.run p.jt now).2.1).1 }, (sounds p.seed (Jb.run p.jt now).2.1).2)
def play (p:Pt) (now:Int):Pt×List Sd×Int:=if chkT p now=0 then ((run p now).1,(run p now).2,0) else (Pt.zero,[],chkT p now)
structure Arr where
 mrk:Bool
 ty:Int
 sq:Int
 ti:Int
 pl:List Int
def known (x:Arr):Bool:=speechB x.ty||x.ty==13||(x.ty==101&&(Ev.decT x.pl).2==0)
def time (p:Pt) (x:Arr):Int:=if p.tk.on=true then Pk.near p.ht x.ti 4294967296 else x.ti
def recv0 (p:Pt) (now:Int) (x:Arr):Pt×Int×List Sd :=
 if known x=false then ((run p now).1,5,(run p now).2) else
 let f:=Pk.follow p.tk x.sq
 let p1:Pt := { p with tk:=f.1 }
 if f.2.2=false then ((run p1 now).1,5,(run p1 now).2) else
 if x.ty=101 then
  let h:=Ev.hear p.hd x.ti (Ev.decT x.pl).1
  let r:=run p1 now
  ({ r.1 with hd:=h.1 }, 1,r.2++(if h.2=[] then [] else [⟨now,[],h.2⟩]))
 else
  let t:=time p x
  let p2:Pt := { p1 with ht:=if p.tk.on=false∨p.ht<t then t else p.ht,st:=Rep.arrive p.st f.2.1 (8*now) t }
  let j:=Jb.put p.jt now ⟨f.2.1,t,x.mrk,x.ty,x.pl⟩
  ({ p2 with jt:=j.1,seed:=(sounds p.seed j.2.1).1 }, j.2.2.1,(sounds p.seed j.2.1).2)
def recv (p:Pt) (now:Int) (x:Arr):Pt×Int×List Sd×Int :=
 if chkT p now=2∨1500<x.pl.length then (Pt.zero,0,[],2) else if chkT p now=9 then (Pt.zero,0,[],9) else ((recv0 p now x).1,(recv0 p now x).2.1,(recv0 p now x).2.2,0)
def report (p:Pt) (source last delay:Int):Rep.Bk×Pt×Int :=
 if p.valid=false then (Rep.Bk.zero,Pt.zero,2) else ((Rep.summary p.st source last delay).1, { p with st:=(Rep.summary p.st source last delay).2 }, 0)
end Sb
theorem zcv {p q:Prop} (h:p) (f:p→q):p∧q:=⟨h,f h⟩
theorem zaq (w:World) (a:Obj):(w.alloc a).heap.size=w.heap.size+1:=by simp
theorem zbt (w:World) (a b:Obj):((w.alloc a).alloc b).heap.size=w.heap.size+1+1:=by simp
theorem ziy (w:World) (a b c:Obj):(((w.alloc a).alloc b).alloc c).heap.size=w.heap.size+1+1+1:=by simp
def setRow (g:Nat):World→Nat→List Value→World
 | w,_,[]=>w
 | w,i,v::vs=>setRow g (w.setCell ⟨g,i,none⟩ v) (i+1) vs
theorem zbn (g:Nat):∀ (vs:List Value) (w:World) (i:Nat),(setRow g w i vs).heap.size=w.heap.size
 | [],_,_=>rfl
 | v :: vs, w, i => by
   unfold setRow
   rw [zbn g vs]
   simp [World.setCell]
theorem below_setRow {B g:Nat} {W:World} (hB:B≤g):∀ (vs:List Value) (w:World) (i:Nat),Below B W w→Below B W (setRow g w i vs)
 | [],_,_,h=>h
 | v::vs,w,i,h=>below_setRow hB vs _ (i+1) (h.setCell hB v)
theorem RowsNew.setRow {α : Type} {row : α → List Value} {g n size:Nat} {A:Option Addr} {l:List α} (hg:g<n):∀ (vs:List Value) (w:World) (i:Nat),RowsNew n w size row A l→RowsNew n (setRow g w i vs) size row A l
 | [],_,_,h=>h
 | v::vs,w,i,h=>RowsNew.setRow hg vs _ (i+1) (RowsNew.setCell h hg v)
theorem Blk.setRow_ {g:Nat} {t:TypeId} : ∀ (vs:List Value) (w:World) (i:Nat) (cs:Array Value),Blk w g t cs→cs.size=i+vs.length→Blk (setRow g w i vs) g t (cs.toList.take i++vs).toArray
 | [], w, i, cs, h, hs => by
   have:(cs.toList.take i ++ []).toArray=cs:=by
    simp at hs
    rw [List.append_nil,List.take_of_length_le (by simp;omega)]
   rw [this];exact h
 | v :: vs, w, i, cs, h, hs => by
   have h2:=Blk.setRow_ vs (w.setCell ⟨g,i,none⟩ v) (i+1) _ (h.set_ i v) (by simp at hs ⊢; omega)
   have he:((cs.setIfInBounds i v).toList.take (i+1)++vs)=cs.toList.take i++v::vs:=by
    have hi:i<cs.size:=by simp at hs;omega
    simp only [Array.toList_setIfInBounds]
    rw [List.take_succ_eq_append_getElem (by simpa using hi)]
    simp [List.take_set_of_le]
   rw [he] at h2
   exact h2
theorem Blk.setRow (h:Blk w g t cs) (vs:List Value) (hs:cs.size=vs.length):Blk (setRow g w 0 vs) g t vs.toArray:=by
 have:=Blk.setRow_ vs w 0 cs h (by omega)
 simpa using this
theorem Blk.farRow {g g':Nat} {t:TypeId} {cs:Array Value} (hg:g≠g'):∀ (vs:List Value) (w:World) (i:Nat),Blk w g t cs→Blk (Go.Proofs.YtbcgnddpkiemoaaGreat.setRow g' w i vs) g t cs
 | [],_,_,h=>h
 | v::vs,w,i,h=>Blk.farRow hg vs _ (i+1) (h.far (by exact hg) v)
theorem Owns.setRow {base size n c:Nat} {e:TypeId} {A:Option Addr} {xs:List Value} (g:Nat):∀ (vs:List Value) (w:World) (i:Nat),(∀ b,ownB A=some b→b≠g)→Owns w base e size A n c xs→Owns (Go.Proofs.YtbcgnddpkiemoaaGreat.setRow g w i vs) base e size A n c xs
 | [],_,_,_,h=>h
 | v::vs,w,i,hb,h=>Owns.setRow g vs _ (i+1) hb (h.setCell (fun b he=>hb b he) v)
def IntsNew (n:Nat) (w:World) (k:IntKind) (A:Option Addr) (zs:List Int):Prop:=IntsAt w w.heap.size k A zs∧(0<zs.length→∀ b off,A=some ⟨b,off,none⟩→n≤b)
section
variable {w w':World} {B n:Nat} {k:IntKind} {A:Option Addr} {zs:List Int}
theorem IntsNew.nil:IntsNew n w k A []:=⟨IntsAt.nil,fun h=>absurd h (by simp)⟩
theorem IntsNew.later (h:IntsNew n w k A zs) (hb:Below w.heap.size w w'):IntsNew n w' k A zs:=⟨h.1.later hb,h.2⟩
theorem IntsNew.push (h:IntsNew n w k A zs) (o:Obj):IntsNew n (w.alloc o) k A zs:=⟨h.1.push o,h.2⟩
theorem IntsNew.less (h:IntsNew n w k A zs) (hm:m≤n):IntsNew m w k A zs:=⟨h.1,fun h0 b off e=>Nat.le_trans hm (h.2 h0 b off e)⟩
theorem IntsNew.setCell (h:IntsNew n w k A zs) (hp:p.block<n) (u:Value):IntsNew n (w.setCell p u) k A zs:=by
 refine ⟨fun h0 => ?_,h.2⟩
 obtain ⟨b,off,rfl,hb,hc⟩:=h.1 h0
 have hn:=h.2 h0 b off rfl
 refine ⟨b,off,rfl,by simpa [World.setCell] using hb,fun i hi => ?_⟩
 rw [World.cell?_setCell_other w p _ u (fun e=>by subst e;simp at hp;omega)]
 exact hc i hi
theorem IntsNew.of_own {e:Nat} (h:Owns w base e 1 A n c (zs.map (Value.int k))) (hB:B≤base:=by omega):IntsNew B w k A zs:=by
 refine ⟨IntsAt.of_own h,fun h0 b off e => ?_⟩
 have hn:zs.length=n:=by have:=h.1;simpa using this
 obtain ⟨g,rfl,hg,hlt⟩:=Owns.form h (by omega)
 injection e with e
 injection e with D C
 omega
end
theorem IntsNew.setRow {k:IntKind} {g n:Nat} {A:Option Addr} {zs:List Int} (hg:g<n):∀ (vs:List Value) (w:World) (i:Nat),IntsNew n w k A zs→IntsNew n (setRow g w i vs) k A zs
 | [],_,_,h=>h
 | v::vs,w,i,h=>IntsNew.setRow hg vs _ (i+1) (IntsNew.setCell h hg v)
section
variable {P:Program} {w:World} {g:Nat} {t ty:TypeId} {cs:List Value} {d:TypeDesc}
def aggT:TypeDesc→Bool
 | .struct _=>true
 | .array _ _=>true
 | _=>false
def partS (cs:List Value) (i n:Nat):List Value:=(cs.drop i).take n
theorem zch (hg:Blk w g t cs.toArray) (i n:Nat) (hd:aggT d=true) (hu:P.underlying ty=some d)
 (hi:(P.info? ty).map (·.size)=some n) (hn:i+n≤cs.length):(loadVar ty ⟨g,i,none⟩).run P w = .ok (.agg (partS cs i n).toArray) w:=by
 have A:(partS cs i n).length=n:=by unfold partS;simp;omega
 have hl:(loadCells ⟨g,i,none⟩ (partS cs i n).length).run P w = .ok (partS cs i n).toArray w :=
  run_loadCells_list (P:=P) w ⟨g,i,none⟩ (partS cs i n) (fun j v hv=>by
   have C:(⟨g,i,none⟩:Addr).add j=⟨g,i+j,none⟩:=by unfold Addr.add;split<;>simp_all
   have B:j<n:=by rw [← A];exact (List.getElem?_eq_some_iff.1 hv).1
   rw [C,hg.cell]
   rw [← hv]
   unfold partS
   simp [List.getElem?_take,B])
 rw [A] at hl
 cases hq:P.info? ty with
 | none=>simp [hq] at hi
 | some q =>
   have hs:q.size=n:=by simpa [hq] using hi
   have D:(isAgg ty).run P w = .ok true w:=by
    unfold isAgg
    rw [Sem.run_bind,run_underlying hu w]
    cases d<;>simp_all [aggT]
   simp [loadVar,Sem.run_bind,D,sizeOf,typeInfo,hq,hs,hl]
def overS (cs:List Value) (i:Nat) (vs:List Value):List Value:=cs.take i++vs++cs.drop (i+vs.length)
theorem zbu:∀ (vs:List Value) (i j:Nat) (cur:Array Value) (w:World),w.heap[g]? = some (.cells cur t (0,0))→i+j+vs.length≤cur.size→(∀ v∈vs,v.oneCell'=true) →
 (storeCells ⟨g,i,none⟩ vs j).run P w = .ok () (w.setRow g (overS cur.toList (i+j) vs).toArray)
 | [], i, j, cur, w, hg, hl, _ => by
   have e:overS cur.toList (i+j) []=cur.toList:=by unfold overS;simp
   have hlt:g<w.heap.size:=(Array.getElem?_eq_some_iff.1 hg).1
   have hv:w.heap[g] = .cells cur t (0,0):=(Array.getElem?_eq_some_iff.1 hg).2
   simp only [storeCells,e,Array.toArray_toList]
   show Result.ok () w=_
   congr 1
   unfold World.setRow
   cases w with
   | mk A tape G os output =>
     congr 1
     apply Array.ext
     · simp
     · intro k h1 h2
       simp only [Array.getElem_modify]
       split
       · rename_i hk;subst hk;simp at hv;simp [hv]
       · rfl
 | v :: rest, i, j, cur, w, hg, hl, h1 => by
   have hi:i+j<cur.size:=by simp at hl;omega
   have C:(⟨g,i,none⟩:Addr).add j=⟨g,i+j,none⟩:=by unfold Addr.add;split<;>simp_all
   have qc:w.cell? ⟨g,i+j,none⟩=some cur[i+j]:=by simp [World.cell?,hg,hi]
   have F:w.frozen? ⟨g,i+j,none⟩=false:=by simp [World.frozen?,hg]
   have E:(store ((⟨g,i,none⟩:Addr).add j) v).run P w = .ok () (w.setRow g (cur.setIfInBounds (i+j) v)):=by
    rw [C,run_store P w _ v _ (h1 v (by simp)),qc]
    simp [F,setCell_eq_setRow w g (i+j) cur t (0,0) v hg]
   have ih:=zbu rest i (j+1) (cur.setIfInBounds (i+j) v) (w.setRow g (cur.setIfInBounds (i+j) v)) (setRow_heap w g cur _ t _ hg) (by simp at hl ⊢; omega) (fun x hx=>h1 x (by simp [hx]))
   simp only [storeCells,Sem.run_bind,E,Result.andThen_ok,ih,setRow_setRow]
   congr 3
   unfold overS
   apply List.ext_getElem?
   intro k
   simp only [Array.toList_setIfInBounds,List.getElem?_append,List.length_append,List.length_take,List.length_set,Array.length_toList,List.length_cons,List.getElem?_drop,List.getElem?_take,List.getElem?_set]
   by_cases hk:k<i+j
   · simp [hk,show k<i+(j+1) by omega,show k<min (i+(j+1)) cur.size+rest.length by omega,show k<min (i+j) cur.size+(rest.length+1) by omega,show k<min (i+(j+1)) cur.size by omega,show k<min (i+j) cur.size by omega,show i+j≠k by omega]
   · by_cases D:k=i+j
     · subst D
       simp [show i+j<min (i+(j+1)) cur.size by omega,show i+j<min (i+(j+1)) cur.size+rest.length by omega,show min (i+j) cur.size=i+j by omega,hi]
     · have B:min (i+(j+1)) cur.size=i+(j+1):=by omega
       have m2:min (i+j) cur.size=i+j:=by omega
       rw [B,m2]
       by_cases h3:k<i+(j+1)+rest.length
       · simp [h3,show ¬ k<i+(j+1) by omega,hk,show k<i+j+(rest.length+1) by omega,show k-(i+j)=(k-(i+(j+1)))+1 by omega]
       · simp [h3,show ¬ k<i+j+(rest.length+1) by omega,show i+(j+1)+rest.length+(k-(i+(j+1)+rest.length))=i+j+(rest.length+1)+(k-(i+j+(rest.length+1))) by omega,show i+j≠i+j+(rest.length+1)+(k-(i+j+(rest.length+1))) by omega]
theorem zca (hg:Blk w g t cs.toArray) (i:Nat) (vs:List Value) (hi:(P.info? ty).map (·.size)=some vs.length) (hn:i+vs.length≤cs.length) (h1:vs.all (·.oneCell')=true) :
 (storeVar ty ⟨g,i,none⟩ (.agg vs.toArray)).run P w = .ok () (w.setRow g (overS cs i vs).toArray):=by
 have:=zbu (P:=P) (g:=g) (t:=t) vs i 0 cs.toArray w hg (by simpa using hn) (fun v hv=>List.all_eq_true.1 h1 v hv)
 cases hq:P.info? ty with
 | none=>simp [hq] at hi
 | some q =>
   have hs:vs.length=q.size:=by simp [hq] at hi;omega
   simp [storeVar,sizeOf,typeInfo,hq,Value.cells,hs]
   simpa using this
end
def OnlyB (g:Nat) (w w':World):Prop:=w.grownBy w' (some g)∧w'.heap.size=w.heap.size
section
variable {w w' w'':World} {g:Nat}
theorem OnlyB.refl (w:World):OnlyB g w w:=⟨World.grownBy.refl w _,rfl⟩
theorem OnlyB.trans (h:OnlyB g w w') (h2:OnlyB g w' w''):OnlyB g w w'' :=
 ⟨⟨h2.1.os.trans h.1.os,h2.1.tape.trans h.1.tape,h2.1.output.trans h.1.output,Nat.le_trans h.1.size h2.1.size,fun k hk A=>(h2.1.block k (by rw [h.2];exact hk) A).trans (h.1.block k hk A)⟩,h2.2.trans h.2⟩
theorem OnlyB.setCell (w:World) (g i:Nat) (v:Value):OnlyB g w (w.setCell ⟨g,i,none⟩ v):=⟨⟨rfl,rfl,rfl,by simp [World.setCell],fun k _ A=>Below.heap_setCell w ⟨g,i,none⟩ v k (fun e=>A (by rw [e]))⟩,by simp [World.setCell]⟩
theorem OnlyB.setRow (w:World) (g:Nat) (cs:Array Value):OnlyB g w (w.setRow g cs):=⟨⟨rfl,rfl,rfl,by simp,fun k _ A=>setRow_other w g k cs (fun e=>A (by rw [e]))⟩,by simp⟩
theorem OnlyB.drew (h:OnlyB g w w'):OnlyB g w w'.drew:=⟨⟨h.1.os,h.1.tape,h.1.output,h.1.size,h.1.block⟩,h.2⟩
theorem OnlyB.cell (h:OnlyB g w w') (hp:p.block≠g):w'.cell? p=w.cell? p:=by
 by_cases hlt:p.block<w.heap.size
 · unfold World.cell?
   rw [h.1.block p.block hlt (fun e=>hp (by injection e))]
 · have h1:w.heap[p.block]? = none:=Array.getElem?_eq_none (by omega)
   have h2:w'.heap[p.block]? = none:=Array.getElem?_eq_none (by rw [h.2];omega)
   unfold World.cell?
   rw [h1,h2]
theorem OnlyB.blk (h:OnlyB g w w') (hb:Blk w g' t cs) (A:g'≠g):Blk w' g' t cs:=(h.1.block g' hb.lt (fun e=>A (by injection e))).trans hb
theorem OnlyB.bel (h:OnlyB g w w') (hb:Bel W w) (hg:W.heap.size≤g):Bel W w':=Below.grown hb h.1 hb.size (fun k e=>by injection e with e;omega)
theorem OnlyB.below (h:OnlyB g w w') (hb:Below B W w) (hs:B≤w.heap.size) (hg:B≤g):Below B W w':=hb.grown h.1 hs (fun k e=>by injection e with e;omega)
theorem OnlyB.owns {size:Nat} (h:OnlyB g w w') (ho:Owns w base e size A n c xs) (hg:g<base):Owns w' base e size A n c xs :=
 ho.grown h.1 (fun k hk e=>by injection e with e;have:=(ho.block k hk).1;omega)
end
section
variable {P:Program} {ops:Array Oper} {rest:List Oper} {o:Oper} {a:Act} {w:World} {Q:Exit→Act→World→Prop}
theorem zaf (B:o.guard=none) (ty:TypeId) (x:Operand) (ho:o.op = .load ty x) (g i:Nat) (hx:a.eval x = .pointer (some ⟨g,i,none⟩)) (t:TypeId) (cs:List Value) (hg:Blk w g t cs.toArray) (n:Nat) (d:TypeDesc) (hu:P.underlying ty=some d) (hi:(P.info? ty).map (·.size)=some n) (hn:i+n≤cs.length) (vs:Array Value) (hv:(partS cs i n).toArray=vs) (hd:aggT d=true)
 (h:wpList P ops Q rest (a.put o.dst (.agg vs)) w):wpList P ops Q (o::rest) a w:=by
 subst hv
 refine wpList_plain B fun _ A => ?_
 unfold Oper.wp execOp
 simp only [ho,hx,Instr.loadAt,Instr.sureAddr,Sem.run_bind,Sem.run_pure,Result.andThen_ok,zch hg i n hd hu hi hn]
 exact A _ _ h
theorem zag (D:o.guard=none) (ty:TypeId) (x y:Operand) (ho:o.op = .store ty x y) (g i:Nat) (hx:a.eval x = .pointer (some ⟨g,i,none⟩)) (t:TypeId) (cs:List Value) (hg:Blk w g t cs.toArray) (vs:List Value) (B:a.eval y = .agg vs.toArray) (hi:(P.info? ty).map (·.size)=some vs.length) (hn:i+vs.length≤cs.length) (h1:vs.all (·.oneCell')=true) (A:List Value) (hc:overS cs i vs=A)
 (h:∀ W,Blk W g t A.toArray→OnlyB g w W→wpList P ops Q rest (a.put o.dst undef) W):wpList P ops Q (o::rest) a w:=by
 subst hc
 refine wpList_plain D fun _ C => ?_
 unfold Oper.wp execOp
 simp only [ho,hx,B,Instr.storeAt,Instr.sureAddr,Sem.run_bind,Sem.run_pure,Result.andThen_ok,zca hg i vs hi hn h1]
 exact C _ _ (h _ (setRow_heap w g _ _ t _ hg) (OnlyB.setRow w g _))
end
theorem RowsAt.grown {α : Type} {r : α → List Value} {size:Nat} {l:List α} {row:Option Nat} (h:RowsAt w B size r A l) (hg:w.grownBy w' row) (hB:B≤w.heap.size) (hr:∀ g,row=some g→B≤g):RowsAt w' B size r A l :=
 h.keep fun p hp=>(Below.refl B w).grown hg hB hr |>.cell hp
theorem RowsAt.drew {α : Type} {r : α → List Value} {size:Nat} {l:List α} (h:RowsAt w B size r A l):RowsAt w.drew B size r A l:=h
theorem zer {o:Oper} {a:Act} {K:Act→World→Prop} {Q:Exit→Act→World→Prop} {E:Prop} (d:Tmp) (G:o.guard=none) (hd:o.dst=some d) (s x:Operand) (t:TypeId)
 (ho:o.op = .call { callee := .builtin .append,args := #[s,x],argTypes := #[t,t] })
 (base:Nat) (e:TypeId) (size bytes:Nat) (z:Value) (ht:P.underlying t=some (.slice e)) (M:(P.info? e).map (fun i=>(i.zero,i.size,i.bytes))=some (some z,size,bytes))
 (H:z.cells.size=size) (N:0<size) (A:Option Addr) (n c:Nat) (xs:List Value) (hs:a.eval s = .slice A n c) (C:Owns w base e size A n c xs)
 (B:Nat) (cs:List Value) (hl:cs.length=size) (h1:∀ u∈cs,u.oneCell'=true) (hx:a.eval x = .slice (some ⟨B,0,none⟩) 1 1) (hb:Blk w B e cs.toArray)
 (D:n+1≤maxLen) (O:(n+1)*bytes≤140737488355328) (R:base≤w.heap.size)
 (h:∀ (A':Option Addr) (c':Nat) (w':World),Owns w' base e size A' (n+1) c' (xs++cs)→w.grownBy w' (ownB A)→K (a.put (some d) (.slice A' (n+1) c')) w') :
 if Region.wanted o (yielded ops a.tmps)=true then Oper.wp P o a w K Q else E:=by
 obtain ⟨i,hi,I,F,L⟩:=info_parts M
 refine step_append_lies w G s x t ho base e i z size bytes ht hi I F L H N _ n xs hs C ⟨B,0,none⟩ 1 1 cs hx (by omega) ?_ h1 (by omega) D O R _ rfl ?_
 · intro j u hu
   exact World.news_of_block hb j u (by simpa using hu)
 · intro g cap w' J hg _ hlt
   rw [zbr] at hg
   rw [hd]
   exact h _ _ w' J hg
structure TW where
 w:Jb.Wt
 B:Option Addr
 c:Nat
def TW.row (a:TW):List Value:=[.int .i64 a.w.at_, .int .i64 a.w.m.sq, .int .i64 a.w.m.ti, .bool a.w.m.mrk, .int .u8 a.w.m.ty, .slice a.B a.w.m.pl.length a.c]
def Wts (w:World) (n:Nat) (A:Option Addr) (l:List TW):Prop:=RowsAt w n 6 TW.row A l∧∀ a∈l,IntsAt w n .u8 a.B a.w.m.pl
section
variable {w w':World} {n:Nat} {A:Option Addr} {l:List TW}
theorem Wts.nil:Wts w n A []:=⟨RowsAt.nil,fun _ h=>by cases h⟩
theorem Wts.keep (h:Wts w n A l) (hk:∀ p:Addr,p.block<n→w'.cell? p=w.cell? p):Wts w' n A l:=⟨h.1.keep hk,fun a B=>(h.2 a B).keep hk⟩
theorem Wts.more (h:Wts w n A l) (hm:n≤m):Wts w m A l:=⟨h.1.more hm,fun a B=>(h.2 a B).more hm⟩
theorem Wts.later (h:Wts w w.heap.size A l) (hb:Below w.heap.size w w'):Wts w' w'.heap.size A l:=(h.keep fun _ hp=>hb.cell hp).more hb.size
theorem Wts.below (h:Wts w B A l) (hb:Below B w w'):Wts w' B A l:=h.keep fun _ hp=>hb.cell hp
theorem Wts.push (h:Wts w w.heap.size A l) (o:Obj):Wts (w.alloc o) (w.alloc o).heap.size A l:=(h.keep fun p hp=>World.cell?_alloc_lt w o p hp).more (by simp)
theorem Wts.drew (h:Wts w n A l):Wts w.drew n A l:=h
end
theorem zes {l:List TW} (h:RowsAt w n 6 TW.row A l) {k:Nat} {a:TW} (C:l[k]? = some a):∃ b off,A=some ⟨b,off,none⟩∧b<n ∧
 w.cell? ⟨b,off+k*6,none⟩=some (.int .i64 a.w.at_)∧w.cell? ⟨b,off+k*6+1,none⟩=some (.int .i64 a.w.m.sq)∧w.cell? ⟨b,off+k*6+2,none⟩=some (.int .i64 a.w.m.ti)∧w.cell? ⟨b,off+k*6+3,none⟩=some (.bool a.w.m.mrk)∧w.cell? ⟨b,off+k*6+4,none⟩=some (.int .u8 a.w.m.ty)∧w.cell? ⟨b,off+k*6+5,none⟩=some (.slice a.B a.w.m.pl.length a.c):=by
 obtain ⟨b,off,rfl,hb,hc⟩:=h (by have:=(List.getElem?_eq_some_iff.1 C).1;omega)
 exact ⟨b,off,rfl,hb,hc k a C 0 _ rfl,hc k a C 1 _ rfl,hc k a C 2 _ rfl,hc k a C 3 _ rfl,hc k a C 4 _ rfl,hc k a C 5 _ rfl⟩
def JROW (s:Jb.Jt) (A:Option Addr) (c:Nat):List Value:=[.int .i64 s.least, .int .i64 s.most, .int .i64 s.now, .bool s.on, .int .i64 s.zero, .int .i64 s.first, .int .i64 s.high, .int .i64 s.done, .int .i64 s.spread, .int .i64 s.trans, .slice A s.q.length c, .int .i64 s.late, .int .i64 s.twice, .int .i64 s.played]
def I64 (z:Int):Prop := -9223372036854775808≤z∧z≤9223372036854775807
structure Fits (s:Jb.Jt):Prop where
 least:I64 s.least
 most:I64 s.most
 now:I64 s.now
 zero:I64 s.zero
 first:I64 s.first
 high:I64 s.high
 done:I64 s.done
 spread:I64 s.spread
 trans:I64 s.trans
 late:I64 s.late
 twice:I64 s.twice
 played:I64 s.played
 q:∀ w∈s.q,I64 w.at_∧I64 w.m.sq∧I64 w.m.ti∧0≤w.m.ty∧w.m.ty≤255∧Within 0 255 w.m.pl
def JW (s:Jb.Jt) (A:Option Addr) (n c:Nat):List Value:=[.int .i64 s.least, .int .i64 s.most, .int .i64 s.now, .bool s.on, .int .i64 s.zero, .int .i64 s.first, .int .i64 s.high, .int .i64 s.done, .int .i64 s.spread, .int .i64 s.trans, .slice A n c, .int .i64 s.late, .int .i64 s.twice, .int .i64 s.played]
def PL (p:Sb.Pt) (A:Option Addr) (n c:Nat):List Value :=
 [.int .u8 p.codec, .int .u32 p.src, .int .u16 p.seq, .int .u32 p.time, .bool p.mrk, .int .i64 p.below, .int .i64 p.cv, .int .i64 p.ci,
  .bool p.tn.on, .int .u8 p.tn.code, .int .u8 p.tn.vol, .int .u32 p.tn.start, .int .i64 p.tn.len, .int .i64 p.tn.ends,
  .int .i64 p.jt.least, .int .i64 p.jt.most, .int .i64 p.jt.now, .bool p.jt.on, .int .i64 p.jt.zero, .int .i64 p.jt.first, .int .i64 p.jt.high, .int .i64 p.jt.done, .int .i64 p.jt.spread, .int .i64 p.jt.trans, .slice A n c, .int .i64 p.jt.late, .int .i64 p.jt.twice, .int .i64 p.jt.played,
  .bool p.tk.on, .int .i64 p.tk.high, .int .i64 p.tk.jump, .int .i64 p.ht,
  .bool p.st.seen, .int .i64 p.st.base, .int .i64 p.st.high, .int .i64 p.st.got, .int .i64 p.st.wexp, .int .i64 p.st.wrec, .int .i64 p.st.trans, .int .i64 p.st.jit,
  .bool p.hd.on, .int .u32 p.hd.time, .int .u8 p.hd.code, .int .i64 p.hd.len, .bool p.hd.ended, .int .u32 p.seed, .int .u32 p.pk, .int .u32 p.oc]
def PA (p:Sb.Pt) (A:Option Addr) (n c:Nat):Array Value:=(PL p A n c).toArray
theorem zai:(Tryz.prog.info? 45).map (·.size)=some 48:=by kernel_rfl
theorem zbg:(Tryz.prog.info? 37).map (·.size)=some 14:=by kernel_rfl
theorem zkl:(Tryz.prog.info? 30).map (·.size)=some 2:=by kernel_rfl
theorem zgp:(Tryz.prog.info? 39).map (·.size)=some 3:=by kernel_rfl
theorem zcd:(Tryz.prog.info? 28).map (·.size)=some 1:=by kernel_rfl
theorem zcy:(Tryz.prog.info? 41).map (·.size)=some 8:=by kernel_rfl
def PB (W:World) (g:Nat) (p:Sb.Pt) (A:Option Addr) (n c:Nat):Prop:=Blk W g 45 (PA p A n c)
section
variable {W:World} {g:Nat} {p:Sb.Pt} {A:Option Addr} {n c:Nat}
theorem PB.cell (h:PB W g p A n c) (i:Nat) (v:Value) (hv:(PL p A n c)[i]? = some v):W.cell? ⟨g,i,none⟩=some v:=Blk.at h i v (by unfold PA;simpa using hv)
theorem PB.jt (h:PB W g p A n c):W.cell? ⟨g,14,none⟩=some (.int .i64 p.jt.least)∧W.cell? ⟨g,15,none⟩=some (.int .i64 p.jt.most)∧W.cell? ⟨g,16,none⟩=some (.int .i64 p.jt.now)∧W.cell? ⟨g,17,none⟩=some (.bool p.jt.on)∧W.cell? ⟨g,18,none⟩=some (.int .i64 p.jt.zero)∧W.cell? ⟨g,19,none⟩=some (.int .i64 p.jt.first)∧W.cell? ⟨g,20,none⟩=some (.int .i64 p.jt.high)∧W.cell? ⟨g,21,none⟩=some (.int .i64 p.jt.done)∧W.cell? ⟨g,22,none⟩=some (.int .i64 p.jt.spread)∧W.cell? ⟨g,23,none⟩=some (.int .i64 p.jt.trans)∧W.cell? ⟨g,24,none⟩=some (.slice A n c)∧W.cell? ⟨g,25,none⟩=some (.int .i64 p.jt.late)∧W.cell? ⟨g,26,none⟩=some (.int .i64 p.jt.twice)∧W.cell? ⟨g,27,none⟩=some (.int .i64 p.jt.played):=⟨h.cell 14 _ rfl,h.cell 15 _ rfl,h.cell 16 _ rfl,h.cell 17 _ rfl,h.cell 18 _ rfl,h.cell 19 _ rfl,h.cell 20 _ rfl,h.cell 21 _ rfl,h.cell 22 _ rfl,h.cell 23 _ rfl,h.cell 24 _ rfl,h.cell 25 _ rfl,h.cell 26 _ rfl,h.cell 27 _ rfl⟩
theorem PB.cd (h:PB W g p A n c):W.cell? ⟨g,6,none⟩=some (.int .i64 p.cv)∧W.cell? ⟨g,7,none⟩=some (.int .i64 p.ci):=⟨h.cell 6 _ rfl,h.cell 7 _ rfl⟩
theorem PB.tn (h:PB W g p A n c):W.cell? ⟨g,8,none⟩=some (.bool p.tn.on)∧W.cell? ⟨g,9,none⟩=some (.int .u8 p.tn.code)∧W.cell? ⟨g,10,none⟩=some (.int .u8 p.tn.vol)∧W.cell? ⟨g,11,none⟩=some (.int .u32 p.tn.start)∧W.cell? ⟨g,12,none⟩=some (.int .i64 p.tn.len)∧W.cell? ⟨g,13,none⟩=some (.int .i64 p.tn.ends):=⟨h.cell 8 _ rfl,h.cell 9 _ rfl,h.cell 10 _ rfl,h.cell 11 _ rfl,h.cell 12 _ rfl,h.cell 13 _ rfl⟩
theorem PB.tk (h:PB W g p A n c):W.cell? ⟨g,28,none⟩=some (.bool p.tk.on)∧W.cell? ⟨g,29,none⟩=some (.int .i64 p.tk.high)∧W.cell? ⟨g,30,none⟩=some (.int .i64 p.tk.jump):=⟨h.cell 28 _ rfl,h.cell 29 _ rfl,h.cell 30 _ rfl⟩
theorem PB.st (h:PB W g p A n c):W.cell? ⟨g,32,none⟩=some (.bool p.st.seen)∧W.cell? ⟨g,33,none⟩=some (.int .i64 p.st.base)∧W.cell? ⟨g,34,none⟩=some (.int .i64 p.st.high)∧W.cell? ⟨g,35,none⟩=some (.int .i64 p.st.got)∧W.cell? ⟨g,36,none⟩=some (.int .i64 p.st.wexp)∧W.cell? ⟨g,37,none⟩=some (.int .i64 p.st.wrec)∧W.cell? ⟨g,38,none⟩=some (.int .i64 p.st.trans)∧W.cell? ⟨g,39,none⟩=some (.int .i64 p.st.jit):=⟨h.cell 32 _ rfl,h.cell 33 _ rfl,h.cell 34 _ rfl,h.cell 35 _ rfl,h.cell 36 _ rfl,h.cell 37 _ rfl,h.cell 38 _ rfl,h.cell 39 _ rfl⟩
theorem PB.hd (h:PB W g p A n c):W.cell? ⟨g,40,none⟩=some (.bool p.hd.on)∧W.cell? ⟨g,41,none⟩=some (.int .u32 p.hd.time)∧W.cell? ⟨g,42,none⟩=some (.int .u8 p.hd.code)∧W.cell? ⟨g,43,none⟩=some (.int .i64 p.hd.len)∧W.cell? ⟨g,44,none⟩=some (.bool p.hd.ended):=⟨h.cell 40 _ rfl,h.cell 41 _ rfl,h.cell 42 _ rfl,h.cell 43 _ rfl,h.cell 44 _ rfl⟩
theorem PB.load (h:PB W g p A n c):(loadVar 45 ⟨g,0,none⟩).run Tryz.prog W = .ok (.agg (PA p A n c)) W:=run_loadVar_row W g _ _ (PA p A n c) _ _ h Tryz.underlying45 rfl zai
theorem PB.later (h:PB W g p A n c) (hb:Below W.heap.size W W'):PB W' g p A n c:=Blk.later h hb
theorem PB.push (h:PB W g p A n c) (o:Obj):PB (W.alloc o) g p A n c:=Blk.push h o
theorem PB.new (w:World) (X:Array Value) (B:X=PA p A n c):PB (w.alloc (.cells X 45)) w.heap.size p A n c:=by subst B;exact Blk.new w _ _
end
end
section
attribute [local go_sem ↓] zab zac
attribute [local go_sem] zaa zad
open Go.RowKit
theorem zaz (x:Int) (h0 : -9223372036854775808≤x) (h1:x≤9223372036854775807):IntKind.i64.wrap x=x:=by
 by_cases h:0≤x
 · have e:x % 2 ^ 64=x:=Int.emod_eq_of_lt h (by omega)
   simp only [IntKind.wrap,IntKind.bits,IntKind.signed,e]
   rw [if_neg (by simp;omega)]
 · have e:x % 2 ^ 64=x+2 ^ 64:=by omega
   simp only [IntKind.wrap,IntKind.bits,IntKind.signed,e]
   rw [if_pos (by simp;omega)]
   omega
theorem zup {a b:Bool} (h:a=b):Ending.returned (.bool a) = .returned (.bool b):=by rw [h]
theorem zfw (x:Int) (w:World) (x0 : -9223372036854775808≤x) (x1:x≤9223372036854775807):Calls Tryz.prog 128 #[.int .i64 x] w fun e w'=>e = .returned (.int .i64 (x / 8))∧w=w':=by
 go_enter Tryz.func128,Tryz.ntmps128
 go_wp2_with fail
 go_ret
 exact ⟨by rfl,rfl⟩
theorem zkm (x:Int) (w:World):Calls Tryz.prog 134 #[.int .i64 x] w fun e w'=>e = .returned (.bool false)∧w=w':=by
 go_enter Tryz.func134,Tryz.ntmps134
 go_wp2_with fail
 go_ret
 exact ⟨by simp,rfl⟩
theorem zcz (x y:Int) (w:World):Calls Tryz.prog 114 #[.int .i64 x, .int .i64 y] w fun e w'=>e = .returned (.int .i64 (if x<y then -1 else if y<x then 1 else 0))∧w=w':=by
 obtain ⟨R,A⟩:∃ R:Int,R=if x<y then -1 else if y<x then 1 else 0:=⟨_,rfl⟩
 rw [← A]
 have hc:(x<y∧R = -1)∨(¬x<y∧y<x∧R=1)∨(¬x<y∧¬y<x∧R=0):=by
  by_cases h1:x<y
  · left;exact ⟨h1,by rw [A,if_pos h1]⟩
  · by_cases h2:y<x
    · right;left;exact ⟨h1,h2,by rw [A,if_neg h1,if_pos h2]⟩
    · right;right;exact ⟨h1,h2,by rw [A,if_neg h1,if_neg h2]⟩
 clear A
 rcases hc with ⟨h1,rfl⟩|⟨h1,h2,rfl⟩|⟨h1,h2,rfl⟩
 all_goals
  go_enter Tryz.func114,Tryz.ntmps114
  go_wp2_with fail
  refine (zkm _ _).mono ?_
  rintro e w1 ⟨rfl,rfl⟩
  go_wp2_with fail
  refine (zkm _ _).mono ?_
  rintro e w1 ⟨rfl,rfl⟩
  go_wp2_with fail
  go_ret
  exact ⟨rfl,rfl⟩
theorem zkn (x:Int) (w:World):Calls Tryz.prog 135 #[.int .i64 x] w fun e w'=>e = .returned (.bool false)∧w=w':=by
 go_enter Tryz.func135,Tryz.ntmps135
 go_wp2_with fail
 go_ret
 exact ⟨by simp,rfl⟩
theorem zrc (x y:Int) (w:World):Calls Tryz.prog 129 #[.int .i64 x, .int .i64 y] w fun e w'=>e = .returned (.int .i64 (if x<y then -1 else if y<x then 1 else 0))∧w=w':=by
 obtain ⟨R,A⟩:∃ R:Int,R=if x<y then -1 else if y<x then 1 else 0:=⟨_,rfl⟩
 rw [← A]
 have hc:(x<y∧R = -1)∨(¬x<y∧y<x∧R=1)∨(¬x<y∧¬y<x∧R=0):=by
  by_cases h1:x<y
  · left;exact ⟨h1,by rw [A,if_pos h1]⟩
  · by_cases h2:y<x
    · right;left;exact ⟨h1,h2,by rw [A,if_neg h1,if_pos h2]⟩
    · right;right;exact ⟨h1,h2,by rw [A,if_neg h1,if_neg h2]⟩
 clear A
 rcases hc with ⟨h1,rfl⟩|⟨h1,h2,rfl⟩|⟨h1,h2,rfl⟩
 all_goals
  go_enter Tryz.func129,Tryz.ntmps129
  go_wp2_with fail
  refine (zkn _ _).mono ?_
  rintro e w1 ⟨rfl,rfl⟩
  go_wp2_with fail
  refine (zkn _ _).mono ?_
  rintro e w1 ⟨rfl,rfl⟩
  go_wp2_with fail
  go_ret
  exact ⟨rfl,rfl⟩
theorem zfx (l m:Int) (w:World) (v:Bool) (hv:v=decide (1≤l∧l≤m∧m≤1000)):Calls Tryz.prog 44 #[.agg #[.int .i64 l, .int .i64 m]] w fun e w'=>e = .returned (.bool v)∧Below w.heap.size w w':=by
 have hc:(l<1∧v=false)∨(1≤l∧m<l∧v=false)∨(1≤l∧l≤m∧1000<m∧v=false)∨(1≤l∧l≤m∧m≤1000∧v=true):=by
  by_cases A:1≤l
  rotate_left
  · have q0:l<1:=by omega
    have hf:v=false:=by rw [hv,decide_eq_false_iff_not];intro hx;omega
    left;exact ⟨q0,hf⟩
  by_cases p1:l≤m
  rotate_left
  · have q1:m<l:=by omega
    have hf:v=false:=by rw [hv,decide_eq_false_iff_not];intro hx;omega
    right;left;exact ⟨A,q1,hf⟩
  by_cases B:m≤1000
  rotate_left
  · have q2:1000<m:=by omega
    have hf:v=false:=by rw [hv,decide_eq_false_iff_not];intro hx;omega
    right;right;left;exact ⟨A,p1,q2,hf⟩
  have ht:v=true:=by rw [hv,decide_eq_true_iff];omega
  right;right;right;exact ⟨A,p1,B,ht⟩
 clear hv
 rcases hc with ⟨h0,rfl⟩|⟨h0,h1,rfl⟩|⟨h0,h1,h2,rfl⟩|⟨h0,h1,h2,rfl⟩
 all_goals
  go_enter Tryz.func44,Tryz.ntmps44
  go_wp2_with fail
  go_ret
  exact ⟨by first|(simp;done)|(simp;omega),(Below.refl _ _).alloc (Nat.le_refl _) _⟩
theorem zfy (sq ti:Int) (mk:Bool) (ty:Int) (A:Option Addr) (n c:Nat) (w:World) (v:Bool) (hv:v=decide ((0≤sq∧sq≤281474976710656)∧(-281474976710656≤ti∧ti≤281474976710656)∧n≤1500)):Calls Tryz.prog 124 #[.agg #[.int .i64 sq, .int .i64 ti, .bool mk, .int .u8 ty, .slice A n c]] w fun e w'=>e = .returned (.bool v)∧Below w.heap.size w w':=by
 have hc:(sq<0∧v=false)∨(0≤sq∧281474976710656<sq∧v=false)∨(0≤sq∧sq≤281474976710656∧ti < -281474976710656∧v=false)∨(0≤sq∧sq≤281474976710656 ∧ -281474976710656≤ti∧281474976710656<ti∧v=false)∨(0≤sq∧sq≤281474976710656 ∧ -281474976710656≤ti∧ti≤281474976710656∧1500<(n:Int)∧v=false)∨(0≤sq∧sq≤281474976710656 ∧ -281474976710656≤ti∧ti≤281474976710656∧(n:Int)≤1500∧v=true):=by
  by_cases B:0≤sq
  rotate_left
  · have q0:sq<0:=by omega
    have hf:v=false:=by rw [hv,decide_eq_false_iff_not];intro hx;omega
    left;exact ⟨q0,hf⟩
  by_cases p1:sq≤281474976710656
  rotate_left
  · have q1:281474976710656<sq:=by omega
    have hf:v=false:=by rw [hv,decide_eq_false_iff_not];intro hx;omega
    right;left;exact ⟨B,q1,hf⟩
  by_cases C : -281474976710656≤ti
  rotate_left
  · have q2:ti < -281474976710656:=by omega
    have hf:v=false:=by rw [hv,decide_eq_false_iff_not];intro hx;omega
    right;right;left;exact ⟨B,p1,q2,hf⟩
  by_cases D:ti≤281474976710656
  rotate_left
  · have F:281474976710656<ti:=by omega
    have hf:v=false:=by rw [hv,decide_eq_false_iff_not];intro hx;omega
    right;right;right;left;exact ⟨B,p1,C,F,hf⟩
  by_cases G:(n:Int)≤1500
  rotate_left
  · have E:1500<(n:Int):=by omega
    have hf:v=false:=by rw [hv,decide_eq_false_iff_not];intro hx;omega
    right;right;right;right;left;exact ⟨B,p1,C,D,E,hf⟩
  have ht:v=true:=by rw [hv,decide_eq_true_iff];omega
  right;right;right;right;right;exact ⟨B,p1,C,D,G,ht⟩
 clear hv
 rcases hc with ⟨h0,rfl⟩|⟨h0,h1,rfl⟩|⟨h0,h1,h2,rfl⟩|⟨h0,h1,h2,h3,rfl⟩|⟨h0,h1,h2,h3,h4,rfl⟩|⟨h0,h1,h2,h3,h4,rfl⟩
 all_goals
  go_enter Tryz.func124,Tryz.ntmps124
  go_wp2_with fail
  go_ret
  exact ⟨by first|(simp;done)|(simp;omega),(Below.refl _ _).alloc (Nat.le_refl _) _⟩
theorem zet (a0 s0 t0 y0 a1 s1 t1 y1:Int) (E D:Bool) (G A1:Option Addr) (n0 c0 n1 c1:Nat) (w:World):Calls Tryz.prog 100 #[.agg #[.int .i64 a0, .int .i64 s0, .int .i64 t0, .bool E, .int .u8 y0, .slice G n0 c0], .agg #[.int .i64 a1, .int .i64 s1, .int .i64 t1, .bool D, .int .u8 y1, .slice A1 n1 c1]] w fun e w'=>e = .returned (.int .i64 (if a0<a1 then -1 else if a1<a0 then 1 else if s0<s1 then -1 else if s1<s0 then 1 else 0))∧Below w.heap.size w w':=by
 obtain ⟨R,A⟩:∃ R:Int,R=if a0<a1 then -1 else if a1<a0 then 1 else if s0<s1 then -1 else if s1<s0 then 1 else 0:=⟨_,rfl⟩
 rw [← A]
 have k1:=fun W=>zcz a0 a1 W
 have B:=fun W=>zrc s0 s1 W
 obtain ⟨p,hp⟩:∃ p:Int,p=if a0<a1 then -1 else if a1<a0 then 1 else 0:=⟨_,rfl⟩
 obtain ⟨q,hq⟩:∃ q:Int,q=if s0<s1 then -1 else if s1<s0 then 1 else 0:=⟨_,rfl⟩
 rw [← hp] at k1
 rw [← hq] at B
 have hc:(p≠0∧R=p)∨(p=0∧R=q):=by
  by_cases h1:a0<a1
  · left;rw [hp,A,if_pos h1,if_pos h1];exact ⟨by decide,rfl⟩
  · by_cases h2:a1<a0
    · left;rw [hp,A,if_neg h1,if_pos h2,if_neg h1,if_pos h2];exact ⟨by decide,rfl⟩
    · right;rw [hp,A,hq,if_neg h1,if_neg h2,if_neg h1,if_neg h2];exact ⟨rfl,rfl⟩
 have C:=Z9 k1
 have F:=Z9 B
 clear k1 B hp hq A
 rcases hc with ⟨h1,rfl⟩|⟨rfl,rfl⟩
 · have hb:(R != 0)=true:=by simpa using h1
   clear h1
   go_enter Tryz.func100,Tryz.ntmps100
   go_wp2_with fail
   refine (C.out _).mono ?_
   rintro e w1 ⟨rfl,rfl⟩
   go_wp2_with fail
   go_ret
   exact ⟨rfl,(((Below.refl _ _).alloc (Nat.le_refl _) _).alloc (by simp) _)⟩
 · go_enter Tryz.func100,Tryz.ntmps100
   go_wp2_with fail
   refine (C.out _).mono ?_
   rintro e w1 ⟨rfl,rfl⟩
   go_wp2_with fail
   refine (F.out _).mono ?_
   rintro e w1 ⟨rfl,rfl⟩
   go_wp2_with fail
   go_ret
   exact ⟨rfl,(((Below.refl _ _).alloc (Nat.le_refl _) _).alloc (by simp) _)⟩
theorem zeb (le B nw:Int) (on:Bool) (ze fi hi dn sp tr:Int) (E:Option Addr) (A qc:Nat) (la tw pd:Int) (t:Int) (w:World) (z0 : -1125899906842624≤ze) (z1:ze≤1125899906842624) (f0 : -281474976710656≤fi) (f1:fi≤281474976710656) (t0 : -281474976710656≤t) (t1:t≤281474976710656):Calls Tryz.prog 97 #[.agg #[.int .i64 le, .int .i64 B, .int .i64 nw, .bool on, .int .i64 ze, .int .i64 fi, .int .i64 hi, .int .i64 dn, .int .i64 sp, .int .i64 tr, .slice E A qc, .int .i64 la, .int .i64 tw, .int .i64 pd], .int .i64 t] w fun e w'=>e = .returned (.int .i64 (ze+(t-fi) / 8))∧Below w.heap.size w w':=by
 obtain ⟨d,hd⟩:=nm9 (t-fi)
 have D:t-fi=d:=hd.symm
 have H:IntKind.i64.wrap (t-fi)=d:=by rw [zaz _ (by omega) (by omega)];exact D
 have k1:=Z9 fun W=>zfw d W (by omega) (by omega)
 rw [D]
 obtain ⟨y,C⟩:=nm9 (d / 8)
 have F : -140737488355328≤y∧y≤140737488355328:=by omega
 obtain ⟨y0,y1⟩:=F
 rw [← C] at k1 ⊢
 have G:IntKind.i64.wrap (ze+y)=ze+y:=zaz _ (by omega) (by omega)
 have U:=Z9 ((Bel.refl w).push (.cells #[.int .i64 le, .int .i64 B, .int .i64 nw, .bool on, .int .i64 ze, .int .i64 fi, .int .i64 hi, .int .i64 dn, .int .i64 sp, .int .i64 tr, .slice E A qc, .int .i64 la, .int .i64 tw, .int .i64 pd] 37))
 clear hd C
 go_enter Tryz.func97,Tryz.ntmps97
 go_wp2_with fail
 go_quiet ((go_at_call 128;exact Calls.quiet_of_same ((k1.out _).mono fun _ _ h=>⟨h.1,h.2.symm⟩)))
 go_wp2_with fail
 go_ret
 exact ⟨by first|rfl|simp,U.out.drewN _⟩
end
section
open Go.RowKit
section
variable {P:Program} {w:World}
theorem zko {size:Nat} (h:w.ownsRow base e size v n xs):∃ A c,v = .slice A n c:=by
 rcases h.2 with ⟨rfl,rfl⟩|⟨g,cap,_,hv,_⟩
 · exact ⟨none,0,rfl⟩
 · exact ⟨_,cap,hv⟩
theorem zcq (base:Nat) (t ty e:TypeId) (i:TypeInfo) (size:Nat) (ht:P.underlying t=some (.slice e)) (hi:P.info? e=some i)
 (v:Value) (n:Nat) (xs:List Value) (B:w.ownsRow base e size v n xs) (A:Option Addr) (c:Nat) (D:A=none):(Builtin.append_ #[t,t] ty #[v, .slice A 0 c]).run P w = .ok v w:=by
 subst D
 rcases B.2 with ⟨rfl,rfl⟩|⟨g,cap,cur,rfl,_,_,C,_⟩
 · simp [Builtin.append_,run_underlying ht,sizeOf,typeInfo,hi,Builtin.lenOf,Builtin.firstCells]
 · simp [Builtin.append_,run_underlying ht,sizeOf,typeInfo,hi,Builtin.lenOf,Builtin.firstCells,C,storeCells]
theorem zeu (base:Nat) (t ty e:TypeId) (z:Value) (bytes:Nat) (ht:P.underlying t=some (.slice e)) (L:(P.info? e).map (fun i=>(i.zero,i.size,i.bytes))=some (some z,1,bytes)) (H:z.cells.size=1)
 (v:Value) (n:Nat) (xs:List Value) (C:w.ownsRow base e 1 v n xs)
 (B:Nat) (k:IntKind) (A:Option Addr) (c:Nat) (zs:List Int) (hr:IntsAt w B k A zs) (F:n+zs.length≤maxLen) (N:(n+zs.length)*bytes≤140737488355328) (O:base≤w.heap.size) :
 ∃ A' c' w',(Builtin.append_ #[t,t] ty #[v, .slice A zs.length c]).run P w = .ok (.slice A' (n+zs.length) c') w'∧Owns w' base e 1 A' (n+zs.length) c' (xs++zs.map (Value.int k))∧w.grownBy w' v.ownBlock ∧
  (ownB A'=v.ownBlock∨ownB A'=some w.heap.size):=by
 obtain ⟨i,hi,J,G,K⟩:=info_parts L
 have fin:∀ v' w',(Builtin.append_ #[t,t] ty #[v, .slice A zs.length c]).run P w = .ok v' w'→w'.ownsRow base e 1 v' (n+zs.length) (xs++zs.map (Value.int k))→w.grownBy w' v.ownBlock→(v'.ownBlock=v.ownBlock∨v'.ownBlock=some w.heap.size) →
  ∃ A' c' w',(Builtin.append_ #[t,t] ty #[v, .slice A zs.length c]).run P w = .ok (.slice A' (n+zs.length) c') w'∧Owns w' base e 1 A' (n+zs.length) c' (xs++zs.map (Value.int k))∧w.grownBy w' v.ownBlock∧(ownB A'=v.ownBlock∨ownB A'=some w.heap.size):=by
  intro v' w' h1 h2 h3 h4
  obtain ⟨A',c',rfl⟩:=zko h2
  rw [zbr] at h4
  exact ⟨A',c',w',h1,h2,h3,h4⟩
 rcases A with _|E
 · have hz:zs=[]:=by
    rcases Nat.eq_zero_or_pos zs.length with h0|h0
    · exact List.eq_nil_of_length_eq_zero h0
    · obtain ⟨b,off,h,_⟩:=hr h0
      cases h
   subst hz
   exact fin v w (zcq base t ty e i 1 ht hi v n xs C none c rfl) (by simpa using C) (World.grownBy.refl w _) (.inl rfl)
 · have I:∀ (j:Nat) (u:Value),(zs.map (Value.int k))[j]? = some u→w.cell? (E.add j)=some u:=by
    intro j u hu
    have D:j<zs.length:=by have:=(List.getElem?_eq_some_iff.1 hu).1;simpa using this
    obtain ⟨b,off,h,_,hc⟩:=hr (by omega)
    injection h with h
    subst h
    have:=hc j D
    rw [List.getElem?_map,List.getElem?_eq_getElem D] at hu
    injection hu with hu
    subst hu
    rw [List.getD_eq_getElem?_getD,List.getElem?_eq_getElem D] at this
    by_cases h0:j=0
    · subst h0;exact this
    · simpa [Addr.add,h0] using this
   obtain ⟨v',w',M,h2,h3,_,h5⟩:=run_append_own_at (P:=P) w base t ty e i z 1 bytes ht hi J G K H (by omega) v n xs C E zs.length c (zs.map (Value.int k)) (by simp) I (by
    intro u hu
    obtain ⟨x,_,rfl⟩:=List.mem_map.1 hu
    rfl) F N O
   exact fin v' w' M h2 h3 h5
theorem zbl {rest:List Oper} {o:Oper} {a:Act} {Q:Exit→Act→World→Prop} (F:o.guard=none) (s x:Operand) (t:TypeId)
 (ho:o.op = .call { callee := .builtin .append,args := #[s,x],argTypes := #[t,t] })
 (base:Nat) (e:TypeId) (bytes:Nat) (z:Value) (ht:P.underlying t=some (.slice e)) (H:(P.info? e).map (fun i=>(i.zero,i.size,i.bytes))=some (some z,1,bytes)) (G:z.cells.size=1)
 (A0:Option Addr) (n c0:Nat) (xs:List Value) (hs:a.eval s = .slice A0 n c0) (C:Owns w base e 1 A0 n c0 xs)
 (B:Nat) (k:IntKind) (A:Option Addr) (c:Nat) (zs:List Int) (hx:a.eval x = .slice A zs.length c) (hr:IntsAt w B k A zs) (E:n+zs.length≤maxLen) (J:(n+zs.length)*bytes≤140737488355328) (L:base≤w.heap.size) (m:Nat) (hm:n+zs.length=m)
 (h:∀ (A':Option Addr) (c':Nat) (w':World),Owns w' base e 1 A' m c' (xs++zs.map (Value.int k))→w.grownBy w' (ownB A0)→(ownB A'=ownB A0∨ownB A'=some w.heap.size)→wpList P ops Q rest (a.put o.dst (.slice A' m c')) w') :
 wpList P ops Q (o::rest) a w:=by
 subst hm
 obtain ⟨A',c',w',I,h2,h3,h4⟩:=zeu (P:=P) base t o.type e z bytes ht H G (.slice A0 n c0) n xs C B k A c zs hr E J L
 rw [zbr] at h3 h4
 refine wpList_plain F fun K D => ?_
 unfold Oper.wp execOp
 simp only [ho,resolve,invoke,builtin,Sem.run_bind,Sem.run_pure,Result.andThen_ok,List.map_toArray,List.map_cons,List.map_nil,hs,hx,I]
 exact D _ _ (h A' c' w' h2 h3 h4)
end
theorem IntsAt.cut {k:IntKind} {zs:List Int} (h:IntsAt w B k A zs) (hc:zs.length≤c):IntsAt w B k (if c=n then A else A.map (fun x=>x.add n)) (zs.drop n):=fun h0=>by
 have hn:n<zs.length:=by simp at h0;omega
 obtain ⟨b,off,rfl,hd⟩:=h.drop n hn
 rw [if_neg (by omega)]
 obtain ⟨b2,E,he,hb,qc⟩:=hd h0
 injection he with he
 injection he with D C
 subst D C
 refine ⟨b,off+n,?_,hb,qc⟩
 simp only [Option.map_some,Addr.add]
 by_cases hz:n=0
 · subst hz;rfl
 · rw [if_neg hz]
theorem Owns.cap {size:Nat} (h:Owns w base e size A n c xs):n≤c:=by
 rcases h.2 with ⟨hv,h0⟩|⟨g,cap,cur,hv,_,_,B,_⟩
 · injection hv with _ h1 h2
   omega
 · injection hv with _ _ h2
   omega
theorem Owns.capm {size:Nat} (h:Owns w base e size A n c xs):c≤maxLen:=by
 rcases h.2 with ⟨hv,h0⟩|⟨g,cap,cur,hv,_,_,B,hr⟩
 · injection hv with _ h1 h2
   unfold maxLen;omega
 · injection hv with _ _ h2
   have:=hr.1
   omega
def Grow (w0:World) (A0:Option Addr) (w:World) (A:Option Addr):Prop :=
 w0.grownBy w (ownB A0)∧(ownB A=ownB A0∨∀ g,ownB A=some g→w0.heap.size≤g)
section
variable {w0 w w':World} {A0 A A':Option Addr}
theorem Grow.refl (w:World) (A:Option Addr):Grow w A w A:=⟨World.grownBy.refl w _, .inl rfl⟩
theorem Grow.size (h:Grow w0 A0 w A):w0.heap.size≤w.heap.size:=h.1.size
theorem Grow.step (h:Grow w0 A0 w A) (hg:w.grownBy w' (ownB A)) (E:ownB A'=ownB A∨∀ g,ownB A'=some g→w.heap.size≤g):Grow w0 A0 w' A':=by
 refine ⟨⟨hg.os.trans h.1.os,hg.tape.trans h.1.tape,hg.output.trans h.1.output,Nat.le_trans h.1.size hg.size,fun k hk B => ?_⟩,?_⟩
 · have h1:=h.1.block k hk B
   have h2:some k≠ownB A:=by
    rcases h.2 with e|e
    · rw [e];exact B
    · intro C
      have:=e k C.symm
      omega
   exact (hg.block k (Nat.lt_of_lt_of_le hk h.1.size) h2).trans h1
 · rcases E with e|e
   · rw [e];exact h.2
   · exact .inr fun g D=>Nat.le_trans h.1.size (e g D)
theorem Grow.alloc (h:Grow w0 A0 w A) (o:Obj):Grow w0 A0 (w.alloc o) A:=h.step (World.grownBy_alloc w o _) (.inl rfl)
theorem Grow.drew (h:Grow w0 A0 w A):Grow w0 A0 w.drew A:=⟨⟨h.1.os,h.1.tape,h.1.output,h.1.size,h.1.block⟩,h.2⟩
theorem Grow.below (h:Grow w0 A0 w A) (hb:Below w.heap.size w w'):Grow w0 A0 w' A :=
 h.step ⟨hb.os,hb.tape,hb.output,hb.size,fun k hk _=>hb.block k hk⟩ (.inl rfl)
theorem Grow.trans (h:Grow w0 A0 w A) (h2:Grow w A w1 A1):Grow w0 A0 w1 A1:=h.step h2.1 h2.2
theorem Grow.blk (h:Grow w0 A0 w A) (hb:Blk w0 g t cs) (B:some g≠ownB A0):Blk w g t cs:=hb.grown h.1 B
theorem Grow.cell (h:Grow w0 A0 w A) (hc:w0.cell? a=some v) (B:some a.block≠ownB A0):w.cell? a=some v:=h.1.cell hc B
theorem Grow.bel {a:World} {size:Nat} (h:Grow w0 A0 w A) (ho:Owns w0 base e size A0 n c xs) (hb:Bel a w0) (B:a.heap.size≤base):Bel a w :=
 zek hb ho h.1 (Below.size hb) B
end
theorem zan {rest:List Oper} {o:Oper} {a:Act} {Q:Exit→Act→World→Prop} (H:o.guard=none) (s x:Operand) (t:TypeId)
 (ho:o.op = .call { callee := .builtin .append,args := #[s,x],argTypes := #[t,t] })
 (base:Nat) (e:TypeId) (size bytes:Nat) (z:Value) (ht:P.underlying t=some (.slice e)) (M:(P.info? e).map (fun i=>(i.zero,i.size,i.bytes))=some (some z,size,bytes))
 (I:z.cells.size=size) (N:0<size) (A:Option Addr) (n c:Nat) (xs:List Value) (hs:a.eval s = .slice A n c) (E:Owns w0 base e size A n c xs)
 (cs:List Value) (hl:cs.length=size) (h1:∀ u∈cs,u.oneCell'=true) (hx:a.eval x = .slice (some ⟨w0.heap.size,0,none⟩) 1 1)
 (F:n+1≤maxLen) (O:(n+1)*bytes≤140737488355328) (T:base≤w0.heap.size)
 (h:∀ (A':Option Addr) (c':Nat) (w':World),Owns w' base e size A' (n+1) c' (xs++cs)→w0.grownBy w' (ownB A)→(ownB A'=ownB A∨∀ g,ownB A'=some g→w0.heap.size≤g) →
  wpList P ops Q rest (a.put o.dst (.slice A' (n+1) c')) w'):wpList P ops Q (o::rest) a (w0.alloc (.cells cs.toArray e)):=by
 obtain ⟨i,hi,J,G,L⟩:=info_parts M
 refine wpList_append_lies (w0.alloc (.cells cs.toArray e)) H s x t ho base e i z size bytes ht hi J G L I N _ n xs hs (E.alloc _) ⟨w0.heap.size,0,none⟩ 1 1 cs hx (by omega) ?_ h1 (by omega) F O (by simp;omega) _ rfl ?_
 · intro j u hu
   have hc:=zkj w0 cs e j
   rw [← hu,← hc]
   by_cases h0:j=0
   · subst h0;rfl
   · simp [Addr.add,h0]
 · intro g cap w' K hg C hlt
   rw [zbr] at hg C
   have D:=hg.size
   refine h _ _ w' K ⟨hg.os,hg.tape,hg.output,Nat.le_trans (by simp) D,fun k hk R=>(hg.block k (by simp;omega) R).trans (Below.heap_alloc w0 _ k hk)⟩ ?_
   rcases C with e|e
   · exact .inl e.symm
   · refine .inr fun g' B => ?_
     injection B with B
     rw [← B,e];simp
def be:Nat→Int→List Int
 | 0,_ => []
 | n+1,x=>be n (x / 256) ++ [x % 256]
theorem zap:∀ (n:Nat) (x:Int),(be n x).length=n
 | 0,_=>rfl
 | n+1,x=>by unfold be;rw [List.length_append,zap n];rfl
theorem zhq:∀ (n:Nat) (x:Int),Within 0 255 (be n x)
 | 0,_=>Within.nil _ _
 | n + 1, x => by
   unfold be
   refine (zhq n _).append fun z hz => ?_
   rw [List.mem_singleton.1 hz]
   omega
theorem zgq:∀ (n:Nat) (x:Int),0≤x→be (n+1) x=[x / 256 ^ n % 256]++be n x
 | 0,x,h=>by simp [be]
 | n + 1, x, h => by
   have ih:=zgq n (x / 256) (Int.ediv_nonneg h (by omega))
   show be (n+1) (x / 256) ++ [x % 256]=_
   rw [ih]
   show _=[x / 256 ^ (n+1) % 256]++(be n (x / 256) ++ [x % 256])
   rw [List.append_assoc]
   congr 2
   rw [Int.ediv_ediv_of_nonneg (by omega)]
   congr 3
   rw [Int.pow_succ];omega
end
end Go.Proofs.YtbcgnddpkiemoaaGreat
