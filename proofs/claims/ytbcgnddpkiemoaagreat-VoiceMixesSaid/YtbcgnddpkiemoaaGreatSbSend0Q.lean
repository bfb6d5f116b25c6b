/- Layer 32: what Send leaves. -/
import Derived.Test.YtbcgnddpkiemoaaGreatCaRc2Q
import Derived.Test.YtbcgnddpkiemoaaGreatJtPnQ
import Derived.RegionTactic
import Derived.Deep.RegionHeld3
import Derived.Test.YtbcgnddpkiemoaaGreatSbDecsQ
import Derived.Test.YtbcgnddpkiemoaaGreatSs9Q
import Derived.Test.YtbcgnddpkiemoaaGreatJtValidQ
import Derived.Deep.CutBlock
import Derived.Test.YtbcgnddpkiemoaaGreatVoFunQ
import Derived.Laws.Rows
import Derived.Deep.LoopGhost
set_option linter.unusedVariables false
set_option linter.unusedSimpArgs false
set_option maxRecDepth 100000
set_option maxHeartbeats 12800000
namespace Go.Proofs.YtbcgnddpkiemoaaGreat
attribute [local go_sem ↓] zab zac
attribute [local go_sem] zaa zad
open Go.RowKit
structure TK where
 k:Sb.Pkt
 B:Option Addr
 c:Nat
def TK.row (a:TK):List Value:=pktRow a.k a.B a.c
def Pks (w:World) (n:Nat) (A:Option Addr) (l:List TK):Prop:=RowsAt w n 11 TK.row A l∧∀ a∈l,IntsAt w n .u8 a.B a.k.pl
theorem Pks.nil {w:World} {n:Nat} {A:Option Addr} : Pks w n A []:=⟨fun h=>absurd h (by simp),fun _ h=>by cases h⟩
theorem Pks.keep {w w':World} {n:Nat} {A:Option Addr} {l:List TK} (h:Pks w n A l) (hk:∀ p:Addr,p.block<n→w'.cell? p=w.cell? p):Pks w' n A l:=⟨h.1.keep hk,fun a ha=>(h.2 a ha).keep hk⟩
theorem Pks.more {w:World} {n m:Nat} {A:Option Addr} {l:List TK} (h:Pks w n A l) (hm:n≤m):Pks w m A l:=⟨h.1.more hm,fun a ha=>(h.2 a ha).more hm⟩
theorem Pks.later {w w':World} {A:Option Addr} {l:List TK} (h:Pks w w.heap.size A l) (hb:Below w.heap.size w w'):Pks w' w'.heap.size A l:=(h.keep fun _ hp=>hb.cell hp).more hb.size
theorem Pks.one {w:World} {base bc c:Nat} {A B:Option Addr} {k:Sb.Pkt} {pl:List Int} (ho:Owns w base 112 11 A 1 c (pktRow k B bc)) (hp:IntsAt w w.heap.size .u8 B pl) (hk:k.pl=pl):Pks w w.heap.size A [⟨k,B,bc⟩]:=by
 refine ⟨Owns.rows (l:=[(⟨k,B,bc⟩:TK)]) (row:=TK.row) (by simpa [TK.row] using ho) rfl (fun a=>rfl),fun a ha => ?_⟩
 obtain rfl:=List.mem_singleton.1 ha
 show IntsAt w w.heap.size .u8 B k.pl
 rw [hk];exact hp
def findRegS (i:Nat):Code→Option Code
 | .region j ops d=>if i=j then some (.region j ops d) else none
 | .seq a b => match findRegS i a with
   | some c=>some c
   | none=>findRegS i b
 | .cond _ a b => match findRegS i a with
   | some c=>some c
   | none=>findRegS i b
 | .block _ c=>findRegS i c
 | .loop c=>findRegS i c
 | .scope c=>findRegS i c
 | _=>none
def PksN (n:Nat) (A:Option Addr) (l:List TK):Prop:=(0<l.length→∀ b off,A=some ⟨b,off,none⟩→n≤b)∧∀ a∈l,0<a.k.pl.length→∀ b off,a.B=some ⟨b,off,none⟩→n≤b
theorem PksN.nil {n:Nat} {A:Option Addr} : PksN n A []:=⟨fun h=>absurd h (by simp),fun _ h=>by cases h⟩
theorem PksN.one {w:World} {n base bc c:Nat} {A B:Option Addr} {k:Sb.Pkt} {xs:List Value} (ho:Owns w base 112 11 A 1 c xs) (hb:n≤base) (hp:∀ b off,B=some ⟨b,off,none⟩→n≤b):PksN n A [⟨k,B,bc⟩]:=by
 refine ⟨fun _ b off e => ?_,fun a ha _ b off e => ?_⟩
 · have:=(ho.block b (by rw [e];rfl)).1
   omega
 · obtain rfl:=List.mem_singleton.1 ha
   exact hp b off e
def SendR (R:Sb.Pt×List Sb.Pkt) (w:World) (e:Ending) (w':World):Prop :=
 ∃ (A':Option Addr) (n' c':Nat) (l':List TW) (KA:Option Addr) (kc:Nat) (ks:List TK),e = .returned (.tuple #[.agg (PA R.1 A' n' c'), .slice KA ks.length kc, .int .u8 0])∧ks.map TK.k=R.2∧l'.map TW.w=R.1.jt.q∧l'.length=n'∧n'≤c'∧c'≤maxLen∧Wts w' w'.heap.size A' l'∧Pks w' w'.heap.size KA ks∧Below w.heap.size w w'∧PksN w.heap.size KA ks
theorem PM.drew {W:World} {S:List Nat} {g n c:Nat} {p:Sb.Pt} {A:Option Addr} {l:List TW} (h:PM W S g p A n c l):PM W.drew S g p A n c l:=⟨h.box,h.q,h.len,h.cap,h.cm,⟨h.qa.wts,h.qa.row,h.qa.pay⟩⟩
theorem QOwn.capm {w:World} {base n c:Nat} {A:Option Addr} {l:List TW} (h:QOwn w base A n c l):n≤c∧c≤maxLen:=⟨h.own.cap,Owns.capm h.own⟩
structure EncK (k v i:Int) (ZA:Option Addr) (zc:Nat) (zs bs:List Int) (s:Int×Int) (K:Nat) (C:Nat→Nat→Array Value) (D:Nat→Nat→Value):Prop where
 at_:∀ b1 b2,cAt b1 b2 k = .agg #[.func (.func K) #[] (C b1 b2),D b1 b2]
 en:∀ (args:Array Value) (w:World),(callFunc K args).run Tryz.prog w = .ok (.enter K args) w
 run:∀ (V:World) (b1 b2:Nat),IntsAt V V.heap.size .i16 ZA zs→Blk V b1 5 #[.int .u8 1]→Blk V b2 5 #[.int .u8 2]→Calls Tryz.prog K (#[.agg #[.int .i64 v, .int .i64 i], .slice ZA 160 zc]++C b1 b2) V (EncR bs s V)
theorem zfc (K:Nat) (C:Array Value) (D:Value) (w:World):(Instr.field 148 (.agg #[.func (.func K) #[] C,D]) 0).run Tryz.prog w = .ok (.func (.func K) #[] C) w:=by kernel_rfl
theorem zvl (v i:Int) (A:Option Addr) (zs:List Int) (c:Nat) (w:World) (hv:Dlt.valid v i=true) (hA:IntsAt w w.heap.size .i16 A zs) (hz:Within (-32768) 32767 zs) (h8:zs.length≤8000) (h0:0<zs.length):Calls Tryz.prog 30 #[.agg #[.int .i64 v, .int .i64 i], .slice A zs.length c] w (EncR (Dlt.packB (v,i) zs) (Dlt.stAt (v,i) zs zs.length) w):=by
 refine (zhg v i A zs c w hv hA hz h8 h0).mono ?_
 rintro e w' ⟨A',c',rfl,h1,h2,h3⟩
 exact ⟨A',c',by rw [Dlt.packB_len],h2,h3⟩
theorem encK (k v i:Int) (hk:speechB k=true) (hv:Dlt.valid v i=true) (ZA:Option Addr) (zc:Nat) (zs:List Int) (hz:Within (-32768) 32767 zs) (hl:zs.length=160):∃ K C D,EncK k v i ZA zc zs (Sb.enc k (v,i) zs).1 (Sb.enc k (v,i) zs).2 K C D:=by
 unfold Sb.enc
 rcases zam.1 hk with rfl|rfl|rfl
 · refine ⟨_,fun b1 _ => #[.pointer (some ⟨b1,0,none⟩)],fun b1 _=>_,⟨fun b1 b2=>rfl,fun _ _=>by kernel_rfl,fun V b1 b2 hA h1 h2 => ?_⟩⟩
   have:=ztb v i ZA zs zc b1 V hA hz (by omega) h1
   rw [hl] at this
   exact this
 · refine ⟨_,fun _ b2 => #[.pointer (some ⟨b2,0,none⟩)],fun _ b2=>_,⟨fun b1 b2=>rfl,fun _ _=>by kernel_rfl,fun V b1 b2 hA h1 h2 => ?_⟩⟩
   have:=zwt v i ZA zs zc b2 V hA hz (by omega) h2
   rw [hl] at this
   exact this
 · refine ⟨_,fun _ _ => #[],fun _ _=>_,⟨fun b1 b2=>rfl,fun _ _=>by kernel_rfl,fun V b1 b2 hA h1 h2 => ?_⟩⟩
   have:=zvl v i ZA zs zc V hv hA hz (by omega) (by omega)
   rw [hl] at this
   rw [show zs.length=160 from hl]
   exact this
noncomputable def sr8_code:Code:=((Tryz.f22.body.bind (findRegS 8)).getD .skip)
theorem zwz {s0 s3 s4 s5 s6 s7 s8 s9 s10 s11 s12 s13 s14 s15 s16 s17 s18 s19 s20 s21 s22 s23 s24 s25 s26 s27 s28 s29 s30 s31 s32 s33 s34 s35 s36 s37 s38 s39 s40 s41 s42 s43 s44 s45 s46 s47 s48 s49 s50 s51 s52 s53 s54 s55 s56 s57 s58 s59 s60 s61 s62 s63 s64 s65 s66 s67 s68 s69 s70 s71 s72 s73 s74 s75 s76 s77 s78 s79 s80 s81 s82 s83 s84 s85 s86 s87 s88 s89 s90 s91 s92 s93 s94 s95 s96 s97 s98 s99 s100 s101 s102 s103 s104 s105 s106 s107 s108 s109 s110 s111 s112 s113 s114 s115 s116 s117 s118 s119 s120 s121 s122 s123 s124 s125 s126 s127 s128 s129 s130 s131 s132 s133 s134 s135 s136 s137 s138:Value} {Q:Exit→Act→World→Prop} (N:Nat) (kc v i:Int) (k0:0≤kc) (k1:kc≤255) (ZA:Option Addr) (zs:List Int) (zc:Nat) (bs:List Int) (s:Int×Int) (FK:Nat) (FC:Nat→Nat→Array Value) (FD:Nat→Nat→Value) (hE:EncK kc v i ZA zc zs bs s FK FC FD) (W:World) (x0:W.cell? ⟨N,0,none⟩=some (.int .u8 kc)) (x6:W.cell? ⟨N,6,none⟩=some (.int .i64 v)) (x7:W.cell? ⟨N,7,none⟩=some (.int .i64 i)) (hZ:IntsAt W W.heap.size .i16 ZA zs) (hQp:∀ (ch:_) (a:Act) (d:Tmp) (u:Value) (w:World),Q (.panic ch) (a.put (some d) u) w→Q (.panic ch) a w)
 (h:∀ (wx:World) (A8:Option Addr) (c8 g8:Nat) (u43 u44 u45 u46 u47 u48 u49 u50 u51 u52 u53 u54 u55:Value),Hid (IntsNew W.heap.size wx .u8 A8 bs)→Hid (Blk wx g8 30 #[.int .i64 s.1, .int .i64 s.2])→Hid (W.heap.size≤g8)→Hid (Below W.heap.size W wx)→Q .normal ⟨#[s0, .slice ZA 160 zc, .pointer (some ⟨N,0,none⟩),s3,s4,s5,s6,s7,s8,s9,s10,s11,s12,s13,s14,s15,s16, .slice A8 bs.length c8, .pointer (some ⟨g8,0,none⟩), .int .u8 0,s20,s21,s22,s23,s24,s25,s26,s27,s28,s29,s30,s31,s32,s33,s34,s35,s36,s37,s38,s39,s40,s41,s42,u43,u44,u45,u46,u47,u48,u49,u50,u51,u52,u53,u54,u55,s56,s57,s58,s59,s60,s61,s62,s63,s64,s65,s66,s67,s68,s69,s70,s71,s72,s73,s74,s75,s76,s77,s78,s79,s80,s81,s82,s83,s84,s85,s86,s87,s88,s89,s90,s91,s92,s93,s94,s95,s96,s97,s98,s99,s100,s101,s102,s103,s104,s105,s106,s107,s108,s109,s110,s111,s112,s113,s114,s115,s116,s117,s118,s119,s120,s121,s122,s123,s124,s125,s126,s127,s128,s129,s130,s131,s132,s133,s134,s135,s136,s137,s138],[]⟩ wx):sr8_code.wp Tryz.prog Q ⟨#[s0, .slice ZA 160 zc, .pointer (some ⟨N,0,none⟩),s3,s4,s5,s6,s7,s8,s9,s10,s11,s12,s13,s14,s15,s16,s17,s18,s19,s20,s21,s22,s23,s24,s25,s26,s27,s28,s29,s30,s31,s32,s33,s34,s35,s36,s37,s38,s39,s40,s41,s42,s43,s44,s45,s46,s47,s48,s49,s50,s51,s52,s53,s54,s55,s56,s57,s58,s59,s60,s61,s62,s63,s64,s65,s66,s67,s68,s69,s70,s71,s72,s73,s74,s75,s76,s77,s78,s79,s80,s81,s82,s83,s84,s85,s86,s87,s88,s89,s90,s91,s92,s93,s94,s95,s96,s97,s98,s99,s100,s101,s102,s103,s104,s105,s106,s107,s108,s109,s110,s111,s112,s113,s114,s115,s116,s117,s118,s119,s120,s121,s122,s123,s124,s125,s126,s127,s128,s129,s130,s131,s132,s133,s134,s135,s136,s137,s138],[]⟩ W:=by
 have HE:=Z9 hE
 have HZ:=Z9 hZ
 have hq:=Z9 h
 clear hZ h hE
 obtain ⟨s1,s2⟩:=s
 conv=>arg 2;whnf
 refine wp_region_held_drew (S:=fun w'=>Below W.heap.size W w') (by kernel_rfl) (Below.drew (Below.refl _ _)) (fun qH => ?_)
 refine tk1 (i:=1) (v:=?_) rfl (Or.inl ⟨by rfl,?_⟩) qH ?_ (hQ:=q9 hQp)
 rotate_left
 · (intro w hSw;clear hSw;go_simp;try with_reducible rfl)
 try simp only [ss9]
 refine tk1 (i:=2) (v:=?_) rfl (Or.inl ⟨by rfl,?_⟩) qH ?_ (hQ:=q9 hQp)
 rotate_left
 · (intro w hSw;have c0:=zag hSw x0;clear hSw;go_simp;try with_reducible rfl)
 try simp only [ss9]
 refine tk1 (i:=5) (v:=?_) rfl (Or.inl ⟨by rfl,?_⟩) qH ?_ (hQ:=q9 hQp)
 rotate_left
 · (intro w hSw;clear hSw;go_simp;try with_reducible rfl)
 try simp only [ss9]
 refine tk1 (i:=6) (v:=?_) rfl (Or.inl ⟨by rfl,?_⟩) qH ?_ (hQ:=q9 hQp)
 rotate_left
 · (intro w hSw;have c6:=zag hSw x6;have c7:=zag hSw x7;clear hSw;go_simp;try with_reducible rfl)
 try simp only [ss9]
 refine tk1 (i:=7) (v:=?_) rfl (Or.inl ⟨by rfl,?_⟩) qH ?_ (hQ:=q9 hQp)
 rotate_left
 · (intro w hSw;clear hSw;go_simp;try with_reducible rfl)
 try simp only [ss9]
 refine wpAnyH_ready (rs:=[0,13]) (by kernel_rfl) (by simp) ?_
 refine AllReadyH.cons (o:=_) rfl (fun K hK => ?_) (AllReadyH.cons (o:=_) rfl (fun K hK => ?_) AllReadyH.nil)
 · go_simp
   refine (zbc _).mono ?_
   rintro e w7 ⟨b,b1,b2,rfl,C,hb1⟩
   have HC:=Z9 C
   refine hK.out _ _ ?_ (fun qH => ?_)
   · exact zak hb1 qH
   clear hK K C hb1
   try simp only [ss9]
   refine wpAnyH_ready (rs:=[3,13]) (by kernel_rfl) (by simp) ?_
   refine AllReadyH.cons (o:=_) rfl (fun K hK => ?_) (AllReadyH.cons (o:=_) rfl (fun K hK => ?_) AllReadyH.nil)
   · have kl:=(zaz HC.out kc k0 k1).1
     rw [HE.out.at_] at kl
     go_simp
     refine hK.out _ _ ?_ (fun qH => ?_)
     · exact qH
     clear hK K kl
     try simp only [ss9]
     have hfl:=zfc
     refine tk1 (i:=4) (v:=?_) rfl (Or.inl ⟨by rfl,?_⟩) qH ?_ (hQ:=q9 hQp)
     rotate_left
     · (intro w hSw;clear hSw;go_simp;try with_reducible rfl)
     try simp only [ss9]
     clear hfl
     refine wpAnyH_ready (rs:=[8,13]) (by kernel_rfl) (by simp) ?_
     refine AllReadyH.cons (o:=_) rfl (fun K hK => ?_) (AllReadyH.cons (o:=_) rfl (fun K hK => ?_) AllReadyH.nil)
     · go_simp
       rw [HE.out.en]
       refine (HE.out.run _ b1 b2 (HZ.out.later qH) HC.out.l1 HC.out.l2).mono ?_
       rintro e w9 ⟨A8,c8,rfl,hI9,hb2⟩
       have HI:=Z9 (hI9.less qH.size)
       refine hK.out _ _ ?_ (fun qH => ?_)
       · exact zak hb2 qH
       clear hK K HC hI9 hb2
       try simp only [ss9]
       refine tk1 (i:=9) (v:=?_) rfl (Or.inl ⟨by rfl,?_⟩) qH ?_ (hQ:=q9 hQp)
       rotate_left
       · (intro w hSw;clear hSw;go_simp;try with_reducible rfl)
       try simp only [ss9]
       refine tk1 (i:=10) (v:=?_) rfl (Or.inl ⟨by rfl,?_⟩) qH ?_ (hQ:=q9 hQp)
       rotate_left
       · (intro w hSw;clear hSw;go_simp;try with_reducible rfl)
       try simp only [ss9]
       refine tk1 (i:=11) (v:=?_) rfl (Or.inl ⟨by rfl,?_⟩) qH ?_ (hQ:=q9 hQp)
       rotate_left
       · (intro w hSw;clear hSw;go_simp;try with_reducible rfl)
       try simp only [ss9]
       refine tk1 (i:=12) (v:=?_) rfl (Or.inl ⟨by rfl,?_⟩) qH ?_ (hQ:=q9 hQp)
       rotate_left
       · (intro w hSw;clear hSw;go_simp;try with_reducible rfl)
       try simp only [ss9]
       refine wpAnyH_ready (rs:=[13]) (by kernel_rfl) (by simp) ?_
       refine AllReadyH.cons (o:=_) rfl (fun K hK => ?_) AllReadyH.nil
       · go_simp
         have HD:=Z9 (Blk.new (w9) 30 #[.int .i64 0, .int .i64 0])
         have hg8:W.heap.size≤(w9).heap.size:=qH.size
         obtain ⟨g8,hgg⟩:∃ g,g=(w9).heap.size:=⟨_,rfl⟩
         replace HI:=Z9 (HI.out.push (Obj.cells #[.int .i64 0, .int .i64 0] 30))
         refine hK.out _ _ ?_ (fun qH => ?_)
         · exact zah qH _
         clear hK K
         try simp only [ss9]
         obtain ⟨V4,hV⟩:∃ V,V=(w9).alloc (Obj.cells #[.int .i64 0, .int .i64 0] 30):=⟨_,rfl⟩
         rw [← hV] at HD qH HI ⊢
         rw [← hgg] at HD hg8 ⊢
         clear hgg
         clear hV
         refine tk1 (i:=14) (v:=?_) rfl (Or.inl ⟨by rfl,?_⟩) qH ?_ (hQ:=q9 hQp)
         rotate_left
         · (intro w hSw;clear hSw;go_simp;try with_reducible rfl)
         try simp only [ss9]
         have y0:=HD.out.at 0 _ rfl
         have y1:=HD.out.at 1 _ rfl
         have yz:=HD.out.frozen
         refine wpAnyH_ready (rs:=[15]) (by kernel_rfl) (by simp) ?_
         refine AllReadyH.cons (o:=_) rfl (fun K hK => ?_) AllReadyH.nil
         go_simp
         refine hK.out _ _ ?_ (fun qH => ?_)
         · exact zaj (zaj qH hg8 _) hg8 _
         clear hK K
         try simp only [ss9]
         refine tk1 (i:=16) (v:=?_) rfl (Or.inl ⟨by rfl,?_⟩) qH ?_ (hQ:=q9 hQp)
         rotate_left
         · (intro w hSw;clear hSw;go_simp;try with_reducible rfl)
         try simp only [ss9]
         refine wpAnyH_done (by kernel_rfl) ?_ _
         have z1:=(HD.out.set_ 0 (.int .i64 s1)).at 1 _ rfl
         exact hq.out _ A8 c8 _ _ _ _ _ _ _ _ _ _ _ _ _ _ (Z9 ⟨((HI.out.1.set_ne y0 (by intro z e;cases e) _).set_ne z1 (by intro z e;cases e) _).more (by simp [World.setCell]),HI.out.2⟩) (Z9 ((HD.out.set_ 0 _).set_ 1 _)) (Z9 hg8) (Z9 qH)
     · go_simp
       have HD:=Z9 (Blk.new (w7) 30 #[.int .i64 0, .int .i64 0])
       have hg8:W.heap.size≤(w7).heap.size:=qH.size
       obtain ⟨g8,hgg⟩:∃ g,g=(w7).heap.size:=⟨_,rfl⟩
       replace HC:=Z9 (HC.out.later ((Below.refl _ _).alloc (Nat.le_refl _) (Obj.cells #[.int .i64 0, .int .i64 0] 30)))
       refine hK.out _ _ ?_ (fun qH => ?_)
       · exact zah qH _
       clear hK K
       try simp only [ss9]
       obtain ⟨V5,hV⟩:∃ V,V=(w7).alloc (Obj.cells #[.int .i64 0, .int .i64 0] 30):=⟨_,rfl⟩
       rw [← hV] at HD qH HC ⊢
       rw [← hgg] at HD hg8 ⊢
       clear hgg
       clear hV
       refine wpAnyH_ready (rs:=[8]) (by kernel_rfl) (by simp) ?_
       refine AllReadyH.cons (o:=_) rfl (fun K hK => ?_) AllReadyH.nil
       · go_simp
         rw [HE.out.en]
         refine (HE.out.run _ b1 b2 (HZ.out.later qH) HC.out.l1 HC.out.l2).mono ?_
         rintro e w9 ⟨A8,c8,rfl,hI9,hb2⟩
         have HI:=Z9 (hI9.less qH.size)
         replace HD:=Z9 (HD.out.later hb2)
         refine hK.out _ _ ?_ (fun qH => ?_)
         · exact zak hb2 qH
         clear hK K HC hI9 hb2
         try simp only [ss9]
         refine tk1 (i:=9) (v:=?_) rfl (Or.inl ⟨by rfl,?_⟩) qH ?_ (hQ:=q9 hQp)
         rotate_left
         · (intro w hSw;clear hSw;go_simp;try with_reducible rfl)
         try simp only [ss9]
         refine tk1 (i:=10) (v:=?_) rfl (Or.inl ⟨by rfl,?_⟩) qH ?_ (hQ:=q9 hQp)
         rotate_left
         · (intro w hSw;clear hSw;go_simp;try with_reducible rfl)
         try simp only [ss9]
         refine tk1 (i:=11) (v:=?_) rfl (Or.inl ⟨by rfl,?_⟩) qH ?_ (hQ:=q9 hQp)
         rotate_left
         · (intro w hSw;clear hSw;go_simp;try with_reducible rfl)
         try simp only [ss9]
         refine tk1 (i:=12) (v:=?_) rfl (Or.inl ⟨by rfl,?_⟩) qH ?_ (hQ:=q9 hQp)
         rotate_left
         · (intro w hSw;clear hSw;go_simp;try with_reducible rfl)
         try simp only [ss9]
         refine tk1 (i:=14) (v:=?_) rfl (Or.inl ⟨by rfl,?_⟩) qH ?_ (hQ:=q9 hQp)
         rotate_left
         · (intro w hSw;clear hSw;go_simp;try with_reducible rfl)
         try simp only [ss9]
         have y0:=HD.out.at 0 _ rfl
         have y1:=HD.out.at 1 _ rfl
         have yz:=HD.out.frozen
         refine wpAnyH_ready (rs:=[15]) (by kernel_rfl) (by simp) ?_
         refine AllReadyH.cons (o:=_) rfl (fun K hK => ?_) AllReadyH.nil
         go_simp
         refine hK.out _ _ ?_ (fun qH => ?_)
         · exact zaj (zaj qH hg8 _) hg8 _
         clear hK K
         try simp only [ss9]
         refine tk1 (i:=16) (v:=?_) rfl (Or.inl ⟨by rfl,?_⟩) qH ?_ (hQ:=q9 hQp)
         rotate_left
         · (intro w hSw;clear hSw;go_simp;try with_reducible rfl)
         try simp only [ss9]
         refine wpAnyH_done (by kernel_rfl) ?_ _
         have z1:=(HD.out.set_ 0 (.int .i64 s1)).at 1 _ rfl
         exact hq.out _ A8 c8 _ _ _ _ _ _ _ _ _ _ _ _ _ _ (Z9 ⟨((HI.out.1.set_ne y0 (by intro z e;cases e) _).set_ne z1 (by intro z e;cases e) _).more (by simp [World.setCell]),HI.out.2⟩) (Z9 ((HD.out.set_ 0 _).set_ 1 _)) (Z9 hg8) (Z9 qH)
   · go_simp
     have HD:=Z9 (Blk.new (w7) 30 #[.int .i64 0, .int .i64 0])
     have hg8:W.heap.size≤(w7).heap.size:=qH.size
     obtain ⟨g8,hgg⟩:∃ g,g=(w7).heap.size:=⟨_,rfl⟩
     replace HC:=Z9 (HC.out.later ((Below.refl _ _).alloc (Nat.le_refl _) (Obj.cells #[.int .i64 0, .int .i64 0] 30)))
     refine hK.out _ _ ?_ (fun qH => ?_)
     · exact zah qH _
     clear hK K
     try simp only [ss9]
     obtain ⟨V7,hV⟩:∃ V,V=(w7).alloc (Obj.cells #[.int .i64 0, .int .i64 0] 30):=⟨_,rfl⟩
     rw [← hV] at HD qH HC ⊢
     rw [← hgg] at HD hg8 ⊢
     clear hgg
     clear hV
     refine wpAnyH_ready (rs:=[3]) (by kernel_rfl) (by simp) ?_
     refine AllReadyH.cons (o:=_) rfl (fun K hK => ?_) AllReadyH.nil
     · have kl:=(zaz HC.out kc k0 k1).1
       rw [HE.out.at_] at kl
       go_simp
       refine hK.out _ _ ?_ (fun qH => ?_)
       · exact qH
       clear hK K kl
       try simp only [ss9]
       have hfl:=zfc
       refine tk1 (i:=4) (v:=?_) rfl (Or.inl ⟨by rfl,?_⟩) qH ?_ (hQ:=q9 hQp)
       rotate_left
       · (intro w hSw;clear hSw;go_simp;try with_reducible rfl)
       try simp only [ss9]
       clear hfl
       refine wpAnyH_ready (rs:=[8]) (by kernel_rfl) (by simp) ?_
       refine AllReadyH.cons (o:=_) rfl (fun K hK => ?_) AllReadyH.nil
       · go_simp
         rw [HE.out.en]
         refine (HE.out.run _ b1 b2 (HZ.out.later qH) HC.out.l1 HC.out.l2).mono ?_
         rintro e w9 ⟨A8,c8,rfl,hI9,hb2⟩
         have HI:=Z9 (hI9.less qH.size)
         replace HD:=Z9 (HD.out.later hb2)
         refine hK.out _ _ ?_ (fun qH => ?_)
         · exact zak hb2 qH
         clear hK K HC hI9 hb2
         try simp only [ss9]
         refine tk1 (i:=9) (v:=?_) rfl (Or.inl ⟨by rfl,?_⟩) qH ?_ (hQ:=q9 hQp)
         rotate_left
         · (intro w hSw;clear hSw;go_simp;try with_reducible rfl)
         try simp only [ss9]
         refine tk1 (i:=10) (v:=?_) rfl (Or.inl ⟨by rfl,?_⟩) qH ?_ (hQ:=q9 hQp)
         rotate_left
         · (intro w hSw;clear hSw;go_simp;try with_reducible rfl)
         try simp only [ss9]
         refine tk1 (i:=11) (v:=?_) rfl (Or.inl ⟨by rfl,?_⟩) qH ?_ (hQ:=q9 hQp)
         rotate_left
         · (intro w hSw;clear hSw;go_simp;try with_reducible rfl)
         try simp only [ss9]
         refine tk1 (i:=12) (v:=?_) rfl (Or.inl ⟨by rfl,?_⟩) qH ?_ (hQ:=q9 hQp)
         rotate_left
         · (intro w hSw;clear hSw;go_simp;try with_reducible rfl)
         try simp only [ss9]
         refine tk1 (i:=14) (v:=?_) rfl (Or.inl ⟨by rfl,?_⟩) qH ?_ (hQ:=q9 hQp)
         rotate_left
         · (intro w hSw;clear hSw;go_simp;try with_reducible rfl)
         try simp only [ss9]
         have y0:=HD.out.at 0 _ rfl
         have y1:=HD.out.at 1 _ rfl
         have yz:=HD.out.frozen
         refine wpAnyH_ready (rs:=[15]) (by kernel_rfl) (by simp) ?_
         refine AllReadyH.cons (o:=_) rfl (fun K hK => ?_) AllReadyH.nil
         go_simp
         refine hK.out _ _ ?_ (fun qH => ?_)
         · exact zaj (zaj qH hg8 _) hg8 _
         clear hK K
         try simp only [ss9]
         refine tk1 (i:=16) (v:=?_) rfl (Or.inl ⟨by rfl,?_⟩) qH ?_ (hQ:=q9 hQp)
         rotate_left
         · (intro w hSw;clear hSw;go_simp;try with_reducible rfl)
         try simp only [ss9]
         refine wpAnyH_done (by kernel_rfl) ?_ _
         have z1:=(HD.out.set_ 0 (.int .i64 s1)).at 1 _ rfl
         exact hq.out _ A8 c8 _ _ _ _ _ _ _ _ _ _ _ _ _ _ (Z9 ⟨((HI.out.1.set_ne y0 (by intro z e;cases e) _).set_ne z1 (by intro z e;cases e) _).more (by simp [World.setCell]),HI.out.2⟩) (Z9 ((HD.out.set_ 0 _).set_ 1 _)) (Z9 hg8) (Z9 qH)
 · go_simp
   have HD:=Z9 (Blk.new (W) 30 #[.int .i64 0, .int .i64 0])
   have hg8:W.heap.size≤(W).heap.size:=qH.size
   obtain ⟨g8,hgg⟩:∃ g,g=(W).heap.size:=⟨_,rfl⟩
   replace HD:=Z9 (Blk.dr HD.out)
   refine hK.out _ _ ?_ (fun qH => ?_)
   · exact Below.drew (zah (Below.refl _ _) _)
   clear hK K
   try simp only [ss9]
   obtain ⟨V10,hV⟩:∃ V,V=(W.alloc (Obj.cells #[.int .i64 0, .int .i64 0] 30)).drew:=⟨_,rfl⟩
   rw [← hV] at HD qH ⊢
   subst hgg
   clear hV
   refine wpAnyH_ready (rs:=[0]) (by kernel_rfl) (by simp) ?_
   refine AllReadyH.cons (o:=_) rfl (fun K hK => ?_) AllReadyH.nil
   · go_simp
     refine (zbc _).mono ?_
     rintro e w7 ⟨b,b1,b2,rfl,C,hb1⟩
     have HC:=Z9 C
     replace HD:=Z9 (HD.out.later hb1)
     refine hK.out _ _ ?_ (fun qH => ?_)
     · exact zak hb1 qH
     clear hK K C hb1
     try simp only [ss9]
     refine wpAnyH_ready (rs:=[3]) (by kernel_rfl) (by simp) ?_
     refine AllReadyH.cons (o:=_) rfl (fun K hK => ?_) AllReadyH.nil
     · have kl:=(zaz HC.out kc k0 k1).1
       rw [HE.out.at_] at kl
       go_simp
       refine hK.out _ _ ?_ (fun qH => ?_)
       · exact qH
       clear hK K kl
       try simp only [ss9]
       have hfl:=zfc
       refine tk1 (i:=4) (v:=?_) rfl (Or.inl ⟨by rfl,?_⟩) qH ?_ (hQ:=q9 hQp)
       rotate_left
       · (intro w hSw;clear hSw;go_simp;try with_reducible rfl)
       try simp only [ss9]
       clear hfl
       refine wpAnyH_ready (rs:=[8]) (by kernel_rfl) (by simp) ?_
       refine AllReadyH.cons (o:=_) rfl (fun K hK => ?_) AllReadyH.nil
       · go_simp
         rw [HE.out.en]
         refine (HE.out.run _ b1 b2 (HZ.out.later qH) HC.out.l1 HC.out.l2).mono ?_
         rintro e w9 ⟨A8,c8,rfl,hI9,hb2⟩
         have HI:=Z9 (hI9.less qH.size)
         replace HD:=Z9 (HD.out.later hb2)
         refine hK.out _ _ ?_ (fun qH => ?_)
         · exact zak hb2 qH
         clear hK K HC hI9 hb2
         try simp only [ss9]
         refine tk1 (i:=9) (v:=?_) rfl (Or.inl ⟨by rfl,?_⟩) qH ?_ (hQ:=q9 hQp)
         rotate_left
         · (intro w hSw;clear hSw;go_simp;try with_reducible rfl)
         try simp only [ss9]
         refine tk1 (i:=10) (v:=?_) rfl (Or.inl ⟨by rfl,?_⟩) qH ?_ (hQ:=q9 hQp)
         rotate_left
         · (intro w hSw;clear hSw;go_simp;try with_reducible rfl)
         try simp only [ss9]
         refine tk1 (i:=11) (v:=?_) rfl (Or.inl ⟨by rfl,?_⟩) qH ?_ (hQ:=q9 hQp)
         rotate_left
         · (intro w hSw;clear hSw;go_simp;try with_reducible rfl)
         try simp only [ss9]
         refine tk1 (i:=12) (v:=?_) rfl (Or.inl ⟨by rfl,?_⟩) qH ?_ (hQ:=q9 hQp)
         rotate_left
         · (intro w hSw;clear hSw;go_simp;try with_reducible rfl)
         try simp only [ss9]
         refine tk1 (i:=14) (v:=?_) rfl (Or.inl ⟨by rfl,?_⟩) qH ?_ (hQ:=q9 hQp)
         rotate_left
         · (intro w hSw;clear hSw;go_simp;try with_reducible rfl)
         try simp only [ss9]
         have y0:=HD.out.at 0 _ rfl
         have y1:=HD.out.at 1 _ rfl
         have yz:=HD.out.frozen
         refine wpAnyH_ready (rs:=[15]) (by kernel_rfl) (by simp) ?_
         refine AllReadyH.cons (o:=_) rfl (fun K hK => ?_) AllReadyH.nil
         go_simp
         refine hK.out _ _ ?_ (fun qH => ?_)
         · exact zaj (zaj qH hg8 _) hg8 _
         clear hK K
         try simp only [ss9]
         refine tk1 (i:=16) (v:=?_) rfl (Or.inl ⟨by rfl,?_⟩) qH ?_ (hQ:=q9 hQp)
         rotate_left
         · (intro w hSw;clear hSw;go_simp;try with_reducible rfl)
         try simp only [ss9]
         refine wpAnyH_done (by kernel_rfl) ?_ _
         have z1:=(HD.out.set_ 0 (.int .i64 s1)).at 1 _ rfl
         exact hq.out _ A8 c8 _ _ _ _ _ _ _ _ _ _ _ _ _ _ (Z9 ⟨((HI.out.1.set_ne y0 (by intro z e;cases e) _).set_ne z1 (by intro z e;cases e) _).more (by simp [World.setCell]),HI.out.2⟩) (Z9 ((HD.out.set_ 0 _).set_ 1 _)) (Z9 hg8) (Z9 qH)
theorem zid {p:Sb.Pt} {now:Int} (h:Sb.chkT p now=0):p.valid=true∧now≤281474976710656∧p.jt.now≤now:=by
 unfold Sb.chkT at h
 split at h
 · cases h
 · rename_i h1
   split at h
   · cases h
   · rename_i h2
     refine ⟨?_,by omega,by omega⟩
     cases hv:p.valid
     · exact absurd (Or.inl hv) h1
     · rfl
theorem zry {p:Sb.Pt} (h:p.valid=true):p.jt.ok:=by
 unfold Sb.Pt.valid at h
 simp only [Bool.and_eq_true] at h
 have h3:Jb.valid p.jt=true:=h.1.1.2
 unfold Jb.valid at h3
 exact of_decide_eq_true h3
theorem zrz {p:Sb.Pt} {now:Int} (h:Sb.chkT p now=0):(Jb.run p.jt now).2.2=0∧(Jb.run p.jt now).2.1=Jb.due now p.jt.q:=by
 obtain ⟨h1,h2,h3⟩:=zid h
 have h4:=zry h1
 have h5:Jb.chk p.jt now true=0:=by
  unfold Jb.chk
  rw [if_neg (fun hh=>by rcases hh with hh|hh|hh;exact hh h4;omega;cases hh),if_neg (by omega)]
 unfold Jb.run
 rw [if_pos h5]
 exact ⟨rfl,rfl⟩
theorem zpd {now:Int} {q:List Jb.Wt} (h:∀ a∈q,OkW a):∀ a∈Jb.due now q,OkW a:=fun a ha=>h a ((List.takeWhile_sublist _).subset ha)
theorem zgg (now:Int) (q:List Jb.Wt):(Jb.due now q).length≤q.length:=(List.takeWhile_sublist _).length_le
def PlayV (p:Sb.Pt) (now:Int) (w:World) (e:Ending) (w':World):Prop :=
 ∃ (A':Option Addr) (n' c':Nat) (l':List TW) (SA:Option Addr) (sc m:Nat) (ls:List TS) (base:Nat),e = .returned (.tuple #[.agg (PA (Sb.run p now).1 A' n' c'), .slice SA m sc, .int .u8 0])∧l'.map TW.w=(Sb.run p now).1.jt.q∧l'.length=n'∧n'≤c'∧c'≤maxLen∧WtsIn w' w.heap.size w'.heap.size A' l'∧ls.map TS.s=(Sb.run p now).2∧w.heap.size≤base∧SOwn w' base SA m sc ls∧Below w.heap.size w w'
theorem zpe (p:Sb.Pt) (hw:p.wf) (A:Option Addr) (l:List TW) (n c:Nat) (X:Array Value) (hX:X=PA p A n c) (w:World) (hq:l.map TW.w=p.jt.q) (hn:l.length=n) (hl:n≤100000) (hcap:n≤c) (hcm:c≤maxLen) (hA:Wts w w.heap.size A l) (hK:∀ a∈l,I64 a.w.m.sq) (now:Int) (hc:Sb.chkT p now=0) (hO:∀ a∈p.jt.q,OkW a):Calls Tryz.prog 23 #[.agg X, .int .i64 now] w (PlayV p now w):=by
 have B0:=Z9 ((PB.new w X hX).push (.cells (PA Sb.Pt.zero none 0 0) 45))
 have B1:=Z9 (Blk.new1 w (.cells X 45) 45 (PA Sb.Pt.zero none 0 0))
 have U0:=Z9 (((Bel.refl w).push (.cells X 45)).push (.cells (PA Sb.Pt.zero none 0 0) 45))
 have HA:=Z9 ((hA.push (.cells X 45)).push (.cells (PA Sb.Pt.zero none 0 0) 45))
 obtain ⟨r1,r2⟩:=zrz hc
 have hm:(Jb.run p.jt now).2.1.length≤100000:=by
  rw [r2]
  have h1:=zgg now p.jt.q
  have h2:=congrArg List.length hq
  simp at h2
  omega
 have k1:=Z9 fun (W:World) hW=>zcs p hw A l n c (PA p A n c) rfl W hq hn hl hW hK now
 rw [hc] at k1
 have k2:=Z9 fun (W:World) hW=>ziq p hw A l n c (PA p A n c) rfl W hq hn hl hcap hcm hW hK now 0 r1 (by rw [r2];exact zpd hO) hm
 unfold PlayR at k2
 unfold PlayV
 generalize Sb.run p now=R at *
 obtain ⟨q,R2⟩:=R
 clear hX hA hK hq hc hO r1 r2 hm hw
 go_enter Tryz.func23,Tryz.ntmps23
 go_upto_region 1 with fail
 change Code.wp _ _ _ _ ((w.alloc (Obj.cells X 45)).alloc (Obj.cells (PA Sb.Pt.zero none 0 0) 45))
 obtain ⟨W,hW⟩:∃ W,W=(w.alloc (Obj.cells X 45)).alloc (Obj.cells (PA Sb.Pt.zero none 0 0) 45):=⟨_,rfl⟩
 rw [← hW] at B0 B1 U0 HA ⊢
 clear hW
 have hL:=B1.out.lt
 go_wp2_with (first|(refine zae rfl 45 (.tmp 2) rfl (w.heap.size) 0 rfl 45 (PL p A n c) B0.out 48 _ Tryz.underlying45 zai (show 0+48≤48 by decide) (PA p A n c) (by rfl) rfl ?_)|fail)
 refine (k1.out _ HA.out).mono ?_
 rintro e w1 ⟨rfl,hb1⟩
 replace U0:=Z9 (U0.out.later hb1)
 replace B0:=Z9 (B0.out.later hb1)
 replace B1:=Z9 (B1.out.later hb1)
 replace HA:=Z9 (HA.out.later hb1)
 have hL1:=B1.out.lt
 clear hb1
 go_wp2_with (first|(refine zae rfl 45 (.tmp 2) rfl (w.heap.size) 0 rfl 45 (PL p A n c) B0.out 48 _ Tryz.underlying45 zai (show 0+48≤48 by decide) (PA p A n c) (by rfl) rfl ?_)|fail)
 refine (k2.out _ HA.out).mono ?_
 rintro e w2 ⟨A2,n2,c2,l2,SA,sc,m,ls,base,mid,rfl,e1,e2,e3,e4,e5,em1,em2,e6,e7,e8,hb2⟩
 replace e5:=e5.more em2
 clear em1 em2
 replace U0:=Z9 (U0.out.later hb2)
 replace B0:=Z9 (B0.out.later hb2)
 replace B1:=Z9 (B1.out.later hb2)
 have hus:=U0.out.size
 have hs1:=hb2.size
 have HE1:=Z9 e1
 have HE5:=Z9 e5
 have HE6:=Z9 e6
 have HE8:=Z9 e8
 clear hb2 HA e1 e5 e6 e8
 subst e2
 go_upto_region 5 with (first|(refine zaf rfl 45 (.tmp 2) (.tmp 22) rfl (w.heap.size) 0 rfl 45 (PL p A n c) B0.out (PL q A2 l2.length c2) rfl zai (show 0+48≤48 by decide) rfl (PL q A2 l2.length c2) rfl ?_;intro WG BG OG)|fail)
 replace U0:=Z9 (OG.bel U0.out (Nat.le_refl _))
 replace B1:=Z9 (OG.blk B1.out (by omega))
 replace HE5:=Z9 (HE5.out.step OG (by omega))
 replace HE8:=Z9 (HE8.out.only OG (by omega))
 have HBG:=Z9 BG
 clear BG OG B0
 go_wp2_with (first|(refine zae rfl 45 (.tmp 2) rfl (w.heap.size) 0 rfl 45 (PL q A2 l2.length c2) HBG.out 48 _ Tryz.underlying45 zai (show 0+48≤48 by decide) (PA q A2 l2.length c2) (by rfl) rfl ?_)|(refine zaf rfl 45 (.tmp 4) (.tmp 26) rfl (w.heap.size+1) 0 rfl 45 (PL Sb.Pt.zero none 0 0) B1.out (PL q A2 l2.length c2) rfl zai (show 0+48≤48 by decide) rfl (PL q A2 l2.length c2) rfl ?_;intro WH BH OH)|fail)
 refine bodyPost_ret (v := .tuple #[.agg (PA q A2 l2.length c2), .slice SA m sc, .int .u8 0]) (zax Tryz.results23 rfl (PB.load BH) rfl rfl) rfl ⟨A2,l2.length,c2,l2,SA,sc,m,ls,base,rfl,HE1.out,rfl,e3,e4,(HE5.out.step OH hL1).less (by omega),HE6.out,by omega,HE8.out.only OH (by omega),OH.bel U0.out (by omega)⟩
structure Rx where
 mrk:Bool
 ty:Int
 sq:Int
 ti:Int
 src:Int
 CA:Option Addr
 cn:Nat
 cc:Nat
 ex:Bool
 pr:Int
 EA:Option Addr
 en:Nat
 ec:Nat
 B:Option Addr
 pl:List Int
 pc:Nat
 pad:Int
def Rx.row (x:Rx):Array Value := #[.bool x.mrk, .int .u8 x.ty, .int .u16 x.sq, .int .u32 x.ti, .int .u32 x.src, .slice x.CA x.cn x.cc, .bool x.ex, .int .u16 x.pr, .slice x.EA x.en x.ec, .slice x.B x.pl.length x.pc, .int .i64 x.pad]
def Rx.arr (x:Rx):Sb.Arr:=⟨x.mrk,x.ty,x.sq,x.ti,x.pl⟩
structure RC (w:World) (p:Sb.Pt) (A:Option Addr) (l:List TW) (n c:Nat) (x:Rx) (now:Int):Prop where
 q:l.map TW.w=p.jt.q
 len:l.length=n
 n5:n≤100000
 cap:n≤c
 cm:c≤maxLen
 av:Wts w w.heap.size A l
 sq:∀ a∈l,I64 a.w.m.sq
 ok:∀ a∈p.jt.q,OkW a
 s0:0≤p.seed
 s1:p.seed≤4294967295
 ty0:0≤x.ty
 ty1:x.ty≤255
 q0:0≤x.sq
 q1:x.sq≤65535
 t0:0≤x.ti
 t1:x.ti≤4294967295
 h15:x.pl.length≤1500
 pl:IntsAt w w.heap.size .u8 x.B x.pl
 n0 : -281474976710656≤now
 n1:now≤281474976710656
theorem RC.with {w:World} {p p':Sb.Pt} {A:Option Addr} {l:List TW} {n c:Nat} {x:Rx} {now:Int} (h:RC w p A l n c x now) (hj:p'.jt=p.jt) (hs:p'.seed=p.seed):RC w p' A l n c x now :=
 ⟨by rw [hj];exact h.q,h.len,h.n5,h.cap,h.cm,h.av,h.sq,by rw [hj];exact h.ok,by rw [hs];exact h.s0,by rw [hs];exact h.s1,h.ty0,h.ty1,h.q0,h.q1,h.t0,h.t1,h.h15,h.pl,h.n0,h.n1⟩
structure RS (w W:World) (p:Sb.Pt) (A:Option Addr) (n c:Nat) (x:Rx):Prop where
 b0:PB W w.heap.size p A n c
 b1:Blk W (w.heap.size+1) 112 x.row
 b2:Blk W (w.heap.size+1+1) 45 (PA Sb.Pt.zero none 0 0)
 u:Bel w W
section
variable {w W W':World} {p p':Sb.Pt} {A A':Option Addr} {n n' c c':Nat} {x:Rx}
theorem RS.later (h:RS w W p A n c x) (hb:Below W.heap.size W W'):RS w W' p A n c x:=⟨h.b0.later hb,h.b1.later hb,h.b2.later hb,h.u.later hb⟩
theorem RS.push (h:RS w W p A n c x) (o:Obj):RS w (W.alloc o) p A n c x:=h.later ((Below.refl _ _).alloc (Nat.le_refl _) _)
theorem RS.over (h:RS w W p A n c x) (ho:OnlyB w.heap.size W W') (hb:PB W' w.heap.size p' A' n' c'):RS w W' p' A' n' c' x:=⟨hb,ho.blk h.b1 (by omega),ho.blk h.b2 (by omega),ho.bel h.u (Nat.le_refl _)⟩
theorem RS.c0 (h:RS w W p A n c x):W.cell? ⟨w.heap.size+1,0,none⟩=some (.bool x.mrk):=h.b1.at 0 _ rfl
theorem RS.c1 (h:RS w W p A n c x):W.cell? ⟨w.heap.size+1,1,none⟩=some (.int .u8 x.ty):=h.b1.at 1 _ rfl
theorem RS.c2 (h:RS w W p A n c x):W.cell? ⟨w.heap.size+1,2,none⟩=some (.int .u16 x.sq):=h.b1.at 2 _ rfl
theorem RS.c3 (h:RS w W p A n c x):W.cell? ⟨w.heap.size+1,3,none⟩=some (.int .u32 x.ti):=h.b1.at 3 _ rfl
theorem RS.c9 (h:RS w W p A n c x):W.cell? ⟨w.heap.size+1,9,none⟩=some (.slice x.B x.pl.length x.pc):=h.b1.at 9 _ rfl
theorem RS.far (h:RS w W p A n c x) {g:Nat} (ho:OnlyB g W W') (h0:w.heap.size≠g) (h1:g≠w.heap.size+1) (h2:g≠w.heap.size+1+1) (hg:w.heap.size≤g):RS w W' p A n c x:=⟨ho.blk h.b0 h0,ho.blk h.b1 (Ne.symm h1),ho.blk h.b2 (Ne.symm h2),ho.bel h.u hg⟩
theorem RS.set (h:RS w W p A n c x) (i:Nat) (v:Value) (hp:(PL p A n c).set i v=PL p' A n c):RS w (W.setCell ⟨w.heap.size,i,none⟩ v) p' A n c x:=h.over (OnlyB.setCell _ _ _ _) (h.b0.set i v p' hp)
end
def RecvR (R:Sb.Pt×Int×List Sb.Sd) (w:World) (e:Ending) (w':World):Prop :=
 ∃ (A':Option Addr) (n' c':Nat) (l':List TW) (SA:Option Addr) (sc m:Nat) (ls:List TS) (base:Nat),e = .returned (.tuple #[.agg (PA R.1 A' n' c'), .int .u8 R.2.1, .slice SA m sc, .int .u8 0])∧l'.map TW.w=R.1.jt.q∧l'.length=n'∧n'≤c'∧c'≤maxLen∧WtsIn w' w.heap.size w'.heap.size A' l'∧ls.map TS.s=R.2.2∧w.heap.size≤base∧SOwn w' base SA m sc ls∧Below w.heap.size w w'
theorem r164 (s:Nat→Value):((List.range 164).map s).toArray = #[s 0,s 1,s 2,s 3,s 4,s 5,s 6,s 7,s 8,s 9,s 10,s 11,s 12,s 13,s 14,s 15,s 16,s 17,s 18,s 19,s 20,s 21,s 22,s 23,s 24,s 25,s 26,s 27,s 28,s 29,s 30,s 31,s 32,s 33,s 34,s 35,s 36,s 37,s 38,s 39,s 40,s 41,s 42,s 43,s 44,s 45,s 46,s 47,s 48,s 49,s 50,s 51,s 52,s 53,s 54,s 55,s 56,s 57,s 58,s 59,s 60,s 61,s 62,s 63,s 64,s 65,s 66,s 67,s 68,s 69,s 70,s 71,s 72,s 73,s 74,s 75,s 76,s 77,s 78,s 79,s 80,s 81,s 82,s 83,s 84,s 85,s 86,s 87,s 88,s 89,s 90,s 91,s 92,s 93,s 94,s 95,s 96,s 97,s 98,s 99,s 100,s 101,s 102,s 103,s 104,s 105,s 106,s 107,s 108,s 109,s 110,s 111,s 112,s 113,s 114,s 115,s 116,s 117,s 118,s 119,s 120,s 121,s 122,s 123,s 124,s 125,s 126,s 127,s 128,s 129,s 130,s 131,s 132,s 133,s 134,s 135,s 136,s 137,s 138,s 139,s 140,s 141,s 142,s 143,s 144,s 145,s 146,s 147,s 148,s 149,s 150,s 151,s 152,s 153,s 154,s 155,s 156,s 157,s 158,s 159,s 160,s 161,s 162,s 163]:=rfl
def FrA (g:Nat) (now:Int) (a:Act):Prop:=Fr 164 [(1, .int .i64 now),(3, .pointer (some ⟨g,0,none⟩)),(5, .pointer (some ⟨g+1,0,none⟩)),(6, .pointer (some ⟨g+1+1,0,none⟩))] a
theorem FrA.mk {g:Nat} {now:Int} {xs:List Value} (h:xs.length=164:=by rfl) (hL:AllL [(1, .int .i64 now),(3, .pointer (some ⟨g,0,none⟩)),(5, .pointer (some ⟨g+1,0,none⟩)),(6, .pointer (some ⟨g+1+1,0,none⟩))] xs:=by exact ⟨rfl,rfl,rfl,rfl,trivial⟩):FrA g now ⟨xs.toArray,[]⟩:=Fr.mk h hL
def FrB (g:Nat) (now:Int) (gt:Nat) (kn:Bool) (a:Act):Prop:=Fr 164 [(1, .int .i64 now),(3, .pointer (some ⟨g,0,none⟩)),(5, .pointer (some ⟨g+1,0,none⟩)),(6, .pointer (some ⟨g+1+1,0,none⟩)),(11, .pointer (some ⟨gt,0,none⟩)),(12, .bool kn)] a
theorem FrB.mk {g:Nat} {now:Int} {gt:Nat} {kn:Bool} {xs:List Value} (h:xs.length=164:=by rfl) (hL:AllL [(1, .int .i64 now),(3, .pointer (some ⟨g,0,none⟩)),(5, .pointer (some ⟨g+1,0,none⟩)),(6, .pointer (some ⟨g+1+1,0,none⟩)),(11, .pointer (some ⟨gt,0,none⟩)),(12, .bool kn)] xs:=by exact ⟨rfl,rfl,rfl,rfl,rfl,rfl,trivial⟩):FrB g now gt kn ⟨xs.toArray,[]⟩:=Fr.mk h hL
def FrU (g:Nat) (now:Int) (gt:Nat) (on:Bool) (fn:Int) (ok:Bool) (a:Act):Prop:=Fr 164 [(1, .int .i64 now),(3, .pointer (some ⟨g,0,none⟩)),(5, .pointer (some ⟨g+1,0,none⟩)),(6, .pointer (some ⟨g+1+1,0,none⟩)),(11, .pointer (some ⟨gt,0,none⟩)),(13, .bool on),(15, .int .i64 fn),(16, .bool ok)] a
theorem FrU.mk {g:Nat} {now:Int} {gt:Nat} {on:Bool} {fn:Int} {ok:Bool} {xs:List Value} (h:xs.length=164:=by rfl) (hL:AllL [(1, .int .i64 now),(3, .pointer (some ⟨g,0,none⟩)),(5, .pointer (some ⟨g+1,0,none⟩)),(6, .pointer (some ⟨g+1+1,0,none⟩)),(11, .pointer (some ⟨gt,0,none⟩)),(13, .bool on),(15, .int .i64 fn),(16, .bool ok)] xs:=by exact ⟨rfl,rfl,rfl,rfl,rfl,rfl,rfl,rfl,trivial⟩):FrU g now gt on fn ok ⟨xs.toArray,[]⟩:=Fr.mk h hL
def FrC (g:Nat) (now:Int) (gt:Nat) (on:Bool) (fn:Int) (a:Act):Prop:=Fr 164 [(1, .int .i64 now),(3, .pointer (some ⟨g,0,none⟩)),(5, .pointer (some ⟨g+1,0,none⟩)),(6, .pointer (some ⟨g+1+1,0,none⟩)),(11, .pointer (some ⟨gt,0,none⟩)),(13, .bool on),(15, .int .i64 fn)] a
theorem FrC.mk {g:Nat} {now:Int} {gt:Nat} {on:Bool} {fn:Int} {xs:List Value} (h:xs.length=164:=by rfl) (hL:AllL [(1, .int .i64 now),(3, .pointer (some ⟨g,0,none⟩)),(5, .pointer (some ⟨g+1,0,none⟩)),(6, .pointer (some ⟨g+1+1,0,none⟩)),(11, .pointer (some ⟨gt,0,none⟩)),(13, .bool on),(15, .int .i64 fn)] xs:=by exact ⟨rfl,rfl,rfl,rfl,rfl,rfl,rfl,trivial⟩):FrC g now gt on fn ⟨xs.toArray,[]⟩:=Fr.mk h hL
def FrE (g:Nat) (now:Int) (on:Bool) (fn t:Int) (a:Act):Prop:=Fr 164 [(1, .int .i64 now),(3, .pointer (some ⟨g,0,none⟩)),(5, .pointer (some ⟨g+1,0,none⟩)),(6, .pointer (some ⟨g+1+1,0,none⟩)),(13, .bool on),(15, .int .i64 fn),(17, .int .i64 t)] a
theorem FrE.mk {g:Nat} {now:Int} {on:Bool} {fn t:Int} {xs:List Value} (h:xs.length=164:=by rfl) (hL:AllL [(1, .int .i64 now),(3, .pointer (some ⟨g,0,none⟩)),(5, .pointer (some ⟨g+1,0,none⟩)),(6, .pointer (some ⟨g+1+1,0,none⟩)),(13, .bool on),(15, .int .i64 fn),(17, .int .i64 t)] xs:=by exact ⟨rfl,rfl,rfl,rfl,rfl,rfl,rfl,trivial⟩):FrE g now on fn t ⟨xs.toArray,[]⟩:=Fr.mk h hL
def FrD (g:Nat) (now fn t:Int) (a:Act):Prop:=Fr 164 [(1, .int .i64 now),(3, .pointer (some ⟨g,0,none⟩)),(5, .pointer (some ⟨g+1,0,none⟩)),(6, .pointer (some ⟨g+1+1,0,none⟩)),(15, .int .i64 fn),(17, .int .i64 t)] a
theorem FrD.mk {g:Nat} {now fn t:Int} {xs:List Value} (h:xs.length=164:=by rfl) (hL:AllL [(1, .int .i64 now),(3, .pointer (some ⟨g,0,none⟩)),(5, .pointer (some ⟨g+1,0,none⟩)),(6, .pointer (some ⟨g+1+1,0,none⟩)),(15, .int .i64 fn),(17, .int .i64 t)] xs:=by exact ⟨rfl,rfl,rfl,rfl,rfl,rfl,trivial⟩):FrD g now fn t ⟨xs.toArray,[]⟩:=Fr.mk h hL
noncomputable def rcA_code:Code:=((Tryz.f26.body.bind (fromReg 6)).getD .skip)
noncomputable def rcB_code:Code:=((Tryz.f26.body.bind (fromReg 11)).getD .skip)
noncomputable def rcS_code:Code:=((Tryz.f26.body.bind (fromReg 16)).getD .skip)
noncomputable def rcC_code:Code:=((Tryz.f26.body.bind (fromReg 18)).getD .skip)
noncomputable def rcE_code:Code:=((Tryz.f26.body.bind (fromReg 23)).getD .skip)
noncomputable def rcD_code:Code:=((Tryz.f26.body.bind (fromReg 25)).getD .skip)
def fromBlk (i:Nat):Code→Option Code
 | .seq (.block j x) b=>if i=j then some (.seq (.block j x) b) else fromBlk i b
 | .seq a b=>fromBlk i b
 | _=>none
theorem zjf {P:Program} {i:Nat} {x y:Code} {Q:Exit→Act→World→Prop} {a:Act} {w:World} (h:∀ K:Act→World→Prop,(∀ a w,y.wp P Q a w→K a w)→(Code.block i x).wp P (Exit.then K Q) a w):firstWp P (.seq (.block i x) y) Q a w:=h _ fun _ _ h=>h
structure SC (w:World) (p:Sb.Pt) (A:Option Addr) (l:List TW) (n c:Nat) (ZA:Option Addr) (zs:List Int) (zc:Nat):Prop where
 wf:p.wf
 q:l.map TW.w=p.jt.q
 len:l.length=n
 n5:n≤100000
 cap:n≤c
 cm:c≤maxLen
 av:Wts w w.heap.size A l
 sq:∀ a∈l,I64 a.w.m.sq
 pay:∀ a∈l,a.w.m.pl.length≤1000000
 z:IntsAt w w.heap.size .i16 ZA zs
 zb:Within (-32768) 32767 zs
 zl:zs.length=160
 v:p.valid=true
structure PkS (W:World) (n:Nat) (S:List Nat) (KA:Option Addr) (ks:List TK):Prop where
 rows:Pks W W.heap.size KA ks
 av:0<ks.length→∀ b off,KA=some ⟨b,off,none⟩→b∉S
 pay:∀ a∈ks,0<a.k.pl.length→∀ b off,a.B=some ⟨b,off,none⟩→b∉S
 new:PksN n KA ks
theorem PkS.nil {W:World} {n:Nat} {S:List Nat} {KA:Option Addr} : PkS W n S KA []:=⟨Pks.nil,fun h=>absurd h (by simp),(fun _ h=>by cases h),PksN.nil⟩
theorem PkS.chg {W W':World} {n:Nat} {S T:List Nat} {KA:Option Addr} {ks:List TK} (h:PkS W n S KA ks) (hc:Chg T W W') (hT:∀ x∈T,x∈S):PkS W' n S KA ks:=by
 refine ⟨⟨fun h0 => ?_,fun a ha => ?_⟩,h.av,h.pay,h.new⟩
 · obtain ⟨b,off,e,hlt,qc⟩:=h.rows.1 h0
   exact ⟨b,off,e,Nat.lt_of_lt_of_le hlt hc.size,fun i a ha j v hv=>(hc.cell (p:=⟨b,off+i*11+j,none⟩) hlt (fun hb=>h.av h0 b off e (hT b hb))).trans (qc i a ha j v hv)⟩
 · exact hc.ints (h.rows.2 a ha) (fun h0 b off e hb=>h.pay a ha h0 b off e (hT b hb))
theorem PkS.one {W:World} {n base bc c:Nat} {S:List Nat} {A B:Option Addr} {k:Sb.Pkt} {pl:List Int} (ho:Owns W base 112 11 A 1 c (pktRow k B bc)) (hp:IntsAv W S .u8 B pl) (hk:k.pl=pl) (hb:∀ x∈S,x<base) (hn:n≤base) (hbn:0<pl.length→∀ b off,B=some ⟨b,off,none⟩→n≤b):PkS W n S A [⟨k,B,bc⟩]:=by
 have hA:∀ b off,A=some ⟨b,off,none⟩→base≤b:=fun b off e=>(ho.block b (by rw [e];rfl)).1
 refine ⟨Pks.one ho hp.1 hk,fun _ b off e hS => ?_,fun a ha h0 b off e => ?_,fun _ b off e => ?_,fun a ha h0 b off e => ?_⟩
 · have h1:=hA b off e
   have h2:=hb b hS
   omega
 · obtain rfl:=List.mem_singleton.1 ha
   exact hp.2 (by rw [← hk];exact h0) b off e
 · have h1:=hA b off e
   omega
 · obtain rfl:=List.mem_singleton.1 ha
   exact hbn (by rw [← hk];exact h0) b off e
structure SS (w W:World) (gl:Nat) (p:Sb.Pt) (A:Option Addr) (n c:Nat) (l:List TW) (KA:Option Addr) (kn kc:Nat):Prop where
 m:PM W [gl,w.heap.size+1,w.heap.size] w.heap.size p A n c l
 b1:Blk W (w.heap.size+1) 45 (PA Sb.Pt.zero none 0 0)
 bl:Blk W gl 105 #[.slice KA kn kc]
 u:Bel w W
 lt:w.heap.size+1<gl
section
variable {w W W':World} {gl:Nat} {p p':Sb.Pt} {A:Option Addr} {n c:Nat} {l:List TW} {KA KA':Option Addr} {kn kc kn' kc':Nat}
theorem SS.later (h:SS w W gl p A n c l KA kn kc) (hb:Below W.heap.size W W'):SS w W' gl p A n c l KA kn kc:=⟨h.m.later hb,h.b1.later hb,h.bl.later hb,h.u.later hb,h.lt⟩
theorem SS.push (h:SS w W gl p A n c l KA kn kc) (o:Obj):SS w (W.alloc o) gl p A n c l KA kn kc:=h.later ((Below.refl _ _).alloc (Nat.le_refl _) _)
theorem SS.drew (h:SS w W gl p A n c l KA kn kc):SS w W.drew gl p A n c l KA kn kc:=⟨h.m.drew,Blk.dr h.b1,Blk.dr h.bl,Bel.drew h.u,h.lt⟩
theorem SS.over (h:SS w W gl p A n c l KA kn kc) (ho:OnlyB w.heap.size W W') (hb:PB W' w.heap.size p' A n c) (hj:p'.jt.q=p.jt.q):SS w W' gl p' A n c l KA kn kc:=by
 have:=h.lt
 exact ⟨h.m.over (by simp) ho p' hb hj,ho.blk h.b1 (by omega),ho.blk h.bl (by omega),ho.bel h.u (Nat.le_refl _),h.lt⟩
theorem SS.set (h:SS w W gl p A n c l KA kn kc) (i:Nat) (v:Value) (hp:(PL p A n c).set i v=PL p' A n c) (hj:p'.jt.q=p.jt.q):SS w (W.setCell ⟨w.heap.size,i,none⟩ v) gl p' A n c l KA kn kc:=h.over (OnlyB.setCell _ _ _ _) (h.m.box.set i v p' hp) hj
theorem SS.emit (h:SS w W gl p A n c l KA kn kc) (hm:PM W' [gl,w.heap.size+1,w.heap.size] w.heap.size p' A n c l) (hl:Blk W' gl 105 #[.slice KA' kn' kc']) (hc:Chg [w.heap.size,gl] W W'):SS w W' gl p' A n c l KA' kn' kc':=by
 have:=h.lt
 have:=h.m.box.lt
 have:=h.u.size
 have:=h.bl.lt
 exact ⟨hm,hc.blk h.b1 (by simp;omega),hl,hc.bel h.u (by simp;omega),h.lt⟩
theorem SS.cell (h:SS w W gl p A n c l KA kn kc) (i:Nat) (v:Value) (hv:(PL p A n c)[i]? = some v):W.cell? ⟨w.heap.size,i,none⟩=some v:=h.m.box.cell i v hv
end
theorem r139 (s:Nat→Value):((List.range 139).map s).toArray = #[s 0,s 1,s 2,s 3,s 4,s 5,s 6,s 7,s 8,s 9,s 10,s 11,s 12,s 13,s 14,s 15,s 16,s 17,s 18,s 19,s 20,s 21,s 22,s 23,s 24,s 25,s 26,s 27,s 28,s 29,s 30,s 31,s 32,s 33,s 34,s 35,s 36,s 37,s 38,s 39,s 40,s 41,s 42,s 43,s 44,s 45,s 46,s 47,s 48,s 49,s 50,s 51,s 52,s 53,s 54,s 55,s 56,s 57,s 58,s 59,s 60,s 61,s 62,s 63,s 64,s 65,s 66,s 67,s 68,s 69,s 70,s 71,s 72,s 73,s 74,s 75,s 76,s 77,s 78,s 79,s 80,s 81,s 82,s 83,s 84,s 85,s 86,s 87,s 88,s 89,s 90,s 91,s 92,s 93,s 94,s 95,s 96,s 97,s 98,s 99,s 100,s 101,s 102,s 103,s 104,s 105,s 106,s 107,s 108,s 109,s 110,s 111,s 112,s 113,s 114,s 115,s 116,s 117,s 118,s 119,s 120,s 121,s 122,s 123,s 124,s 125,s 126,s 127,s 128,s 129,s 130,s 131,s 132,s 133,s 134,s 135,s 136,s 137,s 138]:=rfl
def FrS (g gl gq:Nat) (ZA:Option Addr) (zc:Nat) (qb:Bool) (a:Act):Prop:=Fr 139 [(1, .slice ZA 160 zc),(2, .pointer (some ⟨g,0,none⟩)),(4, .pointer (some ⟨g+1,0,none⟩)),(7, .pointer (some ⟨gl,0,none⟩)),(8, .func (.func 45) #[] #[.pointer (some ⟨gl,0,none⟩), .pointer (some ⟨g,0,none⟩)]),(9, .pointer (some ⟨gq,0,none⟩)),(10, .bool qb)] a
theorem FrS.mk {g gl gq:Nat} {ZA:Option Addr} {zc:Nat} {qb:Bool} {xs:List Value} (h:xs.length=139:=by rfl) (hL:AllL [(1, .slice ZA 160 zc),(2, .pointer (some ⟨g,0,none⟩)),(4, .pointer (some ⟨g+1,0,none⟩)),(7, .pointer (some ⟨gl,0,none⟩)),(8, .func (.func 45) #[] #[.pointer (some ⟨gl,0,none⟩), .pointer (some ⟨g,0,none⟩)]),(9, .pointer (some ⟨gq,0,none⟩)),(10, .bool qb)] xs:=by exact ⟨rfl,rfl,rfl,rfl,rfl,rfl,rfl,trivial⟩):FrS g gl gq ZA zc qb ⟨xs.toArray,[]⟩:=Fr.mk h hL
def FrT (g gl:Nat) (a:Act):Prop:=Fr 139 [(2, .pointer (some ⟨g,0,none⟩)),(4, .pointer (some ⟨g+1,0,none⟩)),(7, .pointer (some ⟨gl,0,none⟩))] a
theorem FrT.mk {g gl:Nat} {xs:List Value} (h:xs.length=139:=by rfl) (hL:AllL [(2, .pointer (some ⟨g,0,none⟩)),(4, .pointer (some ⟨g+1,0,none⟩)),(7, .pointer (some ⟨gl,0,none⟩))] xs:=by exact ⟨rfl,rfl,rfl,trivial⟩):FrT g gl ⟨xs.toArray,[]⟩:=Fr.mk h hL
noncomputable def sdB_code:Code:=((Tryz.f22.body.bind (fromBlk 0)).getD .skip)
noncomputable def sdT_code:Code:=((Tryz.f22.body.bind (fromReg 31)).getD .skip)
theorem zsa {w:World} {p:Sb.Pt} {A:Option Addr} {l:List TW} {n c:Nat} {ZA:Option Addr} {zs:List Int} {zc:Nat} {X:Array Value} {R:Ending→World→Prop} (C:SC w p A l n c ZA zs zc) (hX:X=PA p A n c)
 (h:∀ (W:World) (a:Act) (gl gq:Nat) (A2:Option Addr) (c2:Nat) (l2:List TW),SS w W gl p A2 n c2 l2 none 0 0→Blk W gq 28 #[.int .i64 (Ev.quiet p.below zs)]→gl<gq→FrS w.heap.size gl gq ZA zc (Ev.quiet p.below zs==10) a→firstWp Tryz.prog sdB_code (bodyPost Tryz.prog Tryz.f22 R) a W):Calls Tryz.prog 22 #[.agg X, .slice ZA 160 zc] w R:=by
 have B0:=Z9 ((PB.new w X hX).push (.cells (PA Sb.Pt.zero none 0 0) 45))
 have B1:=Z9 (Blk.new1 w (.cells X 45) 45 (PA Sb.Pt.zero none 0 0))
 have U0:=Z9 (((Bel.refl w).push (.cells X 45)).push (.cells (PA Sb.Pt.zero none 0 0) 45))
 have k1:=Z9 fun (W:World) hW=>zft p C.wf A l n c (PA p A n c) rfl W C.q C.len C.n5 hW C.sq true C.v.symm
 have k2:=Z9 fun (W:World) hW=>zfn p.jt A l n c W C.len C.n5 hW C.pay
 unfold CopyR at k2
 rw [C.len] at k2
 have k3:∀ W:World,IntsAt W W.heap.size .i16 ZA zs→Calls Tryz.prog 46 #[.agg #[.int .i64 p.below], .slice ZA 160 zc] W fun e w'=>e = .returned (.tuple #[.agg #[.int .i64 (Ev.quiet p.below zs)], .bool (Ev.quiet p.below zs==10)])∧Below W.heap.size W w':=fun W hW=>by
  have h:=zjb p.below ZA zs zc W C.wf.below.1 C.wf.below.2 hW C.zb (by have:=C.zl;omega)
  rwa [C.zl] at h
 obtain ⟨QN,hQN⟩:∃ q,q=Ev.quiet p.below zs:=⟨_,rfl⟩
 rw [← hQN] at h k3
 generalize (QN==10)=qb at h k3
 replace k3:=Z9 k3
 clear hX hQN
 go_enter Tryz.func22,Tryz.ntmps22
 go_upto_region 1 with fail
 change Code.wp _ _ _ _ ((w.alloc (Obj.cells X 45)).alloc (Obj.cells (PA Sb.Pt.zero none 0 0) 45))
 obtain ⟨W,hW⟩:∃ W,W=(w.alloc (Obj.cells X 45)).alloc (Obj.cells (PA Sb.Pt.zero none 0 0) 45):=⟨_,rfl⟩
 rw [← hW] at B0 B1 U0 ⊢
 clear hW
 go_wp2_with (first|(refine zae rfl 45 (.tmp 2) rfl (w.heap.size) 0 rfl 45 (PL p A n c) B0.out 48 _ Tryz.underlying45 zai (show 0+48≤48 by decide) (PA p A n c) (by rfl) rfl ?_)|fail)
 refine (k1.out _ (C.av.later U0.out)).mono ?_
 rintro e w1 ⟨rfl,hb1⟩
 replace U0:=Z9 (U0.out.later hb1)
 replace B0:=Z9 (B0.out.later hb1)
 replace B1:=Z9 (B1.out.later hb1)
 clear hb1 k1
 go_upto_region 3 with fail
 go_wp2_with (first|(refine zae rfl 37 (.tmp 29) rfl (w.heap.size) 14 rfl 45 (PL p A n c) B0.out 14 _ Tryz.underlying37 zbi (show 14+14≤48 by decide) (#[.int .i64 p.jt.least, .int .i64 p.jt.most, .int .i64 p.jt.now, .bool p.jt.on, .int .i64 p.jt.zero, .int .i64 p.jt.first, .int .i64 p.jt.high, .int .i64 p.jt.done, .int .i64 p.jt.spread, .int .i64 p.jt.trans, .slice A n c, .int .i64 p.jt.late, .int .i64 p.jt.twice, .int .i64 p.jt.played]) (by rfl) rfl ?_)|fail)
 have hL1:=B1.out.lt
 refine (k2.out _ (C.av.later U0.out)).mono ?_
 rintro e w2 ⟨A2,c2,l2,rfl,hm2,hQ2,hb1⟩
 replace U0:=Z9 (U0.out.later hb1)
 replace B0:=Z9 (B0.out.later hb1)
 replace B1:=Z9 (B1.out.later hb1)
 clear hb1 k2
 go_upto_region 4 with (first|(refine zaf rfl 37 (.tmp 32) (.tmp 31) rfl (w.heap.size) 14 rfl 45 (PL p A n c) B0.out (JW p.jt A2 n c2) rfl zbi (show 14+14≤48 by decide) rfl (PL p A2 n c2) rfl ?_;intro WF BF OF)|fail)
 have HQO:=Z9 (hQ2.only OF (by omega))
 have HQL:=Z9 (show l2.map TW.w=p.jt.q from hm2.trans C.q)
 replace B1:=Z9 (OF.blk B1.out (by omega))
 replace U0:=Z9 (OF.bel U0.out (Nat.le_refl _))
 have HM:Hid (PM WF [w.heap.size+1,w.heap.size] w.heap.size p A2 n c2 l2):=Z9 ⟨BF,HQL.out,hQ2.len,HQO.out.capm.1,HQO.out.capm.2,QAv.of_own HQO.out (by intro x hx;simp at hx;omega)⟩
 clear hQ2 hm2 BF OF B0 HQO HQL
 have hW1:=U0.out.size
 have hW2:=B1.out.lt
 obtain ⟨gl,hgl⟩:∃ g,g=WF.heap.size:=⟨_,rfl⟩
 have hgg:w.heap.size+1<gl:=by omega
 have S:SS w (WF.alloc (Obj.cells #[.slice none 0 0] 105)) gl p A2 n c2 l2 none 0 0:=⟨(HM.out.add (x:=gl) (by omega)).push _,B1.out.push _,by rw [hgl];exact Blk.new WF _ _,U0.out.push _,hgg⟩
 have hmf:∀ (fn:Fn) (first cap:Array Value) (w:World),(Instr.makeFunc fn first cap).run Tryz.prog w = .ok (.func fn first cap) w:=fun _ _ _ _=>rfl
 obtain ⟨W3,hW3⟩:∃ W,W=WF.alloc (Obj.cells #[.slice none 0 0] 105):=⟨_,rfl⟩
 go_upto_region 6 with fail
 rw [← hgl]
 rw [← hW3] at S ⊢
 clear hW3 hgl hW1 hW2 HM B1 U0
 have x5:=S.cell 5 _ rfl
 go_wp2_with (first|(refine zae rfl 28 (.tmp 35) rfl (w.heap.size) 5 rfl 45 (PL p A2 n c2) S.m.box 1 _ Tryz.underlying28 zcd (show 5+1≤48 by decide) (#[.int .i64 p.below]) (by rfl) rfl ?_)|fail)
 refine (k3.out _ (C.z.later S.u)).mono ?_
 rintro e w4 ⟨rfl,hb1⟩
 replace S:=S.later hb1
 clear hb1 k3 x5
 have BQ:=Z9 (Blk.new w4 28 #[.int .i64 QN])
 have hbl:=S.bl.lt
 replace S:=S.push (.cells #[.int .i64 QN] 28)
 obtain ⟨gq,hgq⟩:∃ g,g=w4.heap.size:=⟨_,rfl⟩
 obtain ⟨W5,hW5⟩:∃ W,W=w4.alloc (Obj.cells #[.int .i64 QN] 28):=⟨_,rfl⟩
 rw [← hgq,← hW5] at BQ
 rw [← hgq] at hbl
 go_upto_block 0 with fail
 rw [← hgq]
 rw [← hW5] at S ⊢
 clear hW5 hgq
 refine zan (by assumption) ?_
 exact h _ _ gl gq A2 c2 l2 S BQ.out hbl FrS.mk
theorem zpf {w W:World} {gl:Nat} {p:Sb.Pt} {A:Option Addr} {n c:Nat} {l:List TW} {KA:Option Addr} {kc:Nat} {ks:List TK} (S:SS w W gl p A n c l KA ks.length kc) (K:PkS W w.heap.size [gl,w.heap.size+1,w.heap.size] KA ks) (ht0:0≤p.time) (ht1:p.time≤4294967295) (a:Act) (ha:FrT w.heap.size gl a):firstWp Tryz.prog sdT_code (bodyPost Tryz.prog Tryz.f22 (SendR ({ p with time:=(p.time+160) % 4294967296 }, ks.map TK.k) w)) a W:=by
 obtain ⟨s,rfl,e2,e4,e7,_⟩:=ha
 rw [r139,e2,e4,e7]
 clear e2 e4 e7
 refine zaq ?_
 intro _ _
 have hgg:=S.lt
 have x3:=S.cell 3 _ rfl
 have z3:=Blk.frozen S.m.box 3
 go_upto_region 32 with fail
 obtain ⟨WI,hV⟩:∃ V,V=W.setCell ⟨w.heap.size,3,none⟩ (.int .u32 ((p.time+160) % 4294967296)):=⟨_,rfl⟩
 rw [← hV]
 replace S:SS w WI gl { p with time:=(p.time+160) % 4294967296 } A n c l KA ks.length kc:=by rw [hV];exact S.set 3 _ rfl rfl
 replace K:PkS WI w.heap.size [gl,w.heap.size+1,w.heap.size] KA ks:=K.chg (T:=[w.heap.size]) (Chg.of_only (by rw [hV];exact OnlyB.setCell _ _ _ _) (by simp)) (by simp)
 clear hV x3 z3
 obtain ⟨q,hq⟩:∃ q:Sb.Pt,q = { p with time:=(p.time+160) % 4294967296 } := ⟨_,rfl⟩
 rw [← hq] at S
 have HQQ:=Z9 hq
 clear hq
 replace S:=S.drew
 have K2:PkS WI.drew w.heap.size [gl,w.heap.size+1,w.heap.size] KA ks:=⟨K.rows,K.av,K.pay,K.new⟩
 clear K
 refine wp_region_held_drew (S:=fun w'=>Blk w' w.heap.size 45 (PL q A n c).toArray∧Blk w' gl 105 #[.slice KA ks.length kc]) (by kernel_rfl) ⟨S.m.box,S.bl⟩ (fun qH => ?_)
 refine tk1 (i:=0) (v := .agg (PA q A n c)) rfl (zat rfl 45 (.tmp 2) rfl w.heap.size 0 rfl 45 (PL q A n c) (fun w h=>h.1) 48 _ Tryz.underlying45 zai (Nat.le_refl 48) _ rfl rfl) qH ?_
 try simp only [ss9]
 refine tk1 (i:=1) (v := .slice KA ks.length kc) rfl (Or.inl ⟨by rfl,fun w h=>by have c2:=h.2.at 0 _ rfl;clear h;go_simp;try with_reducible rfl⟩) qH ?_
 try simp only [ss9]
 refine wpAnyH_ready (rs:=[2]) (by kernel_rfl) (by simp) ?_
 refine AllReadyH.cons (o:=_) rfl (fun K hK => ?_) AllReadyH.nil
 refine zal rfl 45 (.tmp 4) (.tmp 137) rfl (w.heap.size+1) 0 rfl 45 (PL Sb.Pt.zero none 0 0) S.b1 (PL q A n c) rfl zai (Nat.le_refl 48) rfl (PL q A n c) rfl ?_
 intro WH BH OH
 refine hK.out _ _ ⟨OH.blk qH.1 (by omega),OH.blk qH.2 (by omega)⟩ (fun hHeld2 => ?_)
 clear hK K
 try simp only [ss9]
 refine tk1 (i:=3) (v := .slice KA ks.length kc) rfl (Or.inl ⟨by rfl,fun w _=>by go_simp;try with_reducible rfl⟩) hHeld2 ?_
 try simp only [ss9]
 refine tk1 (i:=4) (v := .int .u8 0) rfl (Or.inl ⟨by rfl,fun w _=>by go_simp;try with_reducible rfl⟩) hHeld2 ?_
 try simp only [ss9]
 refine wpAnyH_done (by kernel_rfl) ?_ _
 go_wp2_with fail
 rw [← HQQ.out]
 have K3:=K2.chg (Chg.of_only OH (S:=[w.heap.size+1]) (by simp)) (by simp)
 refine bodyPost_ret (v := .tuple #[.agg (PA q A n c), .slice KA ks.length kc, .int .u8 0]) (zax Tryz.results22 rfl (PB.load BH) rfl rfl) rfl ⟨A,n,c,l,KA,kc,ks,rfl,rfl,S.m.q,S.m.len,S.m.cap,S.m.cm,(S.m.chg (T:=[w.heap.size+1]) (Chg.of_only OH (by simp)) (by simp) (by simp)).qa.wts,K3.rows,OH.bel S.u (by omega),K3.new⟩
theorem zxa {w W:World} {p:Sb.Pt} {A:Option Addr} {l:List TW} {n c:Nat} {gl gq:Nat} {ZA:Option Addr} {zs:List Int} {zc:Nat} {A0:Option Addr} {l0:List TW} {n0 c0:Nat} (C:SC w p A0 l0 n0 c0 ZA zs zc) (S:SS w W gl p A n c l none 0 0) (BQ:Blk W gq 28 #[.int .i64 (Ev.quiet p.below zs)]) (hgq:gl<gq) (hon:p.tn.on=false) (hen:p.tn.ends=0) (hqu:Ev.quiet p.below zs=10) (hbe:¬p.below<10) (a:Act) (ha:FrS w.heap.size gl gq ZA zc (Ev.quiet p.below zs==10) a):firstWp Tryz.prog sdB_code (bodyPost Tryz.prog Tryz.f22 (SendR ({ p with below:=10,mrk:=true,time:=(p.time+160) % 4294967296 }, []) w)) a W:=by
 obtain ⟨s,rfl,e1,e2,e4,e7,e8,e9,e10,_⟩:=ha
 rw [r139,e1,e2,e4,e7,e8,e9,e10]
 clear e1 e2 e4 e7 e8 e9 e10
 rw [hqu] at BQ ⊢
 rw [show ((10:Int)==10)=true from rfl]
 clear hqu
 refine zjf ?_
 intro _ _
 have hgg:=S.lt
 have x8:=S.cell 8 _ rfl
 have x13:=S.cell 13 _ rfl
 rw [hon] at x8
 rw [hen] at x13
 have x5:=S.cell 5 _ rfl
 have hbi:¬p.below<(10:Int):=hbe
 go_upto_region 29 with fail
 clear x8 x13 x5
 go_upto_region 30 with (first|(refine zae rfl 28 (.tmp 9) rfl (gq) 0 rfl 28 ([.int .i64 10]) BQ 1 _ Tryz.underlying28 zcd (show 0+1≤1 by decide) (#[.int .i64 10]) (by rfl) rfl ?_)|(refine zaf rfl 28 (.tmp 131) (.tmp 130) rfl (w.heap.size) 5 rfl 45 (PL p A n c) S.m.box ([.int .i64 10]) rfl zcd (show 5+1≤48 by decide) rfl (PL { p with below:=10 } A n c) rfl ?_;intro WG BG OG)|fail)
 replace S:=S.over OG BG rfl
 clear BG OG BQ
 have x4:=S.cell 4 _ rfl
 have z4:=Blk.frozen S.m.box 4
 go_upto_region 31 with fail
 obtain ⟨WH,hV⟩:∃ V,V=WG.setCell ⟨w.heap.size,4,none⟩ (.bool true):=⟨_,rfl⟩
 rw [← hV]
 have OV:OnlyB w.heap.size WG WH:=by rw [hV];exact OnlyB.setCell _ _ _ _
 replace S:SS w WH gl { p with below:=10,mrk:=true } A n c l none 0 0:=by rw [hV];exact S.set 4 _ rfl rfl
 clear hV OV x4 z4
 refine zan (by assumption) ?_
 exact zpf (ks:=[]) S PkS.nil C.wf.time.1 C.wf.time.2 _ FrT.mk
theorem zxb {w W:World} {p:Sb.Pt} {A:Option Addr} {l:List TW} {n c:Nat} {gl gq:Nat} {ZA:Option Addr} {zs:List Int} {zc:Nat} {A0:Option Addr} {l0:List TW} {n0 c0:Nat} (C:SC w p A0 l0 n0 c0 ZA zs zc) (S:SS w W gl p A n c l none 0 0) (BQ:Blk W gq 28 #[.int .i64 (Ev.quiet p.below zs)]) (hgq:gl<gq) (hon:p.tn.on=false) (hen:p.tn.ends=0) (hqu:Ev.quiet p.below zs=10) (hbe:p.below<10) (a:Act) (ha:FrS w.heap.size gl gq ZA zc (Ev.quiet p.below zs==10) a):firstWp Tryz.prog sdB_code (bodyPost Tryz.prog Tryz.f22 (SendR ({ (Sb.emit p 13 p.time false [Ev.lev zs]).1 with below:=10,mrk:=true,time:=(p.time+160) % 4294967296 }, [(Sb.emit p 13 p.time false [Ev.lev zs]).2]) w)) a W:=by
 obtain ⟨s,rfl,e1,e2,e4,e7,e8,e9,e10,_⟩:=ha
 rw [r139,e1,e2,e4,e7,e8,e9,e10]
 clear e1 e2 e4 e7 e8 e9 e10
 rw [hqu] at BQ ⊢
 rw [show ((10:Int)==10)=true from rfl]
 clear hqu
 have k5:∀ W:World,IntsAt W W.heap.size .i16 ZA zs→Calls Tryz.prog 49 #[.slice ZA 160 zc] W fun e w'=>e = .returned (.int .u8 (Ev.lev zs))∧W=w':=fun W hW=>by
  have h:=zhu ZA zs zc W hW C.zb (by have:=C.zl;omega)
  rwa [C.zl] at h
 replace k5:=Z9 k5
 obtain ⟨q9,hq9⟩:∃ q,q=(Sb.emit p 13 p.time false [Ev.lev zs]).1:=⟨_,rfl⟩
 obtain ⟨k9,hk9⟩:∃ k,k=(Sb.emit p 13 p.time false [Ev.lev zs]).2:=⟨_,rfl⟩
 rw [← hq9,← hk9]
 have HQ9:=Z9 hq9
 have HK9:=Z9 hk9
 have H9T:=Z9 (show q9.time=p.time by rw [hq9];rfl)
 have H9P:=Z9 (show k9.pl=[Ev.lev zs] by rw [hk9];rfl)
 clear hq9 hk9
 refine zjf ?_
 intro _ _
 have hgg:=S.lt
 have x8:=S.cell 8 _ rfl
 have x13:=S.cell 13 _ rfl
 rw [hon] at x8
 rw [hen] at x13
 have x5:=S.cell 5 _ rfl
 go_upto_region 28 with fail
 clear x8 x13 x5
 have x3:=S.cell 3 _ rfl
 refine wp_region_held_drew (S:=fun w'=>w'.cell? ⟨w.heap.size,3,none⟩=some (.int .u32 p.time)) (by kernel_rfl) x3 (fun qH => ?_)
 refine tk1 (i:=0) (v:=?_) rfl (Or.inl ⟨by rfl,?_⟩) qH ?_
 rotate_left
 · (intro w hSw;(try dsimp only at hSw);go_simp;try with_reducible rfl)
 try simp only [ss9]
 refine tk1 (i:=1) (v:=?_) rfl (Or.inl ⟨by rfl,?_⟩) qH ?_
 rotate_left
 · (intro w hSw;(try dsimp only at hSw);go_simp;try with_reducible rfl)
 try simp only [ss9]
 refine tk1 (i:=2) (v:=?_) rfl (Or.inl ⟨by rfl,?_⟩) qH ?_
 rotate_left
 · (intro w hSw;(try dsimp only at hSw);go_simp;try with_reducible rfl)
 try simp only [ss9]
 refine tk1 (i:=3) (v:=?_) rfl (Or.inl ⟨by rfl,?_⟩) qH ?_
 rotate_left
 · (intro w hSw;(try dsimp only at hSw);go_simp;try with_reducible rfl)
 try simp only [ss9]
 refine wpAnyH_ready (rs:=[4]) (by kernel_rfl) (by simp) ?_
 refine AllReadyH.cons (o:=_) rfl (fun K hK => ?_) ?_
 rotate_left
 · exact AllReadyH.nil
 go_simp
 refine (k5.out _ (C.z.later (Bel.drew S.u))).mono ?_
 rintro e w6 ⟨rfl,rfl⟩
 refine hK.out _ _ ?_ (fun qH => ?_)
 · (try dsimp only)
   exact x3
 clear hK K
 try simp only [ss9]
 refine wpAnyH_ready (rs:=[5]) (by kernel_rfl) (by simp) ?_
 refine AllReadyH.cons (o:=_) rfl (fun K hK => ?_) ?_
 rotate_left
 · exact AllReadyH.nil
 go_simp
 refine hK.out _ _ ?_ (fun qH => ?_)
 · (try dsimp only)
   exact zhn x3 _
 clear hK K
 try simp only [ss9]
 have hql:=BQ.lt
 have HP9:Hid (IntsAv (W.alloc (Obj.cells #[.int .u8 (Ev.lev zs)] 5)).drew [gl,w.heap.size+1,w.heap.size] .u8 (some ⟨W.heap.size,0,none⟩) [Ev.lev zs]):=Z9 ⟨IntsAt.lit0 W 5 .u8 [Ev.lev zs] [.int .u8 (Ev.lev zs)] rfl,fun _ b off e hb=>by injection e with e;injection e with e1 _;simp at hb;omega⟩
 replace S:=(S.push (Obj.cells #[.int .u8 (Ev.lev zs)] 5)).drew
 replace BQ:=Z9 (Blk.dr (BQ.push (Obj.cells #[.int .u8 (Ev.lev zs)] 5)))
 clear x3
 obtain ⟨gz,hgz⟩:∃ g,g=W.heap.size:=⟨_,rfl⟩
 have hzw:w.heap.size≤gz:=by omega
 have hqz:gq<gz:=by omega
 obtain ⟨W7,hW7⟩:∃ V,V=(W.alloc (Obj.cells #[.int .u8 (Ev.lev zs)] 5)).drew:=⟨_,rfl⟩
 have hs7:gz<W7.heap.size:=by rw [hW7,hgz];simp
 rw [← hgz] at HP9 ⊢
 rw [← hW7] at S BQ HP9 qH ⊢
 clear hW7 hgz
 refine wpAnyH_ready (rs:=[6]) (by kernel_rfl) (by simp) ?_
 refine AllReadyH.cons (o:=_) rfl (fun K hK => ?_) ?_
 rotate_left
 · exact AllReadyH.nil
 go_simp
 refine (zkp [gl,w.heap.size+1,w.heap.size] w.heap.size gl p C.wf A n c l 13 p.time false (some ⟨gz,0,none⟩) [Ev.lev zs] 1 _ S.m (by simp) (by simp) (by omega) S.bl (by simp)).mono ?_
 rintro e w8 ⟨rfl,A9,c9,M9,L9,O9,C9⟩
 rw [← HQ9.out] at M9
 rw [← HK9.out] at O9
 replace S:=S.emit M9 L9 C9
 have HO9:=Z9 O9
 replace HP9:=Z9 (HP9.out.chg C9 (by simp))
 replace BQ:=Z9 (C9.blk BQ.out (by simp;omega))
 clear M9 L9 O9 C9
 refine hK.out _ _ ?_ (fun qH => ?_)
 · (try dsimp only)
   have:=S.cell 3 _ rfl;rw [H9T.out] at this;exact this
 clear hK K
 try simp only [ss9]
 clear qH
 refine wpAnyH_done (by kernel_rfl) ?_ _
 have K9:Hid (PkS w8 w.heap.size [gl,w.heap.size+1,w.heap.size] A9 [⟨k9,some ⟨gz,0,none⟩,1⟩]):=Z9 (PkS.one HO9.out HP9.out H9P.out (by intro x hx;simp at hx;omega) (by omega) (fun _ b off e=>by injection e with e;injection e with e1 _;omega))
 clear HO9 HP9
 go_upto_region 30 with (first|(refine zae rfl 28 (.tmp 9) rfl (gq) 0 rfl 28 ([.int .i64 10]) BQ.out 1 _ Tryz.underlying28 zcd (show 0+1≤1 by decide) (#[.int .i64 10]) (by rfl) rfl ?_)|(refine zaf rfl 28 (.tmp 131) (.tmp 130) rfl (w.heap.size) 5 rfl 45 (PL q9 A n c) S.m.box ([.int .i64 10]) rfl zcd (show 5+1≤48 by decide) rfl (PL { q9 with below:=10 } A n c) rfl ?_;intro WG BG OG)|fail)
 replace S:=S.over OG BG rfl
 replace K9:=Z9 (K9.out.chg (Chg.of_only OG (S:=[w.heap.size]) (by simp)) (by simp))
 clear BG OG BQ
 have x4:=S.cell 4 _ rfl
 have z4:=Blk.frozen S.m.box 4
 go_upto_region 31 with fail
 obtain ⟨WH,hV⟩:∃ V,V=WG.setCell ⟨w.heap.size,4,none⟩ (.bool true):=⟨_,rfl⟩
 rw [← hV]
 have OV:OnlyB w.heap.size WG WH:=by rw [hV];exact OnlyB.setCell _ _ _ _
 replace S:SS w WH gl { q9 with below:=10,mrk:=true } A n c l A9 1 c9:=by rw [hV];exact S.set 4 _ rfl rfl
 replace K9:=Z9 (K9.out.chg (Chg.of_only OV (S:=[w.heap.size]) (by simp)) (by simp))
 clear hV OV x4 z4
 refine zan (by assumption) ?_
 have ht:=C.wf.time
 rw [← H9T.out] at ht ⊢
 exact zpf (ks:=[⟨k9,some ⟨gz,0,none⟩,1⟩]) S K9.out ht.1 ht.2 _ FrT.mk
theorem zxc {w W:World} {p:Sb.Pt} {A:Option Addr} {l:List TW} {n c:Nat} {gl gq:Nat} {ZA:Option Addr} {zs:List Int} {zc:Nat} {A0:Option Addr} {l0:List TW} {n0 c0:Nat} (C:SC w p A0 l0 n0 c0 ZA zs zc) (S:SS w W gl p A n c l none 0 0) (BQ:Blk W gq 28 #[.int .i64 (Ev.quiet p.below zs)]) (hgq:gl<gq) (hon:p.tn.on=false) (hen:p.tn.ends=0) (hqu:¬Ev.quiet p.below zs=10) (a:Act) (ha:FrS w.heap.size gl gq ZA zc (Ev.quiet p.below zs==10) a):firstWp Tryz.prog sdB_code (bodyPost Tryz.prog Tryz.f22 (SendR ({ (Sb.emit { p with below:=Ev.quiet p.below zs } p.codec p.time p.mrk (Sb.enc p.codec (p.cv,p.ci) zs).1).1 with mrk:=false,cv:=(Sb.enc p.codec (p.cv,p.ci) zs).2.1,ci:=(Sb.enc p.codec (p.cv,p.ci) zs).2.2,time:=(p.time+160) % 4294967296 }, [(Sb.emit { p with below:=Ev.quiet p.below zs } p.codec p.time p.mrk (Sb.enc p.codec (p.cv,p.ci) zs).1).2]) w)) a W:=by
 obtain ⟨s,rfl,e1,e2,e4,e7,e8,e9,e10,_⟩:=ha
 rw [r139,e1,e2,e4,e7,e8,e9,e10]
 clear e1 e2 e4 e7 e8 e9 e10
 have hvb:speechB p.codec=true∧Dlt.valid p.cv p.ci=true:=by
  have hv:=C.v
  unfold Sb.Pt.valid at hv
  simp only [Bool.and_eq_true] at hv
  exact ⟨hv.1.1.1.1,hv.1.1.1.2⟩
 obtain ⟨FK,FC,FD,hE⟩:=encK p.codec p.cv p.ci hvb.1 hvb.2 ZA zc zs C.zb C.zl
 have hel:=(Sb.enc_in p.codec (p.cv,p.ci) zs hvb.2 C.zl).2.1
 generalize Sb.enc p.codec (p.cv,p.ci) zs=EE at *
 obtain ⟨bs,es⟩:=EE
 obtain ⟨QN,hQN⟩:∃ q,q=Ev.quiet p.below zs:=⟨_,rfl⟩
 have HW5:=Z9 (show ({ p with below:=QN } : Sb.Pt).wf from ⟨C.wf.codec,C.wf.src,C.wf.seq,C.wf.time,by rw [hQN];show -9223372036854775808≤Ev.quiet p.below zs∧Ev.quiet p.below zs≤9223372036854775807;unfold Ev.quiet;split<;>omega,C.wf.tvol,C.wf.tcode,C.wf.tst,C.wf.seed,C.wf.pk,C.wf.oc⟩)
 rw [← hQN] at BQ hqu ⊢
 rw [show (QN==10)=false by rw [beq_eq_false_iff_ne];exact hqu]
 clear hqu hQN
 obtain ⟨q9,hq9⟩:∃ q,q=(Sb.emit { p with below:=QN } p.codec p.time p.mrk bs).1:=⟨_,rfl⟩
 obtain ⟨k9,hk9⟩:∃ k,k=(Sb.emit { p with below:=QN } p.codec p.time p.mrk bs).2:=⟨_,rfl⟩
 simp only at hel
 rw [← hq9,← hk9]
 have HQ9:=Z9 hq9
 have HK9:=Z9 hk9
 have H9T:=Z9 (show q9.time=p.time by rw [hq9];rfl)
 have H9P:=Z9 (show k9.pl=bs by rw [hk9];rfl)
 clear hq9 hk9 hvb
 refine zjf ?_
 intro _ _
 have hgg:=S.lt
 have x8:=S.cell 8 _ rfl
 have x13:=S.cell 13 _ rfl
 rw [hon] at x8
 rw [hen] at x13
 go_upto_region 8 with (first|(refine zae rfl 28 (.tmp 9) rfl (gq) 0 rfl 28 ([.int .i64 QN]) BQ 1 _ Tryz.underlying28 zcd (show 0+1≤1 by decide) (#[.int .i64 QN]) (by rfl) rfl ?_)|(refine zaf rfl 28 (.tmp 42) (.tmp 41) rfl (w.heap.size) 5 rfl 45 (PL p A n c) S.m.box ([.int .i64 QN]) rfl zcd (show 5+1≤48 by decide) rfl (PL { p with below:=QN } A n c) rfl ?_;intro WG BG OG)|fail)
 clear x8 x13
 replace S:=S.over OG BG rfl
 clear BG OG BQ
 have x0d:WG.cell? ⟨w.heap.size,0,none⟩=some (.int .u8 p.codec):=S.cell 0 _ rfl
 have x6d:WG.cell? ⟨w.heap.size,6,none⟩=some (.int .i64 p.cv):=S.cell 6 _ rfl
 have x7d:WG.cell? ⟨w.heap.size,7,none⟩=some (.int .i64 p.ci):=S.cell 7 _ rfl
 simp only [Act.put]
 have hglt:=S.bl.lt
 have hqlt:=S.u.size
 refine zwz w.heap.size p.codec p.cv p.ci C.wf.codec.1 C.wf.codec.2 ZA zs zc bs es FK FC FD hE WG x0d x6d x7d (C.z.later S.u) (fun _ _ _ _ _ h=>h) ?_
 intro wx A8 c8 g8 u43 u44 u45 u46 u47 u48 u49 u50 u51 u52 u53 u54 u55 HI8 HD8 hg8 HB8
 have hwx:=HB8.out.size
 have HN8:=Z9 HI8.out.2
 replace S:=S.later HB8.out
 clear x0d x6d x7d HB8
 have HP9:Hid (IntsAv wx [gl,w.heap.size+1,w.heap.size] .u8 A8 bs):=Z9 (IntsAv.of_new HI8.out (by intro x hx;simp at hx;omega))
 replace hg8:=hg8.out
 have k6:=Z9 fun (V:World) hM hL=>zkp [gl,w.heap.size+1,w.heap.size] w.heap.size gl { p with below:=QN } HW5.out A n c l p.codec p.time p.mrk A8 bs c8 V hM (by simp) (by simp) (by omega) hL (by omega)
 have x0:=S.cell 0 _ rfl
 have x3:=S.cell 3 _ rfl
 have x4:=S.cell 4 _ rfl
 go_upto_region 11 with fail
 go_wp2_with fail
 refine (k6.out _ S.m S.bl).mono ?_
 rintro e w8 ⟨rfl,A9,c9,M9,L9,O9,C9⟩
 rw [← HQ9.out] at M9
 rw [← HK9.out] at O9
 replace S:=S.emit M9 L9 C9
 replace HP9:=Z9 (HP9.out.chg C9 (by simp))
 replace HD8:=Z9 (C9.blk HD8.out (by simp;omega))
 have K9:Hid (PkS w8 w.heap.size [gl,w.heap.size+1,w.heap.size] A9 [⟨k9,A8,c8⟩]):=Z9 (PkS.one O9 HP9.out H9P.out (by intro x hx;simp at hx;omega) (by omega) (fun h0 b off e=>by have:=HN8.out h0 b off e;omega))
 clear M9 L9 O9 C9 x0 x3 x4 HI8 k6 HP9
 have x4:=S.cell 4 _ rfl
 have z4:=Blk.frozen S.m.box 4
 go_upto_region 13 with fail
 obtain ⟨WH,hV⟩:∃ V,V=w8.setCell ⟨w.heap.size,4,none⟩ (.bool false):=⟨_,rfl⟩
 rw [← hV]
 have OV:OnlyB w.heap.size w8 WH:=by rw [hV];exact OnlyB.setCell _ _ _ _
 replace S:SS w WH gl { q9 with mrk:=false } A n c l A9 1 c9:=by rw [hV];exact S.set 4 _ rfl rfl
 replace K9:=Z9 (K9.out.chg (Chg.of_only OV (S:=[w.heap.size]) (by simp)) (by simp))
 replace HD8:=Z9 (OV.blk HD8.out (by omega))
 clear hV OV x4 z4
 obtain ⟨es1,es2⟩:=es
 go_upto_region 31 with (first|(refine zae rfl 30 (.tmp 18) rfl (g8) 0 rfl 30 ([.int .i64 es1, .int .i64 es2]) HD8.out 2 _ Tryz.underlying30 zgn (show 0+2≤2 by decide) (#[.int .i64 es1, .int .i64 es2]) (by rfl) rfl ?_)|(refine zaf rfl 30 (.tmp 71) (.tmp 70) rfl (w.heap.size) 6 rfl 45 (PL { q9 with mrk:=false } A n c) S.m.box ([.int .i64 es1, .int .i64 es2]) rfl zgn (show 6+2≤48 by decide) rfl (PL { q9 with mrk:=false,cv:=es1,ci:=es2 } A n c) rfl ?_;intro WJ BJ OJ)|fail)
 replace S:=S.over OJ BJ rfl
 replace K9:=Z9 (K9.out.chg (Chg.of_only OJ (S:=[w.heap.size]) (by simp)) (by simp))
 clear BJ OJ HD8
 refine zan (by assumption) ?_
 have ht:=C.wf.time
 rw [← H9T.out] at ht ⊢
 exact zpf (ks:=[⟨k9,A8,c8⟩]) S K9.out ht.1 ht.2 _ FrT.mk
end Go.Proofs.YtbcgnddpkiemoaaGreat
namespace Go.Proofs.YtbcgnddpkiemoaaGreat
open Go.RowKit
theorem zkq {w:World} {p:Sb.Pt} {A:Option Addr} {l:List TW} {n c:Nat} {ZA:Option Addr} {zs:List Int} {zc:Nat} {X:Array Value} (C:SC w p A l n c ZA zs zc) (hX:X=PA p A n c) (hon:p.tn.on=false) (hen:p.tn.ends=0):Calls Tryz.prog 22 #[.agg X, .slice ZA 160 zc] w (SendR (Sb.send0 p zs) w):=by
 refine zsa C hX fun W a gl gq A2 c2 l2 S BQ hgq ha => ?_
 unfold Sb.send0 Sb.later
 rw [if_neg (by rw [hon,hen];decide)]
 by_cases hq:Ev.quiet p.below zs=10
 · rw [if_pos hq]
   by_cases hb:p.below<10
   · rw [if_pos hb]
     have h:=zxb C S BQ hgq hon hen hq hb a ha
     simp only [hq] at h ⊢
     exact h
   · rw [if_neg hb]
     have h:=zxa C S BQ hgq hon hen hq hb a ha
     simp only [hq] at h ⊢
     exact h
 · rw [if_neg hq]
   exact zxc C S BQ hgq hon hen hq a ha
end Go.Proofs.YtbcgnddpkiemoaaGreat
namespace Go.Proofs.YtbcgnddpkiemoaaGreat
attribute [local go_sem ↓] zab zac
attribute [local go_sem] zaa zad
open Go.RowKit
theorem zsb {w:World} {p:Sb.Pt} {A:Option Addr} {l:List TW} {n c:Nat} {x:Rx} {now:Int} {X:Array Value} {R:Ending→World→Prop} (C:RC w p A l n c x now) (hw:p.wf) (hX:X=PA p A n c) (hc:Sb.chkT p now=0)
 (h:∀ (W:World) (a:Act),RS w W p A n c x→FrA w.heap.size now a→firstWp Tryz.prog rcA_code (bodyPost Tryz.prog Tryz.f26 R) a W):Calls Tryz.prog 26 #[.agg X, .int .i64 now, .agg x.row] w R:=by
 have S:RS w (((w.alloc (Obj.cells X 45)).alloc (Obj.cells x.row 112)).alloc (Obj.cells (PA Sb.Pt.zero none 0 0) 45)) p A n c x:=⟨((PB.new w X hX).push (.cells x.row 112)).push (.cells (PA Sb.Pt.zero none 0 0) 45),(Blk.new1 w (.cells X 45) 112 x.row).push (.cells (PA Sb.Pt.zero none 0 0) 45),Blk.new2 w (.cells X 45) (.cells x.row 112) 45 (PA Sb.Pt.zero none 0 0),(((Bel.refl w).push (.cells X 45)).push (.cells x.row 112)).push (.cells (PA Sb.Pt.zero none 0 0) 45)⟩
 have k1:=Z9 fun (W:World) hW=>zcs p hw A l n c (PA p A n c) rfl W C.q C.len C.n5 hW C.sq now
 rw [hc] at k1
 have hl15:(x.pl.length:Int)≤1500:=by have:=C.h15;omega
 clear hX hc hw
 go_enter Tryz.func26,Tryz.ntmps26
 go_upto_region 1 with fail
 change Code.wp _ _ _ _ (((w.alloc (Obj.cells X 45)).alloc (Obj.cells x.row 112)).alloc (Obj.cells (PA Sb.Pt.zero none 0 0) 45))
 obtain ⟨W,hW⟩:∃ W,W=((w.alloc (Obj.cells X 45)).alloc (Obj.cells x.row 112)).alloc (Obj.cells (PA Sb.Pt.zero none 0 0) 45):=⟨_,rfl⟩
 rw [← hW] at S ⊢
 clear hW
 go_wp2_with (first|(refine zae rfl 45 (.tmp 3) rfl (w.heap.size) 0 rfl 45 (PL p A n c) S.b0 48 _ Tryz.underlying45 zai (show 0+48≤48 by decide) (PA p A n c) (by rfl) rfl ?_)|fail)
 refine (k1.out _ (C.av.later S.u)).mono ?_
 rintro e w1 ⟨rfl,hb1⟩
 replace S:=S.later hb1
 clear hb1 k1
 have x9:=S.c9
 go_upto_region 6 with fail
 clear x9
 refine zan (by assumption) ?_
 exact h _ _ S FrA.mk
theorem zxd {w W:World} {p:Sb.Pt} {A:Option Addr} {l:List TW} {n c:Nat} {x:Rx} {now:Int} (C:RC w p A l n c x now) (S:RS w W p A n c x) {R:Ending→World→Prop} (h101:¬x.ty=101)
 (h:∀ (W:World) (a:Act) (gt:Nat),RS w W p A n c x→Blk W gt 157 #[.int .u8 0, .bool false, .int .u8 0, .int .u16 0]→w.heap.size<gt→FrB w.heap.size now gt (speechB x.ty||x.ty==13) a→firstWp Tryz.prog rcB_code (bodyPost Tryz.prog Tryz.f26 R) a W) (a:Act) (ha:FrA w.heap.size now a):firstWp Tryz.prog rcA_code (bodyPost Tryz.prog Tryz.f26 R) a W:=by
 obtain ⟨s,rfl,e1,e3,e5,e6,_⟩:=ha
 rw [r164,e1,e3,e5,e6]
 clear e1 e3 e5 e6
 have k2:=Z9 fun W=>zdi x.ty W C.ty0 C.ty1
 refine zaq ?_
 intro _ _
 have BT:=Z9 (Blk.new W 157 #[.int .u8 0, .bool false, .int .u8 0, .int .u16 0])
 have hgt':w.heap.size<W.heap.size:=by have:=S.b2.lt;omega
 replace S:=S.push (.cells #[.int .u8 0, .bool false, .int .u8 0, .int .u16 0] 157)
 obtain ⟨W2,hW2⟩:∃ V,V=W.alloc (Obj.cells #[.int .u8 0, .bool false, .int .u8 0, .int .u16 0] 157):=⟨_,rfl⟩
 go_upto_region 7 with fail
 rw [← hW2] at S BT ⊢
 obtain ⟨gt,hgt⟩:∃ g,g=W.heap.size:=⟨_,rfl⟩
 rw [← hgt] at BT hgt' ⊢
 clear hW2 hgt
 have x1:=S.c1
 go_wp2_with fail
 refine (k2.out _).mono ?_
 rintro e w3 ⟨rfl,hb1⟩
 replace S:=S.later hb1
 replace BT:=Z9 (BT.out.later hb1)
 clear hb1 k2 x1
 have x1:=S.c1
 cases hs:speechB x.ty
 · rw [hs] at h
   clear hs
   by_cases h13:x.ty=13
   · rw [h13] at x1 h
     go_upto_region 11 with fail
     refine zbh (by assumption) (by assumption) ?_
     exact h _ _ _ S BT.out hgt' FrB.mk
   · have h13b:(x.ty==13)=false:=by simpa using h13
     rw [h13b] at h
     go_upto_region 11 with fail
     refine zbh (by assumption) (by assumption) ?_
     exact h _ _ _ S BT.out hgt' FrB.mk
 · rw [hs] at h
   clear hs
   go_upto_region 11 with fail
   refine zbh (by assumption) (by assumption) ?_
   exact h _ _ _ S BT.out hgt' FrB.mk
section
variable (high jump q:Int) (w:World)
theorem zjg (q0:0≤q) (q1:q≤65535) (b0 : -9223372036854775808≤high) (b1:high≤9223372036854775807) (c0 : -9223372036854775808≤jump) (c1:jump≤9223372036854775807) (on:Bool) (h:high<0):Calls Tryz.prog 60 #[.agg #[.bool on, .int .i64 high, .int .i64 jump], .int .u16 q] w fun e w'=>e = .returned (.tuple #[.agg #[.bool false, .int .i64 0, .int .i64 0], .int .i64 0, .bool false])∧Bel w w':=by
 go_enter Tryz.func60,Tryz.ntmps60
 go_wp2_with fail
 exact bodyPost_ret (v := .tuple #[.agg #[.bool false, .int .i64 0, .int .i64 0], .int .i64 0, .bool false]) (zax Tryz.results60 rfl (run_loadVar_row (P:=Tryz.prog) _ _ _ _ _ _ _ (Blk.new1 w _ _ _) Tryz.underlying39 rfl (by kernel_rfl)) rfl rfl) rfl ⟨rfl,Bel.push (Bel.push (Bel.refl w) _) _⟩
theorem zjh (q0:0≤q) (q1:q≤65535) (b0 : -9223372036854775808≤high) (b1:high≤9223372036854775807) (c0 : -9223372036854775808≤jump) (c1:jump≤9223372036854775807) (on:Bool) (g:0≤high) (h:281474976710656<high):Calls Tryz.prog 60 #[.agg #[.bool on, .int .i64 high, .int .i64 jump], .int .u16 q] w fun e w'=>e = .returned (.tuple #[.agg #[.bool false, .int .i64 0, .int .i64 0], .int .i64 0, .bool false])∧Bel w w':=by
 go_enter Tryz.func60,Tryz.ntmps60
 go_wp2_with fail
 exact bodyPost_ret (v := .tuple #[.agg #[.bool false, .int .i64 0, .int .i64 0], .int .i64 0, .bool false]) (zax Tryz.results60 rfl (run_loadVar_row (P:=Tryz.prog) _ _ _ _ _ _ _ (Blk.new1 w _ _ _) Tryz.underlying39 rfl (by kernel_rfl)) rfl rfl) rfl ⟨rfl,Bel.push (Bel.push (Bel.refl w) _) _⟩
theorem zji (q0:0≤q) (q1:q≤65535) (b0 : -9223372036854775808≤high) (b1:high≤9223372036854775807) (c0 : -9223372036854775808≤jump) (c1:jump≤9223372036854775807) (on:Bool) (g:0≤high) (g2:high≤281474976710656) (h:jump < -1):Calls Tryz.prog 60 #[.agg #[.bool on, .int .i64 high, .int .i64 jump], .int .u16 q] w fun e w'=>e = .returned (.tuple #[.agg #[.bool false, .int .i64 0, .int .i64 0], .int .i64 0, .bool false])∧Bel w w':=by
 go_enter Tryz.func60,Tryz.ntmps60
 go_wp2_with fail
 exact bodyPost_ret (v := .tuple #[.agg #[.bool false, .int .i64 0, .int .i64 0], .int .i64 0, .bool false]) (zax Tryz.results60 rfl (run_loadVar_row (P:=Tryz.prog) _ _ _ _ _ _ _ (Blk.new1 w _ _ _) Tryz.underlying39 rfl (by kernel_rfl)) rfl rfl) rfl ⟨rfl,Bel.push (Bel.push (Bel.refl w) _) _⟩
theorem zjj (q0:0≤q) (q1:q≤65535) (b0 : -9223372036854775808≤high) (b1:high≤9223372036854775807) (c0 : -9223372036854775808≤jump) (c1:jump≤9223372036854775807) (on:Bool) (g:0≤high) (g2:high≤281474976710656) (g3 : -1≤jump) (h:65535<jump):Calls Tryz.prog 60 #[.agg #[.bool on, .int .i64 high, .int .i64 jump], .int .u16 q] w fun e w'=>e = .returned (.tuple #[.agg #[.bool false, .int .i64 0, .int .i64 0], .int .i64 0, .bool false])∧Bel w w':=by
 go_enter Tryz.func60,Tryz.ntmps60
 go_wp2_with fail
 exact bodyPost_ret (v := .tuple #[.agg #[.bool false, .int .i64 0, .int .i64 0], .int .i64 0, .bool false]) (zax Tryz.results60 rfl (run_loadVar_row (P:=Tryz.prog) _ _ _ _ _ _ _ (Blk.new1 w _ _ _) Tryz.underlying39 rfl (by kernel_rfl)) rfl rfl) rfl ⟨rfl,Bel.push (Bel.push (Bel.refl w) _) _⟩
theorem zmj (q0:0≤q) (q1:q≤65535) (b0 : -9223372036854775808≤high) (b1:high≤9223372036854775807) (c0 : -9223372036854775808≤jump) (c1:jump≤9223372036854775807) (g:0≤high) (g2:high≤281474976710656) (g3 : -1≤jump) (g4:jump≤65535):Calls Tryz.prog 60 #[.agg #[.bool false, .int .i64 high, .int .i64 jump], .int .u16 q] w fun e w'=>e = .returned (.tuple #[.agg #[.bool true, .int .i64 q, .int .i64 (-1)], .int .i64 q, .bool true])∧Bel w w':=by
 go_enter Tryz.func60,Tryz.ntmps60
 go_wp2_with fail
 exact bodyPost_ret (v := .tuple #[.agg #[.bool true, .int .i64 q, .int .i64 (-1)], .int .i64 q, .bool true]) (zax Tryz.results60 rfl (run_loadVar_row (P:=Tryz.prog) _ _ _ _ _ _ _ (Blk.new1 w _ _ _) Tryz.underlying39 rfl (by kernel_rfl)) rfl rfl) rfl ⟨rfl,Bel.push (Bel.push (Bel.refl w) _) _⟩
theorem zpg (q0:0≤q) (q1:q≤65535) (b0 : -9223372036854775808≤high) (b1:high≤9223372036854775807) (c0 : -9223372036854775808≤jump) (c1:jump≤9223372036854775807) (g:0≤high) (g2:high≤281474976710656) (g3 : -1≤jump) (g4:jump≤65535) (h1:0≤Pk.near high q 65536) (h2:Pk.near high q 65536≤high+3000) (h3:high-100≤Pk.near high q 65536):Calls Tryz.prog 60 #[.agg #[.bool true, .int .i64 high, .int .i64 jump], .int .u16 q] w fun e w'=>e = .returned (.tuple #[.agg #[.bool true, .int .i64 (max high (Pk.near high q 65536)), .int .i64 (-1)], .int .i64 (Pk.near high q 65536), .bool true])∧Bel w w':=by
 have k1:=fun W=>zgc high q W q0 q1 b0 b1
 obtain ⟨n,hn⟩:∃ n,n=Pk.near high q 65536:=⟨_,rfl⟩
 simp only [← hn]
 rw [← hn] at k1 h1 h2 h3
 have hnb:=Pk.near_bd16 high q (by omega)
 rw [← hn] at hnb
 obtain ⟨n0,n1,_⟩:=hnb
 have n2:n≤281474976800000:=by omega
 have n3 : -40000≤n:=by omega
 have hv1:=zcq (high+3000) (by omega) (by omega)
 have hv2:=zcq (high-100) (by omega) (by omega)
 have K1:=Z9 k1
 clear k1 n0 n1 hn
 go_enter Tryz.func60,Tryz.ntmps60
 go_wp2_with fail
 refine (K1.out _).mono ?_
 rintro e w1 ⟨rfl,rfl⟩
 go_wp2_with fail
 exact bodyPost_ret (v := .tuple #[.agg #[.bool true, .int .i64 (max high n), .int .i64 (-1)], .int .i64 n, .bool true]) (zax Tryz.results60 rfl (run_loadVar_row (P:=Tryz.prog) _ _ _ _ _ _ _ (Blk.new1 w _ _ _) Tryz.underlying39 rfl (by kernel_rfl)) rfl rfl) rfl ⟨rfl,Bel.push (Bel.push (Bel.refl w) _) _⟩
end
theorem zjk {high jump q:Int} {w:World} {R:Ending→World→Prop} (b0 : -9223372036854775808≤high) (b1:high≤9223372036854775807) (q0:0≤q) (q1:q≤65535) (g:0≤high) (g2:high≤281474976710656) (g3 : -1≤jump) (g4:jump≤65535) (hnn:¬(0≤Pk.near high q 65536∧Pk.near high q 65536≤high+3000∧high-100≤Pk.near high q 65536)) (hR1:(q=jump∧high<140737488355328)→∀ (e:Ending) (w':World),e = .returned (.tuple #[.agg #[.bool true, .int .i64 (high+Pk.gap high q), .int .i64 (-1)], .int .i64 (high+Pk.gap high q), .bool true])∧Below w.heap.size w w'→R e w') (hR2:¬(q=jump∧high<140737488355328)→∀ (e:Ending) (w':World),e = .returned (.tuple #[.agg #[.bool true, .int .i64 high, .int .i64 ((q+1) % 65536)], .int .i64 0, .bool false])∧Below w.heap.size w w'→R e w'):Calls Tryz.prog 60 #[.agg #[.bool true, .int .i64 high, .int .i64 jump], .int .u16 q] w R:=by
 have HRA:=Z9 hR1
 have HRB:=Z9 hR2
 clear hR1 hR2
 have k1:=fun W=>zgc high q W q0 q1 b0 b1
 obtain ⟨n,hn⟩:∃ n,n=Pk.near high q 65536:=⟨_,rfl⟩
 rw [← hn] at k1 hnn
 have hnb:=Pk.near_bd16 high q (by omega)
 rw [← hn] at hnb
 obtain ⟨n0,n1,_⟩:=hnb
 have n2:n≤281474976800000:=by omega
 have n3 : -40000≤n:=by omega
 have hv1:=zcq (high+3000) (by omega) (by omega)
 have hv2:=zcq (high-100) (by omega) (by omega)
 have K1:=Z9 k1
 clear k1 n0 n1 hn
 have h3:n<0∨(0≤n∧high+3000<n)∨(0≤n∧n≤high+3000∧n<high-100):=by omega
 clear hnn
 go_enter Tryz.func60,Tryz.ntmps60
 go_wp2_with fail
 refine (K1.out _).mono ?_
 rintro e w1 ⟨rfl,rfl⟩
 rcases h3 with h1|⟨h1,h2⟩|⟨h1,h2,h3⟩
 all_goals
  go_upto_region 10 with fail
  by_cases hc:q=jump∧high<140737488355328
  · have HR:=Z9 (HRA.out hc)
    obtain ⟨hj,hh⟩:=hc
    have ej:(q==jump)=true:=by rw [beq_iff_eq];exact hj
    obtain ⟨d,hd⟩:∃ d,d=(q-high) % 65536:=⟨_,rfl⟩
    have hmk:=zgb (q-high)
    rw [← hd] at hmk
    have d0:0≤d:=by omega
    have d1:d≤65535:=by omega
    have hg:Pk.gap high q=if d=0 then 65536 else d:=by rw [hd];rfl
    rw [hg] at HR
    clear hd hj hg HRA HRB
    by_cases hd0:d=0
    · rw [if_pos hd0] at HR
      have e0:(d==0)=true:=by rw [beq_iff_eq];exact hd0
      clear hd0
      go_wp2_with fail
      go_region
      go_wp2_with fail
      exact bodyPost_ret (v := .tuple #[.agg #[.bool true, .int .i64 (high+65536), .int .i64 (-1)], .int .i64 (high+65536), .bool true]) (zax Tryz.results60 rfl (run_loadVar_row (P:=Tryz.prog) _ _ _ _ _ _ _ (Blk.new1 w _ _ _).drew Tryz.underlying39 rfl (by kernel_rfl)) rfl rfl) rfl (HR.out _ _ ⟨rfl,Bel.drew (((Bel.refl w).push _).push _)⟩)
    · rw [if_neg hd0] at HR
      have e0:(d==0)=false:=by rw [beq_eq_false_iff_ne];exact hd0
      clear hd0
      go_wp2_with fail
      go_region
      go_wp2_with fail
      exact bodyPost_ret (v := .tuple #[.agg #[.bool true, .int .i64 (high+d), .int .i64 (-1)], .int .i64 (high+d), .bool true]) (zax Tryz.results60 rfl (run_loadVar_row (P:=Tryz.prog) _ _ _ _ _ _ _ (Blk.new1 w _ _ _).drew Tryz.underlying39 rfl (by kernel_rfl)) rfl rfl) rfl (HR.out _ _ ⟨rfl,Bel.drew (((Bel.refl w).push _).push _)⟩)
  · have HR:=Z9 (HRB.out hc)
    have hw:IntKind.u16.wrap (q+1)=(q+1) % 65536:=zkn _
    clear HRA HRB
    by_cases hq:q=jump
    · have hh:¬high<140737488355328:=fun h=>hc ⟨hq,h⟩
      have ej:(q==jump)=true:=by rw [beq_iff_eq];exact hq
      clear hq hc
      go_wp2_with fail
      exact bodyPost_ret (v := .tuple #[.agg #[.bool true, .int .i64 high, .int .i64 ((q+1) % 65536)], .int .i64 0, .bool false]) (zax Tryz.results60 rfl (run_loadVar_row (P:=Tryz.prog) _ _ _ _ _ _ _ (Blk.new1 w _ _ _) Tryz.underlying39 rfl (by kernel_rfl)) rfl rfl) rfl (HR.out _ _ ⟨rfl,(((Bel.refl w).push _).push _)⟩)
    · have ej:(q==jump)=false:=by rw [beq_eq_false_iff_ne];exact hq
      clear hq hc
      go_wp2_with fail
      exact bodyPost_ret (v := .tuple #[.agg #[.bool true, .int .i64 high, .int .i64 ((q+1) % 65536)], .int .i64 0, .bool false]) (zax Tryz.results60 rfl (run_loadVar_row (P:=Tryz.prog) _ _ _ _ _ _ _ (Blk.new1 w _ _ _) Tryz.underlying39 rfl (by kernel_rfl)) rfl rfl) rfl (HR.out _ _ ⟨rfl,(((Bel.refl w).push _).push _)⟩)
section
variable (high jump q:Int) (w:World)
end
section
variable (on:Bool) (high jump q:Int) (w:World)
theorem zmk (q0:0≤q) (q1:q≤65535) (b0 : -9223372036854775808≤high) (b1:high≤9223372036854775807) (c0 : -9223372036854775808≤jump) (c1:jump≤9223372036854775807):Calls Tryz.prog 60 #[.agg #[.bool on, .int .i64 high, .int .i64 jump], .int .u16 q] w fun e w'=>e = .returned (.tuple #[.agg (Pk.follow ⟨on,high,jump⟩ q).1.row.toArray, .int .i64 (Pk.follow ⟨on,high,jump⟩ q).2.1, .bool (Pk.follow ⟨on,high,jump⟩ q).2.2])∧Bel w w':=by
 unfold Pk.follow
 by_cases hok:Pk.Tr.ok ⟨on,high,jump⟩
 rotate_left
 · rw [if_pos hok]
   have hn:¬(0≤high∧high≤281474976710656 ∧ -1≤jump∧jump≤65535):=hok
   by_cases h1:high<0
   · exact zjg high jump q w q0 q1 b0 b1 c0 c1 on h1
   by_cases h2:281474976710656<high
   · exact zjh high jump q w q0 q1 b0 b1 c0 c1 on (by omega) h2
   by_cases h3:jump < -1
   · exact zji high jump q w q0 q1 b0 b1 c0 c1 on (by omega) (by omega) h3
   · exact zjj high jump q w q0 q1 b0 b1 c0 c1 on (by omega) (by omega) (by omega) (by omega)
 rw [if_neg (fun h=>h hok)]
 obtain ⟨g,g2,g3,g4⟩:0≤high∧high≤281474976710656 ∧ -1≤jump∧jump≤65535:=hok
 cases on
 · rw [if_pos rfl]
   exact zmj high jump q w q0 q1 b0 b1 c0 c1 g g2 g3 g4
 rw [if_neg (by simp)]
 by_cases hin:0≤Pk.near high q 65536∧Pk.near high q 65536≤high+3000∧high-100≤Pk.near high q 65536
 · rw [if_pos hin]
   exact zpg high jump q w q0 q1 b0 b1 c0 c1 g g2 g3 g4 hin.1 hin.2.1 hin.2.2
 rw [if_neg hin]
 refine zjk b0 b1 q0 q1 g g2 g3 g4 hin (fun hj e w' h => ?_) (fun hj e w' h => ?_)
 · rw [if_pos hj]
   exact h
 · rw [if_neg hj]
   exact h
end
theorem zxe {w W:World} {p:Sb.Pt} {A:Option Addr} {l:List TW} {n c:Nat} {x:Rx} {now:Int} (C:RC w p A l n c x now) (S:RS w W p A n c x) {R:Ending→World→Prop} {gt:Nat} {TC:Array Value} (BT:Blk W gt 157 TC) (hgt:w.heap.size<gt) (F:Pk.Tr) (fn:Int) (ok:Bool) (hF:Pk.follow p.tk x.sq=(F,fn,ok)) (hk0 : -9223372036854775808≤p.tk.high) (hk1:p.tk.high≤9223372036854775807) (hk2 : -9223372036854775808≤p.tk.jump) (hk3:p.tk.jump≤9223372036854775807)
 (h:∀ (W:World) (a:Act),RS w W { p with tk:=F } A n c x→Blk W gt 157 TC→FrU w.heap.size now gt p.tk.on fn ok a→firstWp Tryz.prog rcS_code (bodyPost Tryz.prog Tryz.f26 R) a W) (a:Act) (ha:FrB w.heap.size now gt true a):firstWp Tryz.prog rcB_code (bodyPost Tryz.prog Tryz.f26 R) a W:=by
 obtain ⟨s,rfl,e1,e3,e5,e6,e11,e12,_⟩:=ha
 rw [r164,e1,e3,e5,e6,e11,e12]
 clear e1 e3 e5 e6 e11 e12
 have k3:∀ W,Calls Tryz.prog 60 #[.agg #[.bool p.tk.on, .int .i64 p.tk.high, .int .i64 p.tk.jump], .int .u16 x.sq] W fun e w'=>e = .returned (.tuple #[.agg #[.bool F.on, .int .i64 F.high, .int .i64 F.jump], .int .i64 fn, .bool ok])∧Bel W w':=fun W=>by
  have h:=zmk p.tk.on p.tk.high p.tk.jump x.sq W C.q0 C.q1 hk0 hk1 hk2 hk3
  have e:(⟨p.tk.on,p.tk.high,p.tk.jump⟩:Pk.Tr)=p.tk:=rfl
  rw [e,hF] at h
  exact h
 replace k3:=Z9 k3
 replace BT:=Z9 BT
 clear hF
 have x2:=S.c2
 have x28:=S.b0.tk.1
 refine zas ?_
 intro _ _ _ _
 go_upto_region 14 with fail
 go_wp2_with (first|(refine zae rfl 39 (.tmp 71) rfl (w.heap.size) 28 rfl 45 (PL p A n c) S.b0 3 _ Tryz.underlying39 zgo (show 28+3≤48 by decide) (#[.bool p.tk.on, .int .i64 p.tk.high, .int .i64 p.tk.jump]) (by rfl) rfl ?_)|fail)
 refine (k3.out _).mono ?_
 rintro e w4 ⟨rfl,hb1⟩
 replace S:=S.later hb1
 replace BT:=Z9 (BT.out.later hb1)
 clear hb1 k3 x2 x28
 have BK:=Z9 (Blk.new w4 39 #[.bool F.on, .int .i64 F.high, .int .i64 F.jump])
 obtain ⟨g3,hg3⟩:∃ g,g=w4.heap.size:=⟨_,rfl⟩
 replace S:=S.push (.cells #[.bool F.on, .int .i64 F.high, .int .i64 F.jump] 39)
 replace BT:=Z9 (BT.out.push (.cells #[.bool F.on, .int .i64 F.high, .int .i64 F.jump] 39))
 obtain ⟨W5,hW5⟩:∃ W,W=w4.alloc (Obj.cells #[.bool F.on, .int .i64 F.high, .int .i64 F.jump] 39):=⟨_,rfl⟩
 rw [← hg3,← hW5] at BK
 go_upto_region 15 with fail
 rw [← hg3]
 rw [← hW5] at S BT ⊢
 clear hW5 hg3
 go_upto_region 16 with (first|(refine zae rfl 39 (.tmp 14) rfl (g3) 0 rfl 39 ([.bool F.on, .int .i64 F.high, .int .i64 F.jump]) BK.out 3 _ Tryz.underlying39 zgo (show 0+3≤3 by decide) (#[.bool F.on, .int .i64 F.high, .int .i64 F.jump]) (by rfl) rfl ?_)|(refine zaf rfl 39 (.tmp 80) (.tmp 79) rfl (w.heap.size) 28 rfl 45 (PL p A n c) S.b0 ([.bool F.on, .int .i64 F.high, .int .i64 F.jump]) rfl zgo (show 28+3≤48 by decide) rfl (PL { p with tk:=F } A n c) rfl ?_;intro WF BF OF)|fail)
 replace S:=S.over OF BF
 replace BT:=Z9 (OF.blk BT.out (by omega))
 clear BF OF BK
 refine zbh (by assumption) (by assumption) ?_
 exact h _ _ S BT.out FrU.mk
theorem zxf {w W:World} {p:Sb.Pt} {A:Option Addr} {l:List TW} {n c:Nat} {x:Rx} {now:Int} (C:RC w p A l n c x now) (S:RS w W p A n c x) {R:Ending→World→Prop} {gt:Nat} {on:Bool} {fn:Int}
 (h:∀ (a:Act),FrC w.heap.size now gt on fn a→firstWp Tryz.prog rcC_code (bodyPost Tryz.prog Tryz.f26 R) a W) (a:Act) (ha:FrU w.heap.size now gt on fn true a):firstWp Tryz.prog rcS_code (bodyPost Tryz.prog Tryz.f26 R) a W:=by
 obtain ⟨s,rfl,e1,e3,e5,e6,e11,e13,e15,e16,_⟩:=ha
 rw [r164,e1,e3,e5,e6,e11,e13,e15,e16]
 clear e1 e3 e5 e6 e11 e13 e15 e16
 refine zas ?_
 intro _ _ _ _
 go_upto_region 18 with fail
 refine zbh (by assumption) (by assumption) ?_
 exact h _ FrC.mk
end Go.Proofs.YtbcgnddpkiemoaaGreat
namespace Go.Proofs.YtbcgnddpkiemoaaGreat
open Go.RowKit
theorem zhc {a b:Bool} (h:a=b):Ending.returned (.bool a) = .returned (.bool b):=by rw [h]
section
variable (lo hi:Int) (A:Option Addr) (xs:List Int) (c n:Nat) (w:World)
theorem zdp (hn:xs.length=n) (hA:IntsAt w w.heap.size .i64 A xs) (hl:n≤100) :
 Calls Tryz.prog 120 #[.int .i64 lo, .int .i64 hi, .slice A n c] w fun e w'=>e = .returned (.bool (Rep.all lo hi xs))∧w=w':=by
 subst hn
 have HA:=Z9 hA
 clear hA
 go_enter Tryz.func120,Tryz.ntmps120
 go_wp2
 go_loop [11] (fun i => ∃ k:Nat,k≤xs.length∧i = .int .i64 k∧Hid (Rep.all lo hi (xs.take k)=true)) (fun i=>xs.length-(intOf i).toNat)
 case atStart=>exact ⟨0,Nat.zero_le _,rfl,Z9 rfl⟩
 case round =>
  obtain ⟨k,hk,rfl,HK⟩:=hrel
  by_cases hlt:k<xs.length
  · obtain ⟨b,off,rfl,hbB,qc⟩:=HA.out (by omega)
    have hc:=qc k hlt
    have hst:=Rep.all_take lo hi xs k hlt
    rw [HK.out,Bool.true_and] at hst
    have HS:=Z9 hst
    have HF:=Z9 (Rep.all_false lo hi xs k hlt)
    clear qc hst
    have hi0:(0:Int)≤(k:Int):=by omega
    have hi1:(k:Int)<(xs.length:Int):=by omega
    generalize xs.getD k 0=x at *
    by_cases h1:x<lo
    · have t1:decide (x<lo)=true:=by simpa using h1
      have HB:=Z9 (HF.out (by simp [Rep.inB];omega))
      go_wp2
      go_ret
      exact ⟨zhc HB.out.symm,rfl⟩
    · have t1:decide (x<lo)=false:=by simpa using h1
      by_cases h2:hi<x
      · have t2:decide (hi<x)=true:=by simpa using h2
        have HB:=Z9 (HF.out (by simp [Rep.inB];omega))
        go_wp2
        go_ret
        exact ⟨zhc HB.out.symm,rfl⟩
      · have t2:decide (hi<x)=false:=by simpa using h2
        have hin:Rep.inB lo hi x=true:=by rw [Rep.inB_iff];omega
        have HI:=Z9 hin
        clear hin
        go_wp2
        go_round
        case rel=>exact ⟨k+1,by omega,by go_num,Z9 (by rw [HS.out,HI.out])⟩
        case measure=>simp [intOf];omega
  · obtain rfl:k=xs.length:=by omega
    have hf:=HK.out
    rw [List.take_length] at hf
    have HF:=Z9 hf
    clear hf
    go_wp2
    go_ret
    exact ⟨zhc HF.out.symm,rfl⟩
end
section
variable (x y z:Int) (w:World)
theorem zfd:Calls Tryz.prog 91 #[.int .i64 x] w fun e w'=>e = .returned (.bool (Rep.small x))∧w=w':=by
 have h:Rep.small x=(decide (-281474976710656≤x)&&decide (x≤281474976710656)):=rfl
 rw [h]
 cases h1:decide (-281474976710656≤x)<;>cases h2:decide (x≤281474976710656)
 all_goals
  clear h
  go_enter Tryz.func91,Tryz.ntmps91
  go_wp2
  go_ret
  exact ⟨rfl,rfl⟩
end
theorem IntsAt.new_at (w:World) (e:TypeId) (k:IntKind) (zs:List Int) (cs:List Value) (h:cs=zs.map (Value.int k)) (g:Nat) (hg:w.heap.size=g):IntsAt (w.alloc (.cells cs.toArray e)) (w.alloc (.cells cs.toArray e)).heap.size k (some ⟨g,0,none⟩) zs:=by
 subst hg
 exact IntsAt.new w e k zs cs h
section
variable (s0:Bool) (sb sh sr sx sy st sj:Int) (w:World)
theorem Rep.okS_bd (h:Rep.okS ⟨s0,sb,sh,sr,sx,sy,st,sj⟩=true) : -1125899906842624≤sb∧sb≤1125899906842624 ∧ -1125899906842624≤sh∧sh≤1125899906842624 ∧ -1125899906842624≤st∧st≤1125899906842624∧sb≤sh∧0≤sr∧sr≤1125899906842624∧0≤sx∧sx≤1125899906842624∧0≤sy∧sy≤1125899906842624∧0≤sj∧sj≤72057594037927936:=by
 rw [Rep.okS_iff] at h
 simp only at h
 omega
theorem zph:Calls Tryz.prog 82 #[.agg #[.bool s0, .int .i64 sb, .int .i64 sh, .int .i64 sr, .int .i64 sx, .int .i64 sy, .int .i64 st, .int .i64 sj]] w fun e w'=>e = .returned (.bool (Rep.okS ⟨s0,sb,sh,sr,sx,sy,st,sj⟩))∧Below w.heap.size w w':=by
 have h:Rep.okS ⟨s0,sb,sh,sr,sx,sy,st,sj⟩=(Rep.all (-1125899906842624) 1125899906842624 [sb,sh,st]&&decide (sb≤sh)&&Rep.all 0 1125899906842624 [sr,sx,sy]&&Rep.all 0 72057594037927936 [sj]):=rfl
 rw [h]
 clear h
 have k1:=fun A c W h=>zdp (-1125899906842624) 1125899906842624 A [sb,sh,st] c 3 W rfl h (by omega)
 have k2:=fun A c W h=>zdp 0 1125899906842624 A [sr,sx,sy] c 3 W rfl h (by omega)
 have k3:=fun A c W h=>zdp 0 72057594037927936 A [sj] c 1 W rfl h (by omega)
 generalize Rep.all (-1125899906842624) 1125899906842624 [sb,sh,st]=b1 at *
 generalize Rep.all 0 1125899906842624 [sr,sx,sy]=b3 at *
 generalize Rep.all 0 72057594037927936 [sj]=b4 at *
 have K1:=Z9 k1
 have K2:=Z9 k2
 have K3:=Z9 k3
 clear k1 k2 k3
 cases b1
 · go_enter Tryz.func82,Tryz.ntmps82
   go_wp2_with fail
   refine (K1.out _ _ _ (IntsAt.new_at (w.alloc (.cells #[.bool s0, .int .i64 sb, .int .i64 sh, .int .i64 sr, .int .i64 sx, .int .i64 sy, .int .i64 st, .int .i64 sj] 41)) 2 .i64 [sb,sh,st] [.int .i64 sb, .int .i64 sh, .int .i64 st] rfl _ (by rw [zar]))).mono ?_
   rintro e w1 ⟨rfl,rfl⟩
   go_wp2
   go_ret
   exact ⟨rfl,Bel.push (Bel.push (Bel.refl w) _) _⟩
 · cases hb:decide (sb≤sh)
   · go_enter Tryz.func82,Tryz.ntmps82
     go_wp2_with fail
     refine (K1.out _ _ _ (IntsAt.new_at (w.alloc (.cells #[.bool s0, .int .i64 sb, .int .i64 sh, .int .i64 sr, .int .i64 sx, .int .i64 sy, .int .i64 st, .int .i64 sj] 41)) 2 .i64 [sb,sh,st] [.int .i64 sb, .int .i64 sh, .int .i64 st] rfl _ (by rw [zar]))).mono ?_
     rintro e w1 ⟨rfl,rfl⟩
     go_wp2
     go_ret
     exact ⟨rfl,Bel.push (Bel.push (Bel.refl w) _) _⟩
   · cases b3
     · go_enter Tryz.func82,Tryz.ntmps82
       go_wp2_with fail
       refine (K1.out _ _ _ (IntsAt.new_at (w.alloc (.cells #[.bool s0, .int .i64 sb, .int .i64 sh, .int .i64 sr, .int .i64 sx, .int .i64 sy, .int .i64 st, .int .i64 sj] 41)) 2 .i64 [sb,sh,st] [.int .i64 sb, .int .i64 sh, .int .i64 st] rfl _ (by rw [zar]))).mono ?_
       rintro e w1 ⟨rfl,rfl⟩
       go_wp2_with fail
       refine (K2.out _ _ _ (IntsAt.new_at ((w.alloc (.cells #[.bool s0, .int .i64 sb, .int .i64 sh, .int .i64 sr, .int .i64 sx, .int .i64 sy, .int .i64 st, .int .i64 sj] 41)).alloc (.cells #[.int .i64 sb, .int .i64 sh, .int .i64 st] 2)) 2 .i64 [sr,sx,sy] [.int .i64 sr, .int .i64 sx, .int .i64 sy] rfl _ (by rw [zcc]))).mono ?_
       rintro e w1 ⟨rfl,rfl⟩
       go_wp2
       go_ret
       exact ⟨rfl,Bel.push (Bel.push (Bel.push (Bel.refl w) _) _) _⟩
     · go_enter Tryz.func82,Tryz.ntmps82
       go_wp2_with fail
       refine (K1.out _ _ _ (IntsAt.new_at (w.alloc (.cells #[.bool s0, .int .i64 sb, .int .i64 sh, .int .i64 sr, .int .i64 sx, .int .i64 sy, .int .i64 st, .int .i64 sj] 41)) 2 .i64 [sb,sh,st] [.int .i64 sb, .int .i64 sh, .int .i64 st] rfl _ (by rw [zar]))).mono ?_
       rintro e w1 ⟨rfl,rfl⟩
       go_wp2_with fail
       refine (K2.out _ _ _ (IntsAt.new_at ((w.alloc (.cells #[.bool s0, .int .i64 sb, .int .i64 sh, .int .i64 sr, .int .i64 sx, .int .i64 sy, .int .i64 st, .int .i64 sj] 41)).alloc (.cells #[.int .i64 sb, .int .i64 sh, .int .i64 st] 2)) 2 .i64 [sr,sx,sy] [.int .i64 sr, .int .i64 sx, .int .i64 sy] rfl _ (by rw [zcc]))).mono ?_
       rintro e w1 ⟨rfl,rfl⟩
       go_wp2_with fail
       refine (K3.out _ _ _ (IntsAt.new_at (((w.alloc (.cells #[.bool s0, .int .i64 sb, .int .i64 sh, .int .i64 sr, .int .i64 sx, .int .i64 sy, .int .i64 st, .int .i64 sj] 41)).alloc (.cells #[.int .i64 sb, .int .i64 sh, .int .i64 st] 2)).alloc (.cells #[.int .i64 sr, .int .i64 sx, .int .i64 sy] 2)) 2 .i64 [sj] [.int .i64 sj] rfl _ (by rw [zin]))).mono ?_
       rintro e w1 ⟨rfl,rfl⟩
       go_wp2
       go_ret
       exact ⟨rfl,Bel.push (Bel.push (Bel.push (Bel.push (Bel.refl w) _) _) _) _⟩
end
end Go.Proofs.YtbcgnddpkiemoaaGreat
