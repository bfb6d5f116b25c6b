/- The top of layer 32: the regions of VoiceMixes that make ports. -/
import Derived.Test.YtbcgnddpkiemoaaGreatSs9Q
import Derived.Test.YtbcgnddpkiemoaaGreatVmHop2Q
import Derived.Test.YtbcgnddpkiemoaaGreatJtCopyQ
import Derived.Test.YtbcgnddpkiemoaaGreatRepArrQ
import Derived.Test.YtbcgnddpkiemoaaGreatJtPnQ
import Derived.Test.YtbcgnddpkiemoaaGreatCaRc2Q
import Derived.Test.YtbcgnddpkiemoaaGreatVoFunQ
import Derived.Test.YtbcgnddpkiemoaaGreatSbSend0Q
set_option linter.unusedVariables false
set_option linter.unusedSimpArgs false
set_option maxRecDepth 100000
set_option maxHeartbeats 12800000
namespace Go.Proofs.YtbcgnddpkiemoaaGreat
attribute [local go_sem ↓] zab zac
attribute [local go_sem] zaa zad
open Go.RowKit
noncomputable def vr7_code:Code:=((Tryz.f3.body.bind (findRegS 7)).getD .skip)
theorem zwi {s0 s1 s2 s4 s5 s6 s7 s8 s9 s10 s11 s14 s15 s16 s17 s18 s19 s20 s21 s22 s23 s24 s25 s26 s27 s28 s29 s30 s31 s32 s33 s34 s35 s36 s37 s38 s39 s40 s41 s42 s43 s44 s45 s46 s47 s48 s49 s50 s51 s52 s53 s54 s55 s56 s57 s58 s59 s60 s61 s62 s63 s64 s65 s66 s67 s68 s69 s70 s71 s72 s73 s74 s75 s76 s77 s78 s79 s80 s81 s82 s83 s84 s85 s86 s87 s88 s89 s90 s91 s92 s93 s94 s95 s96 s97 s98 s99 s100 s101 s102 s103 s104 s105 s106 s107 s108 s109 s110 s111 s112 s113 s114 s115 s116 s117 s118 s119 s120 s121 s122 s123 s124 s125 s126 s127 s128 s129 s130 s131 s132 s133 s134 s135 s136 s137 s138 s139 s140 s141 s142 s143 s144 s145 s146 s147 s148 s149 s150 s151 s152 s153 s154 s155 s156 s157 s158 s159 s160 s161 s162 s163 s164 s165 s166 s167 s168 s169 s170 s171 s172 s173 s174 s175 s176 s177 s178 s179 s180 s181 s182 s183 s184 s185 s186 s187 s188 s189 s190 s191 s192 s193 s194 s195 s196 s197 s198 s199 s200 s201 s202 s203 s204 s205 s206 s207 s208 s209 s210 s211 s212 s213 s214 s215 s216 s217 s218 s219 s220 s221 s222 s223 s224 s225 s226 s227 s228 s229 s230 s231 s232 s233 s234 s235 s236 s237 s238 s239 s240 s241 s242 s243 s244 s245 s246 s247 s248 s249 s250 s251 s252 s253 s254 s255 s256:Value} {Q:Exit→Act→World→Prop} (gC gcf k:Nat) (hk0:(0:Int)≤(k:Int)) (hk4:(k:Int)<4) (hkw:IntKind.u32.wrap (k:Int)=(k:Int)) (x c:Int) (q:Sb.Pt) (W:World) (xl:W.cell? ⟨gC,k,none⟩=some (.int .u8 x)) (x1:W.cell? ⟨gcf,0,none⟩=some (.int .i64 20)) (x2:W.cell? ⟨gcf,1,none⟩=some (.int .i64 200)) (kC:∀ V:World,Calls Tryz.prog 6 #[.int .u8 x] V fun e w'=>e = .returned (.int .u8 c)∧Below V.heap.size V w') (kN:∀ V:World,Calls Tryz.prog 5 #[.int .u8 c, .int .u32 (k:Int), .agg #[.int .i64 20, .int .i64 200]] V fun e w'=>e = .returned (.tuple #[.agg (PA q none 0 0), .int .u8 0])∧Below V.heap.size V w') (hQp:∀ (ch:_) (a:Act) (d:Tmp) (u:Value) (w:World),Q (.panic ch) (a.put (some d) u) w→Q (.panic ch) a w)
 (h:∀ (wx:World) (g3:Nat) (u47 u48 u49 u50 u51 u52 u53 u54 u55 u56 u57:Value),Hid (PB wx g3 q none 0 0)→W.heap.size≤g3→Hid (Below W.heap.size W wx)→Q .normal ⟨#[s0,s1,s2, .pointer (some ⟨gC,0,none⟩),s4,s5,s6,s7,s8,s9,s10,s11, .pointer (some ⟨gcf,0,none⟩), .int .i64 (k:Int), .pointer (some ⟨g3,0,none⟩), .int .u8 0,s16,s17,s18,s19,s20,s21,s22,s23,s24,s25,s26,s27,s28,s29,s30,s31,s32,s33,s34,s35,s36,s37,s38,s39,s40,s41,s42,s43,s44,s45,s46,u47,u48,u49,u50,u51,u52,u53,u54,u55,u56,u57,s58,s59,s60,s61,s62,s63,s64,s65,s66,s67,s68,s69,s70,s71,s72,s73,s74,s75,s76,s77,s78,s79,s80,s81,s82,s83,s84,s85,s86,s87,s88,s89,s90,s91,s92,s93,s94,s95,s96,s97,s98,s99,s100,s101,s102,s103,s104,s105,s106,s107,s108,s109,s110,s111,s112,s113,s114,s115,s116,s117,s118,s119,s120,s121,s122,s123,s124,s125,s126,s127,s128,s129,s130,s131,s132,s133,s134,s135,s136,s137,s138,s139,s140,s141,s142,s143,s144,s145,s146,s147,s148,s149,s150,s151,s152,s153,s154,s155,s156,s157,s158,s159,s160,s161,s162,s163,s164,s165,s166,s167,s168,s169,s170,s171,s172,s173,s174,s175,s176,s177,s178,s179,s180,s181,s182,s183,s184,s185,s186,s187,s188,s189,s190,s191,s192,s193,s194,s195,s196,s197,s198,s199,s200,s201,s202,s203,s204,s205,s206,s207,s208,s209,s210,s211,s212,s213,s214,s215,s216,s217,s218,s219,s220,s221,s222,s223,s224,s225,s226,s227,s228,s229,s230,s231,s232,s233,s234,s235,s236,s237,s238,s239,s240,s241,s242,s243,s244,s245,s246,s247,s248,s249,s250,s251,s252,s253,s254,s255,s256],[]⟩ wx):vr7_code.wp Tryz.prog Q ⟨#[s0,s1,s2, .pointer (some ⟨gC,0,none⟩),s4,s5,s6,s7,s8,s9,s10,s11, .pointer (some ⟨gcf,0,none⟩), .int .i64 (k:Int),s14,s15,s16,s17,s18,s19,s20,s21,s22,s23,s24,s25,s26,s27,s28,s29,s30,s31,s32,s33,s34,s35,s36,s37,s38,s39,s40,s41,s42,s43,s44,s45,s46,s47,s48,s49,s50,s51,s52,s53,s54,s55,s56,s57,s58,s59,s60,s61,s62,s63,s64,s65,s66,s67,s68,s69,s70,s71,s72,s73,s74,s75,s76,s77,s78,s79,s80,s81,s82,s83,s84,s85,s86,s87,s88,s89,s90,s91,s92,s93,s94,s95,s96,s97,s98,s99,s100,s101,s102,s103,s104,s105,s106,s107,s108,s109,s110,s111,s112,s113,s114,s115,s116,s117,s118,s119,s120,s121,s122,s123,s124,s125,s126,s127,s128,s129,s130,s131,s132,s133,s134,s135,s136,s137,s138,s139,s140,s141,s142,s143,s144,s145,s146,s147,s148,s149,s150,s151,s152,s153,s154,s155,s156,s157,s158,s159,s160,s161,s162,s163,s164,s165,s166,s167,s168,s169,s170,s171,s172,s173,s174,s175,s176,s177,s178,s179,s180,s181,s182,s183,s184,s185,s186,s187,s188,s189,s190,s191,s192,s193,s194,s195,s196,s197,s198,s199,s200,s201,s202,s203,s204,s205,s206,s207,s208,s209,s210,s211,s212,s213,s214,s215,s216,s217,s218,s219,s220,s221,s222,s223,s224,s225,s226,s227,s228,s229,s230,s231,s232,s233,s234,s235,s236,s237,s238,s239,s240,s241,s242,s243,s244,s245,s246,s247,s248,s249,s250,s251,s252,s253,s254,s255,s256],[]⟩ W:=by
 replace kC:=Z9 kC
 replace kN:=Z9 kN
 have hq:=Z9 h
 clear h
 conv=>arg 2;whnf
 refine wp_region_held_drew (S:=fun w'=>Below W.heap.size W w') (by kernel_rfl) (Below.drew (Below.refl _ _)) (fun qH => ?_)
 obtain ⟨X,hX⟩:∃ X,X=W.drew:=⟨_,rfl⟩
 rw [← hX] at qH ⊢
 clear hX
 refine tk1 (i:=0) (v:=?_) rfl (Or.inl ⟨by rfl,?_⟩) qH ?_ (hQ:=q9 hQp)
 rotate_left
 · (intro w hSw;clear hSw;go_simp;try with_reducible rfl)
 try simp only [ss9]
 refine tk1 (i:=1) (v:=?_) rfl (Or.inl ⟨by rfl,?_⟩) qH ?_ (hQ:=q9 hQp)
 rotate_left
 · (intro w hSw;clear hSw;go_simp;try with_reducible rfl)
 try simp only [ss9]
 refine tk1 (i:=2) (v:=?_) rfl (Or.inl ⟨by rfl,?_⟩) qH ?_ (hQ:=q9 hQp)
 rotate_left
 · (intro w hSw;have c0:=zag hSw xl;clear hSw;go_simp;try with_reducible rfl)
 try simp only [ss9]
 refine tk1 (i:=4) (v:=?_) rfl (Or.inl ⟨by rfl,?_⟩) qH ?_ (hQ:=q9 hQp)
 rotate_left
 · (intro w hSw;clear hSw;go_simp;try with_reducible rfl)
 try simp only [ss9]
 refine tk1 (i:=5) (v:=?_) rfl (Or.inl ⟨by rfl,?_⟩) qH ?_ (hQ:=q9 hQp)
 rotate_left
 · (intro w hSw;clear hSw;go_simp;try with_reducible rfl)
 try simp only [ss9]
 refine tk1 (i:=6) (v:=?_) rfl (Or.inl ⟨by rfl,?_⟩) qH ?_ (hQ:=q9 hQp)
 rotate_left
 · (intro w hSw;have c1:=zag hSw x1;have c2:=zag hSw x2;clear hSw;go_simp;try with_reducible rfl)
 try simp only [ss9]
 all_goals try
  fail_if_success (have hx:=HD)
  refine wpAnyH_ready (rs:=[3,11]) (by kernel_rfl) (by simp) ?_
  refine AllReadyH.cons (o:=_) rfl (fun K hK => ?_) (AllReadyH.cons (o:=_) rfl (fun K hK => ?_) AllReadyH.nil)
  rotate_left
  go_simp
  have HD:Hid (Blk (X.alloc (Obj.cells #[.int .u8 0, .int .u32 0, .int .u16 0, .int .u32 0, .bool false, .int .i64 0, .int .i64 0, .int .i64 0, .bool false, .int .u8 0, .int .u8 0, .int .u32 0, .int .i64 0, .int .i64 0, .int .i64 0, .int .i64 0, .int .i64 0, .bool false, .int .i64 0, .int .i64 0, .int .i64 0, .int .i64 0, .int .i64 0, .int .i64 0, .slice none 0 0, .int .i64 0, .int .i64 0, .int .i64 0, .bool false, .int .i64 0, .int .i64 0, .int .i64 0, .bool false, .int .i64 0, .int .i64 0, .int .i64 0, .int .i64 0, .int .i64 0, .int .i64 0, .int .i64 0, .bool false, .int .u32 0, .int .u8 0, .int .i64 0, .bool false, .int .u32 0, .int .u32 0, .int .u32 0] 45)) X.heap.size 45 (PL Sb.Pt.zero none 0 0).toArray):=Z9 (Blk.new _ _ _)
  have hg8:W.heap.size≤X.heap.size:=qH.size
  obtain ⟨g8,hgg⟩:∃ g,g=X.heap.size:=⟨_,rfl⟩
  refine hK.out _ _ ?_ (fun qH => ?_)
  · exact zah qH _
  clear hK K
  try simp only [ss9]
  rw [← hgg] at HD hg8 ⊢
  have HGG:=Z9 hgg
  clear hgg
  obtain ⟨Y,hY⟩:∃ V,V=X.alloc (Obj.cells #[.int .u8 0, .int .u32 0, .int .u16 0, .int .u32 0, .bool false, .int .i64 0, .int .i64 0, .int .i64 0, .bool false, .int .u8 0, .int .u8 0, .int .u32 0, .int .i64 0, .int .i64 0, .int .i64 0, .int .i64 0, .int .i64 0, .bool false, .int .i64 0, .int .i64 0, .int .i64 0, .int .i64 0, .int .i64 0, .int .i64 0, .slice none 0 0, .int .i64 0, .int .i64 0, .int .i64 0, .bool false, .int .i64 0, .int .i64 0, .int .i64 0, .bool false, .int .i64 0, .int .i64 0, .int .i64 0, .int .i64 0, .int .i64 0, .int .i64 0, .int .i64 0, .bool false, .int .u32 0, .int .u8 0, .int .i64 0, .bool false, .int .u32 0, .int .u32 0, .int .u32 0] 45):=⟨_,rfl⟩
  rw [← hY] at HD qH ⊢
  clear hY
  obtain ⟨X,hX⟩:∃ X,X=Y:=⟨_,rfl⟩
  subst hX
 all_goals try
  refine wpAnyH_ready (rs:=[3]) (by kernel_rfl) (by simp) ?_
  refine AllReadyH.cons (o:=_) rfl (fun K hK => ?_) AllReadyH.nil
 all_goals
  go_simp
  try have HCS:=Z9 HD.out.lt
  refine (kC.out _).mono ?_
  rintro e X ⟨rfl,hb1⟩
  try replace HD:=Z9 (HD.out.later hb1)
  refine hK.out _ _ ?_ (fun qH => ?_)
  · exact zak hb1 qH
  clear hK K hb1
  try simp only [ss9]
 all_goals try
  fail_if_success (have hx:=HD)
  refine wpAnyH_ready (rs:=[7,11]) (by kernel_rfl) (by simp) ?_
  refine AllReadyH.cons (o:=_) rfl (fun K hK => ?_) (AllReadyH.cons (o:=_) rfl (fun K hK => ?_) AllReadyH.nil)
  rotate_left
  go_simp
  have HD:Hid (Blk (X.alloc (Obj.cells #[.int .u8 0, .int .u32 0, .int .u16 0, .int .u32 0, .bool false, .int .i64 0, .int .i64 0, .int .i64 0, .bool false, .int .u8 0, .int .u8 0, .int .u32 0, .int .i64 0, .int .i64 0, .int .i64 0, .int .i64 0, .int .i64 0, .bool false, .int .i64 0, .int .i64 0, .int .i64 0, .int .i64 0, .int .i64 0, .int .i64 0, .slice none 0 0, .int .i64 0, .int .i64 0, .int .i64 0, .bool false, .int .i64 0, .int .i64 0, .int .i64 0, .bool false, .int .i64 0, .int .i64 0, .int .i64 0, .int .i64 0, .int .i64 0, .int .i64 0, .int .i64 0, .bool false, .int .u32 0, .int .u8 0, .int .i64 0, .bool false, .int .u32 0, .int .u32 0, .int .u32 0] 45)) X.heap.size 45 (PL Sb.Pt.zero none 0 0).toArray):=Z9 (Blk.new _ _ _)
  have hg8:W.heap.size≤X.heap.size:=qH.size
  obtain ⟨g8,hgg⟩:∃ g,g=X.heap.size:=⟨_,rfl⟩
  refine hK.out _ _ ?_ (fun qH => ?_)
  · exact zah qH _
  clear hK K
  try simp only [ss9]
  rw [← hgg] at HD hg8 ⊢
  have HGG:=Z9 hgg
  clear hgg
  obtain ⟨Y,hY⟩:∃ V,V=X.alloc (Obj.cells #[.int .u8 0, .int .u32 0, .int .u16 0, .int .u32 0, .bool false, .int .i64 0, .int .i64 0, .int .i64 0, .bool false, .int .u8 0, .int .u8 0, .int .u32 0, .int .i64 0, .int .i64 0, .int .i64 0, .int .i64 0, .int .i64 0, .bool false, .int .i64 0, .int .i64 0, .int .i64 0, .int .i64 0, .int .i64 0, .int .i64 0, .slice none 0 0, .int .i64 0, .int .i64 0, .int .i64 0, .bool false, .int .i64 0, .int .i64 0, .int .i64 0, .bool false, .int .i64 0, .int .i64 0, .int .i64 0, .int .i64 0, .int .i64 0, .int .i64 0, .int .i64 0, .bool false, .int .u32 0, .int .u8 0, .int .i64 0, .bool false, .int .u32 0, .int .u32 0, .int .u32 0] 45):=⟨_,rfl⟩
  rw [← hY] at HD qH ⊢
  clear hY
  obtain ⟨X,hX⟩:∃ X,X=Y:=⟨_,rfl⟩
  subst hX
 all_goals try
  refine wpAnyH_ready (rs:=[7]) (by kernel_rfl) (by simp) ?_
  refine AllReadyH.cons (o:=_) rfl (fun K hK => ?_) AllReadyH.nil
 all_goals
  go_simp
  try have HCS:=Z9 HD.out.lt
  refine (kN.out _).mono ?_
  rintro e X ⟨rfl,hb2⟩
  try replace HD:=Z9 (HD.out.later hb2)
  refine hK.out _ _ ?_ (fun qH => ?_)
  · exact zak hb2 qH
  clear hK K hb2
  try simp only [ss9]
 all_goals
  refine tk1 (i:=8) (v:=?_) rfl (Or.inl ⟨by rfl,?_⟩) qH ?_ (hQ:=q9 hQp)
  rotate_left
  · (intro w hSw;clear hSw;go_simp;try with_reducible rfl)
  try simp only [ss9]
  refine tk1 (i:=9) (v:=?_) rfl (Or.inl ⟨by rfl,?_⟩) qH ?_ (hQ:=q9 hQp)
  rotate_left
  · (intro w hSw;clear hSw;go_simp;try with_reducible rfl)
  try simp only [ss9]
  refine tk1 (i:=10) (v:=?_) rfl (Or.inl ⟨by rfl,?_⟩) qH ?_ (hQ:=q9 hQp)
  rotate_left
  · (intro w hSw;clear hSw;go_simp;try with_reducible rfl)
  try simp only [ss9]
 all_goals try
  fail_if_success (have hx:=HD)
  refine wpAnyH_ready (rs:=[11]) (by kernel_rfl) (by simp) ?_
  refine AllReadyH.cons (o:=_) rfl (fun K hK => ?_) AllReadyH.nil
  go_simp
  have HD:Hid (Blk (X.alloc (Obj.cells #[.int .u8 0, .int .u32 0, .int .u16 0, .int .u32 0, .bool false, .int .i64 0, .int .i64 0, .int .i64 0, .bool false, .int .u8 0, .int .u8 0, .int .u32 0, .int .i64 0, .int .i64 0, .int .i64 0, .int .i64 0, .int .i64 0, .bool false, .int .i64 0, .int .i64 0, .int .i64 0, .int .i64 0, .int .i64 0, .int .i64 0, .slice none 0 0, .int .i64 0, .int .i64 0, .int .i64 0, .bool false, .int .i64 0, .int .i64 0, .int .i64 0, .bool false, .int .i64 0, .int .i64 0, .int .i64 0, .int .i64 0, .int .i64 0, .int .i64 0, .int .i64 0, .bool false, .int .u32 0, .int .u8 0, .int .i64 0, .bool false, .int .u32 0, .int .u32 0, .int .u32 0] 45)) X.heap.size 45 (PL Sb.Pt.zero none 0 0).toArray):=Z9 (Blk.new _ _ _)
  have hg8:W.heap.size≤X.heap.size:=qH.size
  obtain ⟨g8,hgg⟩:∃ g,g=X.heap.size:=⟨_,rfl⟩
  refine hK.out _ _ ?_ (fun qH => ?_)
  · exact zah qH _
  clear hK K
  try simp only [ss9]
  rw [← hgg] at HD hg8 ⊢
  have HGG:=Z9 hgg
  clear hgg
  obtain ⟨Y,hY⟩:∃ V,V=X.alloc (Obj.cells #[.int .u8 0, .int .u32 0, .int .u16 0, .int .u32 0, .bool false, .int .i64 0, .int .i64 0, .int .i64 0, .bool false, .int .u8 0, .int .u8 0, .int .u32 0, .int .i64 0, .int .i64 0, .int .i64 0, .int .i64 0, .int .i64 0, .bool false, .int .i64 0, .int .i64 0, .int .i64 0, .int .i64 0, .int .i64 0, .int .i64 0, .slice none 0 0, .int .i64 0, .int .i64 0, .int .i64 0, .bool false, .int .i64 0, .int .i64 0, .int .i64 0, .bool false, .int .i64 0, .int .i64 0, .int .i64 0, .int .i64 0, .int .i64 0, .int .i64 0, .int .i64 0, .bool false, .int .u32 0, .int .u8 0, .int .i64 0, .bool false, .int .u32 0, .int .u32 0, .int .u32 0] 45):=⟨_,rfl⟩
  rw [← hY] at HD qH ⊢
  clear hY
  obtain ⟨X,hX⟩:∃ X,X=Y:=⟨_,rfl⟩
  subst hX
 all_goals
  refine wpAnyH_ready (rs:=[12]) (by kernel_rfl) (by simp) ?_
  refine AllReadyH.cons (o:=_) rfl (fun K hK => ?_) AllReadyH.nil
  refine zal rfl 45 (.tmp 14) (.tmp 56) rfl g8 0 rfl 45 _ HD.out (PL q none 0 0) rfl zai (Nat.le_refl 48) rfl (PL q none 0 0) rfl ?_
  intro WF BF OF
  have HF:=OF.bel (show Bel W X from qH) hg8
  refine hK.out _ _ HF (fun qH => ?_)
  clear hK K
  try simp only [ss9]
  refine tk1 (i:=13) (v:=?_) rfl (Or.inl ⟨by rfl,?_⟩) qH ?_ (hQ:=q9 hQp)
  rotate_left
  · (intro w hSw;clear hSw;go_simp;try with_reducible rfl)
  try simp only [ss9]
  refine wpAnyH_done (by kernel_rfl) ?_ _
  exact hq.out WF g8 _ _ _ _ _ _ _ _ _ _ _ (Z9 BF) hg8 (Z9 HF)
noncomputable def vr8_code:Code:=((Tryz.f3.body.bind (findRegS 8)).getD .skip)
theorem zwj {s0 s1 s2 s4 s5 s6 s7 s8 s9 s10 s11 s14 s15 s16 s17 s18 s19 s20 s21 s22 s23 s24 s25 s26 s27 s28 s29 s30 s31 s32 s33 s34 s35 s36 s37 s38 s39 s40 s41 s42 s43 s44 s45 s46 s47 s48 s49 s50 s51 s52 s53 s54 s55 s56 s57 s58 s59 s60 s61 s62 s63 s64 s65 s66 s67 s68 s69 s70 s71 s72 s73 s74 s75 s76 s77 s78 s79 s80 s81 s82 s83 s84 s85 s86 s87 s88 s89 s90 s91 s92 s93 s94 s95 s96 s97 s98 s99 s100 s101 s102 s103 s104 s105 s106 s107 s108 s109 s110 s111 s112 s113 s114 s115 s116 s117 s118 s119 s120 s121 s122 s123 s124 s125 s126 s127 s128 s129 s130 s131 s132 s133 s134 s135 s136 s137 s138 s139 s140 s141 s142 s143 s144 s145 s146 s147 s148 s149 s150 s151 s152 s153 s154 s155 s156 s157 s158 s159 s160 s161 s162 s163 s164 s165 s166 s167 s168 s169 s170 s171 s172 s173 s174 s175 s176 s177 s178 s179 s180 s181 s182 s183 s184 s185 s186 s187 s188 s189 s190 s191 s192 s193 s194 s195 s196 s197 s198 s199 s200 s201 s202 s203 s204 s205 s206 s207 s208 s209 s210 s211 s212 s213 s214 s215 s216 s217 s218 s219 s220 s221 s222 s223 s224 s225 s226 s227 s228 s229 s230 s231 s232 s233 s234 s235 s236 s237 s238 s239 s240 s241 s242 s243 s244 s245 s246 s247 s248 s249 s250 s251 s252 s253 s254 s255 s256:Value} {Q:Exit→Act→World→Prop} (gC gcf k:Nat) (hk0:(0:Int)≤(k:Int)) (hk4:(k:Int)<4) (hkw:IntKind.u32.wrap (k:Int)=(k:Int)) (x c:Int) (q:Sb.Pt) (W:World) (xl:W.cell? ⟨gC,k,none⟩=some (.int .u8 x)) (x1:W.cell? ⟨gcf,0,none⟩=some (.int .i64 20)) (x2:W.cell? ⟨gcf,1,none⟩=some (.int .i64 200)) (kC:∀ V:World,Calls Tryz.prog 6 #[.int .u8 x] V fun e w'=>e = .returned (.int .u8 c)∧Below V.heap.size V w') (kN:∀ V:World,Calls Tryz.prog 5 #[.int .u8 c, .int .u32 (k:Int), .agg #[.int .i64 20, .int .i64 200]] V fun e w'=>e = .returned (.tuple #[.agg (PA q none 0 0), .int .u8 0])∧Below V.heap.size V w') (hQp:∀ (ch:_) (a:Act) (d:Tmp) (u:Value) (w:World),Q (.panic ch) (a.put (some d) u) w→Q (.panic ch) a w)
 (h:∀ (wx:World) (g3:Nat) (u58 u59 u60 u61 u62 u63 u64 u65 u66 u67 u68:Value),Hid (PB wx g3 q none 0 0)→W.heap.size≤g3→Hid (Below W.heap.size W wx)→Q .normal ⟨#[s0,s1,s2, .pointer (some ⟨gC,0,none⟩),s4,s5,s6,s7,s8,s9,s10,s11, .pointer (some ⟨gcf,0,none⟩), .int .i64 (k:Int),s14,s15, .pointer (some ⟨g3,0,none⟩), .int .u8 0,s18,s19,s20,s21,s22,s23,s24,s25,s26,s27,s28,s29,s30,s31,s32,s33,s34,s35,s36,s37,s38,s39,s40,s41,s42,s43,s44,s45,s46,s47,s48,s49,s50,s51,s52,s53,s54,s55,s56,s57,u58,u59,u60,u61,u62,u63,u64,u65,u66,u67,u68,s69,s70,s71,s72,s73,s74,s75,s76,s77,s78,s79,s80,s81,s82,s83,s84,s85,s86,s87,s88,s89,s90,s91,s92,s93,s94,s95,s96,s97,s98,s99,s100,s101,s102,s103,s104,s105,s106,s107,s108,s109,s110,s111,s112,s113,s114,s115,s116,s117,s118,s119,s120,s121,s122,s123,s124,s125,s126,s127,s128,s129,s130,s131,s132,s133,s134,s135,s136,s137,s138,s139,s140,s141,s142,s143,s144,s145,s146,s147,s148,s149,s150,s151,s152,s153,s154,s155,s156,s157,s158,s159,s160,s161,s162,s163,s164,s165,s166,s167,s168,s169,s170,s171,s172,s173,s174,s175,s176,s177,s178,s179,s180,s181,s182,s183,s184,s185,s186,s187,s188,s189,s190,s191,s192,s193,s194,s195,s196,s197,s198,s199,s200,s201,s202,s203,s204,s205,s206,s207,s208,s209,s210,s211,s212,s213,s214,s215,s216,s217,s218,s219,s220,s221,s222,s223,s224,s225,s226,s227,s228,s229,s230,s231,s232,s233,s234,s235,s236,s237,s238,s239,s240,s241,s242,s243,s244,s245,s246,s247,s248,s249,s250,s251,s252,s253,s254,s255,s256],[]⟩ wx):vr8_code.wp Tryz.prog Q ⟨#[s0,s1,s2, .pointer (some ⟨gC,0,none⟩),s4,s5,s6,s7,s8,s9,s10,s11, .pointer (some ⟨gcf,0,none⟩), .int .i64 (k:Int),s14,s15,s16,s17,s18,s19,s20,s21,s22,s23,s24,s25,s26,s27,s28,s29,s30,s31,s32,s33,s34,s35,s36,s37,s38,s39,s40,s41,s42,s43,s44,s45,s46,s47,s48,s49,s50,s51,s52,s53,s54,s55,s56,s57,s58,s59,s60,s61,s62,s63,s64,s65,s66,s67,s68,s69,s70,s71,s72,s73,s74,s75,s76,s77,s78,s79,s80,s81,s82,s83,s84,s85,s86,s87,s88,s89,s90,s91,s92,s93,s94,s95,s96,s97,s98,s99,s100,s101,s102,s103,s104,s105,s106,s107,s108,s109,s110,s111,s112,s113,s114,s115,s116,s117,s118,s119,s120,s121,s122,s123,s124,s125,s126,s127,s128,s129,s130,s131,s132,s133,s134,s135,s136,s137,s138,s139,s140,s141,s142,s143,s144,s145,s146,s147,s148,s149,s150,s151,s152,s153,s154,s155,s156,s157,s158,s159,s160,s161,s162,s163,s164,s165,s166,s167,s168,s169,s170,s171,s172,s173,s174,s175,s176,s177,s178,s179,s180,s181,s182,s183,s184,s185,s186,s187,s188,s189,s190,s191,s192,s193,s194,s195,s196,s197,s198,s199,s200,s201,s202,s203,s204,s205,s206,s207,s208,s209,s210,s211,s212,s213,s214,s215,s216,s217,s218,s219,s220,s221,s222,s223,s224,s225,s226,s227,s228,s229,s230,s231,s232,s233,s234,s235,s236,s237,s238,s239,s240,s241,s242,s243,s244,s245,s246,s247,s248,s249,s250,s251,s252,s253,s254,s255,s256],[]⟩ W:=by
 replace kC:=Z9 kC
 replace kN:=Z9 kN
 have hq:=Z9 h
 clear h
 conv=>arg 2;whnf
 refine wp_region_held_drew (S:=fun w'=>Below W.heap.size W w') (by kernel_rfl) (Below.drew (Below.refl _ _)) (fun qH => ?_)
 obtain ⟨X,hX⟩:∃ X,X=W.drew:=⟨_,rfl⟩
 rw [← hX] at qH ⊢
 clear hX
 refine tk1 (i:=0) (v:=?_) rfl (Or.inl ⟨by rfl,?_⟩) qH ?_ (hQ:=q9 hQp)
 rotate_left
 · (intro w hSw;clear hSw;go_simp;try with_reducible rfl)
 try simp only [ss9]
 refine tk1 (i:=1) (v:=?_) rfl (Or.inl ⟨by rfl,?_⟩) qH ?_ (hQ:=q9 hQp)
 rotate_left
 · (intro w hSw;clear hSw;go_simp;try with_reducible rfl)
 try simp only [ss9]
 refine tk1 (i:=2) (v:=?_) rfl (Or.inl ⟨by rfl,?_⟩) qH ?_ (hQ:=q9 hQp)
 rotate_left
 · (intro w hSw;have c0:=zag hSw xl;clear hSw;go_simp;try with_reducible rfl)
 try simp only [ss9]
 refine tk1 (i:=4) (v:=?_) rfl (Or.inl ⟨by rfl,?_⟩) qH ?_ (hQ:=q9 hQp)
 rotate_left
 · (intro w hSw;clear hSw;go_simp;try with_reducible rfl)
 try simp only [ss9]
 refine tk1 (i:=5) (v:=?_) rfl (Or.inl ⟨by rfl,?_⟩) qH ?_ (hQ:=q9 hQp)
 rotate_left
 · (intro w hSw;clear hSw;go_simp;try with_reducible rfl)
 try simp only [ss9]
 refine tk1 (i:=6) (v:=?_) rfl (Or.inl ⟨by rfl,?_⟩) qH ?_ (hQ:=q9 hQp)
 rotate_left
 · (intro w hSw;have c1:=zag hSw x1;have c2:=zag hSw x2;clear hSw;go_simp;try with_reducible rfl)
 try simp only [ss9]
 all_goals try
  fail_if_success (have hx:=HD)
  refine wpAnyH_ready (rs:=[3,11]) (by kernel_rfl) (by simp) ?_
  refine AllReadyH.cons (o:=_) rfl (fun K hK => ?_) (AllReadyH.cons (o:=_) rfl (fun K hK => ?_) AllReadyH.nil)
  rotate_left
  go_simp
  have HD:Hid (Blk (X.alloc (Obj.cells #[.int .u8 0, .int .u32 0, .int .u16 0, .int .u32 0, .bool false, .int .i64 0, .int .i64 0, .int .i64 0, .bool false, .int .u8 0, .int .u8 0, .int .u32 0, .int .i64 0, .int .i64 0, .int .i64 0, .int .i64 0, .int .i64 0, .bool false, .int .i64 0, .int .i64 0, .int .i64 0, .int .i64 0, .int .i64 0, .int .i64 0, .slice none 0 0, .int .i64 0, .int .i64 0, .int .i64 0, .bool false, .int .i64 0, .int .i64 0, .int .i64 0, .bool false, .int .i64 0, .int .i64 0, .int .i64 0, .int .i64 0, .int .i64 0, .int .i64 0, .int .i64 0, .bool false, .int .u32 0, .int .u8 0, .int .i64 0, .bool false, .int .u32 0, .int .u32 0, .int .u32 0] 45)) X.heap.size 45 (PL Sb.Pt.zero none 0 0).toArray):=Z9 (Blk.new _ _ _)
  have hg8:W.heap.size≤X.heap.size:=qH.size
  obtain ⟨g8,hgg⟩:∃ g,g=X.heap.size:=⟨_,rfl⟩
  refine hK.out _ _ ?_ (fun qH => ?_)
  · exact zah qH _
  clear hK K
  try simp only [ss9]
  rw [← hgg] at HD hg8 ⊢
  have HGG:=Z9 hgg
  clear hgg
  obtain ⟨Y,hY⟩:∃ V,V=X.alloc (Obj.cells #[.int .u8 0, .int .u32 0, .int .u16 0, .int .u32 0, .bool false, .int .i64 0, .int .i64 0, .int .i64 0, .bool false, .int .u8 0, .int .u8 0, .int .u32 0, .int .i64 0, .int .i64 0, .int .i64 0, .int .i64 0, .int .i64 0, .bool false, .int .i64 0, .int .i64 0, .int .i64 0, .int .i64 0, .int .i64 0, .int .i64 0, .slice none 0 0, .int .i64 0, .int .i64 0, .int .i64 0, .bool false, .int .i64 0, .int .i64 0, .int .i64 0, .bool false, .int .i64 0, .int .i64 0, .int .i64 0, .int .i64 0, .int .i64 0, .int .i64 0, .int .i64 0, .bool false, .int .u32 0, .int .u8 0, .int .i64 0, .bool false, .int .u32 0, .int .u32 0, .int .u32 0] 45):=⟨_,rfl⟩
  rw [← hY] at HD qH ⊢
  clear hY
  obtain ⟨X,hX⟩:∃ X,X=Y:=⟨_,rfl⟩
  subst hX
 all_goals try
  refine wpAnyH_ready (rs:=[3]) (by kernel_rfl) (by simp) ?_
  refine AllReadyH.cons (o:=_) rfl (fun K hK => ?_) AllReadyH.nil
 all_goals
  go_simp
  try have HCS:=Z9 HD.out.lt
  refine (kC.out _).mono ?_
  rintro e X ⟨rfl,hb1⟩
  try replace HD:=Z9 (HD.out.later hb1)
  refine hK.out _ _ ?_ (fun qH => ?_)
  · exact zak hb1 qH
  clear hK K hb1
  try simp only [ss9]
 all_goals try
  fail_if_success (have hx:=HD)
  refine wpAnyH_ready (rs:=[7,11]) (by kernel_rfl) (by simp) ?_
  refine AllReadyH.cons (o:=_) rfl (fun K hK => ?_) (AllReadyH.cons (o:=_) rfl (fun K hK => ?_) AllReadyH.nil)
  rotate_left
  go_simp
  have HD:Hid (Blk (X.alloc (Obj.cells #[.int .u8 0, .int .u32 0, .int .u16 0, .int .u32 0, .bool false, .int .i64 0, .int .i64 0, .int .i64 0, .bool false, .int .u8 0, .int .u8 0, .int .u32 0, .int .i64 0, .int .i64 0, .int .i64 0, .int .i64 0, .int .i64 0, .bool false, .int .i64 0, .int .i64 0, .int .i64 0, .int .i64 0, .int .i64 0, .int .i64 0, .slice none 0 0, .int .i64 0, .int .i64 0, .int .i64 0, .bool false, .int .i64 0, .int .i64 0, .int .i64 0, .bool false, .int .i64 0, .int .i64 0, .int .i64 0, .int .i64 0, .int .i64 0, .int .i64 0, .int .i64 0, .bool false, .int .u32 0, .int .u8 0, .int .i64 0, .bool false, .int .u32 0, .int .u32 0, .int .u32 0] 45)) X.heap.size 45 (PL Sb.Pt.zero none 0 0).toArray):=Z9 (Blk.new _ _ _)
  have hg8:W.heap.size≤X.heap.size:=qH.size
  obtain ⟨g8,hgg⟩:∃ g,g=X.heap.size:=⟨_,rfl⟩
  refine hK.out _ _ ?_ (fun qH => ?_)
  · exact zah qH _
  clear hK K
  try simp only [ss9]
  rw [← hgg] at HD hg8 ⊢
  have HGG:=Z9 hgg
  clear hgg
  obtain ⟨Y,hY⟩:∃ V,V=X.alloc (Obj.cells #[.int .u8 0, .int .u32 0, .int .u16 0, .int .u32 0, .bool false, .int .i64 0, .int .i64 0, .int .i64 0, .bool false, .int .u8 0, .int .u8 0, .int .u32 0, .int .i64 0, .int .i64 0, .int .i64 0, .int .i64 0, .int .i64 0, .bool false, .int .i64 0, .int .i64 0, .int .i64 0, .int .i64 0, .int .i64 0, .int .i64 0, .slice none 0 0, .int .i64 0, .int .i64 0, .int .i64 0, .bool false, .int .i64 0, .int .i64 0, .int .i64 0, .bool false, .int .i64 0, .int .i64 0, .int .i64 0, .int .i64 0, .int .i64 0, .int .i64 0, .int .i64 0, .bool false, .int .u32 0, .int .u8 0, .int .i64 0, .bool false, .int .u32 0, .int .u32 0, .int .u32 0] 45):=⟨_,rfl⟩
  rw [← hY] at HD qH ⊢
  clear hY
  obtain ⟨X,hX⟩:∃ X,X=Y:=⟨_,rfl⟩
  subst hX
 all_goals try
  refine wpAnyH_ready (rs:=[7]) (by kernel_rfl) (by simp) ?_
  refine AllReadyH.cons (o:=_) rfl (fun K hK => ?_) AllReadyH.nil
 all_goals
  go_simp
  try have HCS:=Z9 HD.out.lt
  refine (kN.out _).mono ?_
  rintro e X ⟨rfl,hb2⟩
  try replace HD:=Z9 (HD.out.later hb2)
  refine hK.out _ _ ?_ (fun qH => ?_)
  · exact zak hb2 qH
  clear hK K hb2
  try simp only [ss9]
 all_goals
  refine tk1 (i:=8) (v:=?_) rfl (Or.inl ⟨by rfl,?_⟩) qH ?_ (hQ:=q9 hQp)
  rotate_left
  · (intro w hSw;clear hSw;go_simp;try with_reducible rfl)
  try simp only [ss9]
  refine tk1 (i:=9) (v:=?_) rfl (Or.inl ⟨by rfl,?_⟩) qH ?_ (hQ:=q9 hQp)
  rotate_left
  · (intro w hSw;clear hSw;go_simp;try with_reducible rfl)
  try simp only [ss9]
  refine tk1 (i:=10) (v:=?_) rfl (Or.inl ⟨by rfl,?_⟩) qH ?_ (hQ:=q9 hQp)
  rotate_left
  · (intro w hSw;clear hSw;go_simp;try with_reducible rfl)
  try simp only [ss9]
 all_goals try
  fail_if_success (have hx:=HD)
  refine wpAnyH_ready (rs:=[11]) (by kernel_rfl) (by simp) ?_
  refine AllReadyH.cons (o:=_) rfl (fun K hK => ?_) AllReadyH.nil
  go_simp
  have HD:Hid (Blk (X.alloc (Obj.cells #[.int .u8 0, .int .u32 0, .int .u16 0, .int .u32 0, .bool false, .int .i64 0, .int .i64 0, .int .i64 0, .bool false, .int .u8 0, .int .u8 0, .int .u32 0, .int .i64 0, .int .i64 0, .int .i64 0, .int .i64 0, .int .i64 0, .bool false, .int .i64 0, .int .i64 0, .int .i64 0, .int .i64 0, .int .i64 0, .int .i64 0, .slice none 0 0, .int .i64 0, .int .i64 0, .int .i64 0, .bool false, .int .i64 0, .int .i64 0, .int .i64 0, .bool false, .int .i64 0, .int .i64 0, .int .i64 0, .int .i64 0, .int .i64 0, .int .i64 0, .int .i64 0, .bool false, .int .u32 0, .int .u8 0, .int .i64 0, .bool false, .int .u32 0, .int .u32 0, .int .u32 0] 45)) X.heap.size 45 (PL Sb.Pt.zero none 0 0).toArray):=Z9 (Blk.new _ _ _)
  have hg8:W.heap.size≤X.heap.size:=qH.size
  obtain ⟨g8,hgg⟩:∃ g,g=X.heap.size:=⟨_,rfl⟩
  refine hK.out _ _ ?_ (fun qH => ?_)
  · exact zah qH _
  clear hK K
  try simp only [ss9]
  rw [← hgg] at HD hg8 ⊢
  have HGG:=Z9 hgg
  clear hgg
  obtain ⟨Y,hY⟩:∃ V,V=X.alloc (Obj.cells #[.int .u8 0, .int .u32 0, .int .u16 0, .int .u32 0, .bool false, .int .i64 0, .int .i64 0, .int .i64 0, .bool false, .int .u8 0, .int .u8 0, .int .u32 0, .int .i64 0, .int .i64 0, .int .i64 0, .int .i64 0, .int .i64 0, .bool false, .int .i64 0, .int .i64 0, .int .i64 0, .int .i64 0, .int .i64 0, .int .i64 0, .slice none 0 0, .int .i64 0, .int .i64 0, .int .i64 0, .bool false, .int .i64 0, .int .i64 0, .int .i64 0, .bool false, .int .i64 0, .int .i64 0, .int .i64 0, .int .i64 0, .int .i64 0, .int .i64 0, .int .i64 0, .bool false, .int .u32 0, .int .u8 0, .int .i64 0, .bool false, .int .u32 0, .int .u32 0, .int .u32 0] 45):=⟨_,rfl⟩
  rw [← hY] at HD qH ⊢
  clear hY
  obtain ⟨X,hX⟩:∃ X,X=Y:=⟨_,rfl⟩
  subst hX
 all_goals
  refine wpAnyH_ready (rs:=[12]) (by kernel_rfl) (by simp) ?_
  refine AllReadyH.cons (o:=_) rfl (fun K hK => ?_) AllReadyH.nil
  refine zal rfl 45 (.tmp 16) (.tmp 67) rfl g8 0 rfl 45 _ HD.out (PL q none 0 0) rfl zai (Nat.le_refl 48) rfl (PL q none 0 0) rfl ?_
  intro WF BF OF
  have HF:=OF.bel (show Bel W X from qH) hg8
  refine hK.out _ _ HF (fun qH => ?_)
  clear hK K
  try simp only [ss9]
  refine tk1 (i:=13) (v:=?_) rfl (Or.inl ⟨by rfl,?_⟩) qH ?_ (hQ:=q9 hQp)
  rotate_left
  · (intro w hSw;clear hSw;go_simp;try with_reducible rfl)
  try simp only [ss9]
  refine wpAnyH_done (by kernel_rfl) ?_ _
  exact hq.out WF g8 _ _ _ _ _ _ _ _ _ _ _ (Z9 BF) hg8 (Z9 HF)
noncomputable def vr11_code:Code:=((Tryz.f3.body.bind (findRegS 11)).getD .skip)
theorem zug {s0 s1 s2 s3 s4 s5 s6 s7 s12 s15 s17 s18 s19 s20 s21 s22 s23 s24 s25 s26 s27 s28 s29 s30 s31 s32 s33 s34 s35 s36 s37 s38 s39 s40 s41 s42 s43 s44 s45 s46 s47 s48 s49 s50 s51 s52 s53 s54 s55 s56 s57 s58 s59 s60 s61 s62 s63 s64 s65 s66 s67 s68 s69 s70 s71 s72 s73 s74 s75 s76 s77 s78 s79 s80 s81 s82 s83 s84 s85 s86 s87 s88 s89 s90 s91 s92 s93 s94 s95 s96 s97 s98 s99 s100 s101 s102 s103 s104 s105 s106 s107 s108 s109 s110 s111 s112 s113 s114 s115 s116 s117 s118 s119 s120 s121 s122 s123 s124 s125 s126 s127 s128 s129 s130 s131 s132 s133 s134 s135 s136 s137 s138 s139 s140 s141 s142 s143 s144 s145 s146 s147 s148 s149 s150 s151 s152 s153 s154 s155 s156 s157 s158 s159 s160 s161 s162 s163 s164 s165 s166 s167 s168 s169 s170 s171 s172 s173 s174 s175 s176 s177 s178 s179 s180 s181 s182 s183 s184 s185 s186 s187 s188 s189 s190 s191 s192 s193 s194 s195 s196 s197 s198 s199 s200 s201 s202 s203 s204 s205 s206 s207 s208 s209 s210 s211 s212 s213 s214 s215 s216 s217 s218 s219 s220 s221 s222 s223 s224 s225 s226 s227 s228 s229 s230 s231 s232 s233 s234 s235 s236 s237 s238 s239 s240 s241 s242 s243 s244 s245 s246 s247 s248 s249 s250 s251 s252 s253 s254 s255 s256:Value} {Q:Exit→Act→World→Prop} {W:World} {ga gb gm gi go ge k:Nat} {pa pb:Sb.Pt} {fm fi fo fe:Nat→PQ} (hk4:k<4) (Ba:Blk W ga 45 (PL pa none 0 0).toArray) (Bb:Blk W gb 45 (PL pb none 0 0).toArray) (Bm:Blk W gm 46 (row4 fm).toArray) (Bi:Blk W gi 46 (row4 fi).toArray) (Bo:Blk W go 46 (row4 fo).toArray) (Be:Blk W ge 46 (row4 fe).toArray) (n1:gm<gi) (n2:gi<go) (n3:go<ge) (n4:ge<ga) (n5:ge<gb)
 (hQp:∀ (ch:_) (a:Act) (d:Tmp) (u:Value) (w:World),Q (.panic ch) (a.put (some d) u) w→Q (.panic ch) a w)
 (h:∀ (wx:World) (u75 u76 u77 u78 u79 u80 u81 u82 u83 u84 u85 u86:Value),Blk wx gm 46 (row4 (upd fm k ⟨pa,none,0,0,[]⟩)).toArray→Blk wx gi 46 (row4 (upd fi k ⟨pa,none,0,0,[]⟩)).toArray→Blk wx go 46 (row4 (upd fo k ⟨pb,none,0,0,[]⟩)).toArray→Blk wx ge 46 (row4 (upd fe k ⟨pb,none,0,0,[]⟩)).toArray→Chg [gm,gi,go,ge] W wx→Q .normal ⟨#[s0,s1,s2,s3,s4,s5,s6,s7, .pointer (some ⟨gm,0,none⟩), .pointer (some ⟨gi,0,none⟩), .pointer (some ⟨go,0,none⟩), .pointer (some ⟨ge,0,none⟩),s12, .int .i64 (k:Int), .pointer (some ⟨ga,0,none⟩),s15, .pointer (some ⟨gb,0,none⟩),s17,s18,s19,s20,s21,s22,s23,s24,s25,s26,s27,s28,s29,s30,s31,s32,s33,s34,s35,s36,s37,s38,s39,s40,s41,s42,s43,s44,s45,s46,s47,s48,s49,s50,s51,s52,s53,s54,s55,s56,s57,s58,s59,s60,s61,s62,s63,s64,s65,s66,s67,s68,s69,s70,s71,s72,s73,s74,u75,u76,u77,u78,u79,u80,u81,u82,u83,u84,u85,u86,s87,s88,s89,s90,s91,s92,s93,s94,s95,s96,s97,s98,s99,s100,s101,s102,s103,s104,s105,s106,s107,s108,s109,s110,s111,s112,s113,s114,s115,s116,s117,s118,s119,s120,s121,s122,s123,s124,s125,s126,s127,s128,s129,s130,s131,s132,s133,s134,s135,s136,s137,s138,s139,s140,s141,s142,s143,s144,s145,s146,s147,s148,s149,s150,s151,s152,s153,s154,s155,s156,s157,s158,s159,s160,s161,s162,s163,s164,s165,s166,s167,s168,s169,s170,s171,s172,s173,s174,s175,s176,s177,s178,s179,s180,s181,s182,s183,s184,s185,s186,s187,s188,s189,s190,s191,s192,s193,s194,s195,s196,s197,s198,s199,s200,s201,s202,s203,s204,s205,s206,s207,s208,s209,s210,s211,s212,s213,s214,s215,s216,s217,s218,s219,s220,s221,s222,s223,s224,s225,s226,s227,s228,s229,s230,s231,s232,s233,s234,s235,s236,s237,s238,s239,s240,s241,s242,s243,s244,s245,s246,s247,s248,s249,s250,s251,s252,s253,s254,s255,s256],[]⟩ wx):vr11_code.wp Tryz.prog Q ⟨#[s0,s1,s2,s3,s4,s5,s6,s7, .pointer (some ⟨gm,0,none⟩), .pointer (some ⟨gi,0,none⟩), .pointer (some ⟨go,0,none⟩), .pointer (some ⟨ge,0,none⟩),s12, .int .i64 (k:Int), .pointer (some ⟨ga,0,none⟩),s15, .pointer (some ⟨gb,0,none⟩),s17,s18,s19,s20,s21,s22,s23,s24,s25,s26,s27,s28,s29,s30,s31,s32,s33,s34,s35,s36,s37,s38,s39,s40,s41,s42,s43,s44,s45,s46,s47,s48,s49,s50,s51,s52,s53,s54,s55,s56,s57,s58,s59,s60,s61,s62,s63,s64,s65,s66,s67,s68,s69,s70,s71,s72,s73,s74,s75,s76,s77,s78,s79,s80,s81,s82,s83,s84,s85,s86,s87,s88,s89,s90,s91,s92,s93,s94,s95,s96,s97,s98,s99,s100,s101,s102,s103,s104,s105,s106,s107,s108,s109,s110,s111,s112,s113,s114,s115,s116,s117,s118,s119,s120,s121,s122,s123,s124,s125,s126,s127,s128,s129,s130,s131,s132,s133,s134,s135,s136,s137,s138,s139,s140,s141,s142,s143,s144,s145,s146,s147,s148,s149,s150,s151,s152,s153,s154,s155,s156,s157,s158,s159,s160,s161,s162,s163,s164,s165,s166,s167,s168,s169,s170,s171,s172,s173,s174,s175,s176,s177,s178,s179,s180,s181,s182,s183,s184,s185,s186,s187,s188,s189,s190,s191,s192,s193,s194,s195,s196,s197,s198,s199,s200,s201,s202,s203,s204,s205,s206,s207,s208,s209,s210,s211,s212,s213,s214,s215,s216,s217,s218,s219,s220,s221,s222,s223,s224,s225,s226,s227,s228,s229,s230,s231,s232,s233,s234,s235,s236,s237,s238,s239,s240,s241,s242,s243,s244,s245,s246,s247,s248,s249,s250,s251,s252,s253,s254,s255,s256],[]⟩ W:=by
 have hi0:(0:Int)≤(k:Int):=by omega
 have hi4:(k:Int)<4:=by omega
 have hq:=Z9 h
 clear h
 conv=>arg 2;whnf
 refine wp_region_held_drew (S:=fun w'=>Blk w' ga 45 (PL pa none 0 0).toArray∧Blk w' gb 45 (PL pb none 0 0).toArray) (by kernel_rfl) ⟨Ba.drew,Bb.drew⟩ (fun qH => ?_)
 have hch:Chg [gm,gi,go,ge] W W.drew:=Chg.drew (Chg.refl _ _)
 replace Bm:=Bm.drew
 replace Bi:=Bi.drew
 replace Bo:=Bo.drew
 replace Be:=Be.drew
 generalize W.drew=X at *
 refine tk1 (i:=0) (v:=?_) rfl (Or.inl ⟨by rfl,?_⟩) qH ?_ (hQ:=q9 hQp)
 rotate_left
 · (intro w hSw;clear hSw;go_simp;try with_reducible rfl)
 try simp only [ss9]
 refine tk1 (i:=1) (v:=?_) rfl (Or.inl ⟨by rfl,?_⟩) qH ?_ (hQ:=q9 hQp)
 rotate_left
 · (intro w hSw;clear hSw;go_simp;try with_reducible rfl)
 try simp only [ss9]
 refine tk1 (i:=2) (v:=?_) rfl (Or.inl ⟨by rfl,?_⟩) qH ?_ (hQ:=q9 hQp)
 rotate_left
 · (intro w hSw;clear hSw;go_simp;try with_reducible rfl)
 try simp only [ss9]
 refine tk1 (i:=3) (v:=?_) rfl (Or.inl ⟨by rfl,?_⟩) qH ?_ (hQ:=q9 hQp)
 rotate_left
 · (intro w hSw;clear hSw;go_simp;try with_reducible rfl)
 try simp only [ss9]
 refine tk1 (i:=4) (v := .agg (PA pa none 0 0)) rfl (zat rfl 45 (.tmp 14) rfl ga 0 rfl 45 (PL pa none 0 0) (fun w h=>h.1) 48 _ Tryz.underlying45 zai (Nat.le_refl 48) _ rfl rfl) qH ?_ (hQ:=q9 hQp)
 try simp only [ss9]
 refine tk1 (i:=5) (v := .agg (PA pa none 0 0)) rfl (zat rfl 45 (.tmp 14) rfl ga 0 rfl 45 (PL pa none 0 0) (fun w h=>h.1) 48 _ Tryz.underlying45 zai (Nat.le_refl 48) _ rfl rfl) qH ?_ (hQ:=q9 hQp)
 try simp only [ss9]
 refine tk1 (i:=6) (v := .agg (PA pb none 0 0)) rfl (zat rfl 45 (.tmp 16) rfl gb 0 rfl 45 (PL pb none 0 0) (fun w h=>h.2) 48 _ Tryz.underlying45 zai (Nat.le_refl 48) _ rfl rfl) qH ?_ (hQ:=q9 hQp)
 try simp only [ss9]
 refine tk1 (i:=7) (v := .agg (PA pb none 0 0)) rfl (zat rfl 45 (.tmp 16) rfl gb 0 rfl 45 (PL pb none 0 0) (fun w h=>h.2) 48 _ Tryz.underlying45 zai (Nat.le_refl 48) _ rfl rfl) qH ?_ (hQ:=q9 hQp)
 try simp only [ss9]
 refine tk1 (i:=8) (v:=?_) rfl (Or.inl ⟨by rfl,?_⟩) qH ?_ (hQ:=q9 hQp)
 rotate_left
 · (intro w hSw;clear hSw;go_simp;try with_reducible rfl)
 try simp only [ss9]
 refine wpAnyH_ready (rs:=[9]) (by kernel_rfl) (by simp) ?_
 refine AllReadyH.cons (o:=_) rfl (fun K hK => ?_) AllReadyH.nil
 refine zal rfl 45 (.tmp 83) (.tmp 79) rfl gm (k*48) rfl 46 (row4 fm) Bm (PL pa none 0 0) rfl zai (show k*48+48≤192 by omega) rfl _ (zbo fm k hk4 ⟨pa,none,0,0,[]⟩) ?_
 intro WF BF OF
 have HF:Blk WF ga 45 (PL pa none 0 0).toArray∧Blk WF gb 45 (PL pb none 0 0).toArray:=⟨OF.blk qH.1 (by omega),OF.blk qH.2 (by omega)⟩
 replace hch:=Chg.trans hch (Chg.of_only OF (S:=[gm,gi,go,ge]) (by simp))
 replace Bm:=BF
 replace Bi:=OF.blk Bi (by omega)
 replace Bo:=OF.blk Bo (by omega)
 replace Be:=OF.blk Be (by omega)
 clear BF OF
 refine hK.out _ _ HF (fun qH => ?_)
 clear hK K HF
 try simp only [ss9]
 refine tk1 (i:=10) (v:=?_) rfl (Or.inl ⟨by rfl,?_⟩) qH ?_ (hQ:=q9 hQp)
 rotate_left
 · (intro w hSw;clear hSw;go_simp;try with_reducible rfl)
 try simp only [ss9]
 refine wpAnyH_ready (rs:=[11]) (by kernel_rfl) (by simp) ?_
 refine AllReadyH.cons (o:=_) rfl (fun K hK => ?_) AllReadyH.nil
 refine zal rfl 45 (.tmp 84) (.tmp 80) rfl gi (k*48) rfl 46 (row4 fi) Bi (PL pa none 0 0) rfl zai (show k*48+48≤192 by omega) rfl _ (zbo fi k hk4 ⟨pa,none,0,0,[]⟩) ?_
 intro WF BF OF
 have HF:Blk WF ga 45 (PL pa none 0 0).toArray∧Blk WF gb 45 (PL pb none 0 0).toArray:=⟨OF.blk qH.1 (by omega),OF.blk qH.2 (by omega)⟩
 replace hch:=Chg.trans hch (Chg.of_only OF (S:=[gm,gi,go,ge]) (by simp))
 replace Bm:=OF.blk Bm (by omega)
 replace Bi:=BF
 replace Bo:=OF.blk Bo (by omega)
 replace Be:=OF.blk Be (by omega)
 clear BF OF
 refine hK.out _ _ HF (fun qH => ?_)
 clear hK K HF
 try simp only [ss9]
 refine tk1 (i:=12) (v:=?_) rfl (Or.inl ⟨by rfl,?_⟩) qH ?_ (hQ:=q9 hQp)
 rotate_left
 · (intro w hSw;clear hSw;go_simp;try with_reducible rfl)
 try simp only [ss9]
 refine wpAnyH_ready (rs:=[13]) (by kernel_rfl) (by simp) ?_
 refine AllReadyH.cons (o:=_) rfl (fun K hK => ?_) AllReadyH.nil
 refine zal rfl 45 (.tmp 85) (.tmp 81) rfl go (k*48) rfl 46 (row4 fo) Bo (PL pb none 0 0) rfl zai (show k*48+48≤192 by omega) rfl _ (zbo fo k hk4 ⟨pb,none,0,0,[]⟩) ?_
 intro WF BF OF
 have HF:Blk WF ga 45 (PL pa none 0 0).toArray∧Blk WF gb 45 (PL pb none 0 0).toArray:=⟨OF.blk qH.1 (by omega),OF.blk qH.2 (by omega)⟩
 replace hch:=Chg.trans hch (Chg.of_only OF (S:=[gm,gi,go,ge]) (by simp))
 replace Bm:=OF.blk Bm (by omega)
 replace Bi:=OF.blk Bi (by omega)
 replace Bo:=BF
 replace Be:=OF.blk Be (by omega)
 clear BF OF
 refine hK.out _ _ HF (fun qH => ?_)
 clear hK K HF
 try simp only [ss9]
 refine tk1 (i:=14) (v:=?_) rfl (Or.inl ⟨by rfl,?_⟩) qH ?_ (hQ:=q9 hQp)
 rotate_left
 · (intro w hSw;clear hSw;go_simp;try with_reducible rfl)
 try simp only [ss9]
 refine wpAnyH_ready (rs:=[15]) (by kernel_rfl) (by simp) ?_
 refine AllReadyH.cons (o:=_) rfl (fun K hK => ?_) AllReadyH.nil
 refine zal rfl 45 (.tmp 86) (.tmp 82) rfl ge (k*48) rfl 46 (row4 fe) Be (PL pb none 0 0) rfl zai (show k*48+48≤192 by omega) rfl _ (zbo fe k hk4 ⟨pb,none,0,0,[]⟩) ?_
 intro WF BF OF
 have HF:Blk WF ga 45 (PL pa none 0 0).toArray∧Blk WF gb 45 (PL pb none 0 0).toArray:=⟨OF.blk qH.1 (by omega),OF.blk qH.2 (by omega)⟩
 replace hch:=Chg.trans hch (Chg.of_only OF (S:=[gm,gi,go,ge]) (by simp))
 replace Bm:=OF.blk Bm (by omega)
 replace Bi:=OF.blk Bi (by omega)
 replace Bo:=OF.blk Bo (by omega)
 replace Be:=BF
 clear BF OF
 refine hK.out _ _ HF (fun qH => ?_)
 clear hK K HF
 try simp only [ss9]
 refine wpAnyH_done (by kernel_rfl) ?_ _
 exact hq.out _ _ _ _ _ _ _ _ _ _ _ _ _ Bm Bi Bo Be hch
noncomputable def vm4_code:Code:=((Tryz.f3.body.bind (fromReg 4)).getD .skip)
noncomputable def vm12_code:Code:=((Tryz.f3.body.bind (fromReg 12)).getD .skip)
structure VN (w W:World) (b:VB) (cs ls:Nat→Int) (fm fi fo fe:Nat→PQ):Prop where
 o0:w.heap.size≤b.gC
 o1:b.gC<b.gL
 o2:b.gL<b.gm
 o3:b.gm<b.gi
 o4:b.gi<b.go
 o5:b.go<b.ge
 o6:b.ge<b.gcf
 bC:Blk W b.gC 22 #[.int .u8 (cs 0), .int .u8 (cs 1), .int .u8 (cs 2), .int .u8 (cs 3)]
 bL:Blk W b.gL 24 #[.int .u16 (ls 0), .int .u16 (ls 1), .int .u16 (ls 2), .int .u16 (ls 3)]
 bm:Blk W b.gm 46 (row4 fm).toArray
 bi:Blk W b.gi 46 (row4 fi).toArray
 bo:Blk W b.go 46 (row4 fo).toArray
 be:Blk W b.ge 46 (row4 fe).toArray
 bg:Blk W b.gcf 34 #[.int .i64 20, .int .i64 200]
 li:∀ k,(fi k).l=[]
 le:∀ k,(fe k).l=[]
 bel:Bel w W
theorem VN.later {w W W':World} {b:VB} {cs ls:Nat→Int} {fm fi fo fe:Nat→PQ} (h:VN w W b cs ls fm fi fo fe) (hb:Below W.heap.size W W'):VN w W' b cs ls fm fi fo fe :=
 ⟨h.o0,h.o1,h.o2,h.o3,h.o4,h.o5,h.o6,h.bC.later hb,h.bL.later hb,h.bm.later hb,h.bi.later hb,h.bo.later hb,h.be.later hb,h.bg.later hb,h.li,h.le,h.bel.later hb⟩
theorem VN.codec {w W:World} {b:VB} {cs ls:Nat→Int} {fm fi fo fe:Nat→PQ} (h:VN w W b cs ls fm fi fo fe) (k:Nat) (hk:k<4):W.cell? ⟨b.gC,k,none⟩=some (.int .u8 (cs k)):=by
 refine h.bC.at k _ ?_
 have:=at4 (fun j=>Value.int .u8 (cs j)) k hk
 simpa using this
theorem VN.lay {w W W':World} {b:VB} {cs ls:Nat→Int} {fm fi fo fe:Nat→PQ} (h:VN w W b cs ls fm fi fo fe) (k:Nat) (p q:Sb.Pt) (hc:Chg [b.gm,b.gi,b.go,b.ge] W W')
 (h1:Blk W' b.gm 46 (row4 (upd fm k ⟨p,none,0,0,[]⟩)).toArray) (h2:Blk W' b.gi 46 (row4 (upd fi k ⟨p,none,0,0,[]⟩)).toArray) (h3:Blk W' b.go 46 (row4 (upd fo k ⟨q,none,0,0,[]⟩)).toArray) (h4:Blk W' b.ge 46 (row4 (upd fe k ⟨q,none,0,0,[]⟩)).toArray) :
 VN w W' b cs ls (upd fm k ⟨p,none,0,0,[]⟩) (upd fi k ⟨p,none,0,0,[]⟩) (upd fo k ⟨q,none,0,0,[]⟩) (upd fe k ⟨q,none,0,0,[]⟩):=by
 have o0:=h.o0;have o1:=h.o1;have o2:=h.o2;have o3:=h.o3;have o4:=h.o4;have o5:=h.o5;have o6:=h.o6
 refine ⟨h.o0,h.o1,h.o2,h.o3,h.o4,h.o5,h.o6,hc.blk h.bC (by simp;omega),hc.blk h.bL (by simp;omega),h1,h2,h3,h4,hc.blk h.bg (by simp;omega),fun j => ?_,fun j => ?_,hc.bel h.bel (by intro x hx;simp at hx;omega)⟩
 all_goals unfold upd;split
 · rfl
 · exact h.li j
 · rfl
 · exact h.le j
theorem zhz (k:Nat) (hk:k<4):IntKind.u32.wrap (k:Int)=(k:Int):=by simp only [IntKind.wrap,IntKind.bits,IntKind.signed];simp;omega
theorem zlq (c:Int) (s:Nat) (hs:s<4) (hc:speechB c=true):PairI c ⟨(Sb.new c s 20 200).1,none,0,0,[]⟩ ⟨(Sb.new c s 20 200).1,none,0,0,[]⟩ TQ.zero 0:=by
 have h:=Sb.Hop.start (c:=c) (s:=(s:Int)) hc (by omega) (by omega)
 refine ⟨⟨none,h, .none⟩,rfl,Nat.zero_le _,?_,rfl,Nat.le_refl _,Nat.zero_le _⟩
 exact h.spk.2.2.1.symm
theorem zwk {w W:World} {b:VB} {cs ls:Nat→Int} {n:Nat} {LA:Option Addr} {ln lc:Nat} {Q:Exit→Act→World→Prop} {fm fi fo fe:Nat→PQ} (X:VN w W b cs ls fm fi fo fe) (hn:n≤4) (hcs:∀ j,j<4→0≤cs j∧cs j≤255)
 (hQp:∀ (ch:_) (a:Act) (d:Tmp) (u:Value) (w:World),Q (.panic ch) (a.put (some d) u) w→Q (.panic ch) a w)
 (h:∀ (W:World) (a:Act) (fm fi fo fe:Nat→PQ),VN w W b cs ls fm fi fo fe→(∀ j,j<n→PairI (cod3 (cs j)) (fm j) (fi j) TQ.zero 0)→(∀ j,j<n→PairI (cod3 (cs j)) (fo j) (fe j) TQ.zero 0)→Fr 257 [(2, .slice LA ln lc),(3, .pointer (some ⟨b.gC,0,none⟩)),(4, .pointer (some ⟨b.gL,0,none⟩)),(7, .int .i64 (n:Int)),(8, .pointer (some ⟨b.gm,0,none⟩)),(9, .pointer (some ⟨b.gi,0,none⟩)),(10, .pointer (some ⟨b.go,0,none⟩)),(11, .pointer (some ⟨b.ge,0,none⟩)),(12, .pointer (some ⟨b.gcf,0,none⟩))] a→firstWp Tryz.prog vm12_code Q a W) (a:Act) (ha:Fr 257 [(2, .slice LA ln lc),(3, .pointer (some ⟨b.gC,0,none⟩)),(4, .pointer (some ⟨b.gL,0,none⟩)),(7, .int .i64 (n:Int)),(8, .pointer (some ⟨b.gm,0,none⟩)),(9, .pointer (some ⟨b.gi,0,none⟩)),(10, .pointer (some ⟨b.go,0,none⟩)),(11, .pointer (some ⟨b.ge,0,none⟩)),(12, .pointer (some ⟨b.gcf,0,none⟩))] a):firstWp Tryz.prog vm4_code Q a W:=by
 obtain ⟨s,rfl,hs9⟩:=ha
 rw [r257]
 obtain ⟨e2,e3,e4,e7,e8,e9,e10,e11,e12,_⟩:=hs9
 rw [e2,e3,e4,e7,e8,e9,e10,e11,e12]
 refine zas ?_
 intro _ _ _ _
 go_upto_region 4 with fail
 go_wp2_with fail
 refine wp_loop_rounds (n+1) (zbn (fun m a wr => ∃ (k:Nat) (fm fi fo fe:Nat→PQ),m+k=n∧VN w wr b cs ls fm fi fo fe∧(∀ j,j<k→PairI (cod3 (cs j)) (fm j) (fi j) TQ.zero 0)∧(∀ j,j<k→PairI (cod3 (cs j)) (fo j) (fe j) TQ.zero 0)∧Fr 257 ((13, .int .i64 (k:Int)) :: [(2, .slice LA ln lc),(3, .pointer (some ⟨b.gC,0,none⟩)),(4, .pointer (some ⟨b.gL,0,none⟩)),(7, .int .i64 (n:Int)),(8, .pointer (some ⟨b.gm,0,none⟩)),(9, .pointer (some ⟨b.gi,0,none⟩)),(10, .pointer (some ⟨b.go,0,none⟩)),(11, .pointer (some ⟨b.ge,0,none⟩)),(12, .pointer (some ⟨b.gcf,0,none⟩))]) a) (fun m a wr hJ => ?_) n _ _ ⟨0,fm,fi,fo,fe,rfl,X,fun j hj=>absurd hj (Nat.not_lt_zero j),fun j hj=>absurd hj (Nat.not_lt_zero j),Fr.mk rfl ⟨rfl,rfl,rfl,rfl,rfl,rfl,rfl,rfl,rfl,rfl,trivial⟩⟩)
 clear X
 obtain ⟨k,fm,fi,fo,fe,hm,X,hP,hE,ha⟩:=hJ
 obtain ⟨s,rfl,hs9⟩:=ha
 rw [r257]
 obtain ⟨e13,e2,e3,e4,e7,e8,e9,e10,e11,e12,_⟩:=hs9
 rw [e13,e2,e3,e4,e7,e8,e9,e10,e11,e12]
 have hk0:(0:Int)≤(k:Int):=by omega
 by_cases hk:k<n
 rotate_left
 · have hk2:¬(k:Int)<(n:Int):=by omega
   go_upto_region 12 with fail
   refine zan (by assumption) ?_
   exact h _ _ fm fi fo fe X (fun j hj=>hP j (by omega)) (fun j hj=>hE j (by omega)) (Fr.mk rfl ⟨rfl,rfl,rfl,rfl,rfl,rfl,rfl,rfl,rfl,trivial⟩)
 have hk2:(k:Int)<(n:Int):=by omega
 have hk4:k<4:=by omega
 have hk5:(k:Int)<4:=by omega
 have hcb:=hcs k hk4
 have hsp:=zhh (cs k)
 have hc3:0≤cod3 (cs k)∧cod3 (cs k)≤255:=by
  unfold cod3
  split
  · omega
  · split<;>omega
 have kC:=Z9 (fun V:World=>(zcz (cs k) hcb.1 hcb.2 V).mono (R':=fun e w'=>e = .returned (.int .u8 (cod3 (cs k)))∧Below V.heap.size V w') (by rintro e w' ⟨rfl,rfl⟩;exact ⟨rfl,Below.refl _ _⟩))
 have kN:=Z9 (fun V:World=>zje (cod3 (cs k)) (k:Int) 20 200 hc3.1 hc3.2 V)
 unfold NewP at kN
 have hn2:(Sb.new (cod3 (cs k)) (k:Int) 20 200).2=0:=by rw [Sb.new_src hsp (by decide)]
 rw [hn2] at kN
 have hp0:=Z9 (zlq (cod3 (cs k)) k hk4 hsp)
 obtain ⟨q,hq⟩:∃ q,q=(Sb.new (cod3 (cs k)) (k:Int) 20 200).1:=⟨_,rfl⟩
 rw [← hq] at kN hp0
 clear hn2 hq hc3 hsp hcb
 have H9:=X.be.lt
 go_upto_region 7 with fail
 refine zwi b.gC b.gcf k hk0 hk5 (zhz k hk4) (cs k) (cod3 (cs k)) q wr (X.codec k hk4) (X.bg.at 0 _ rfl) (X.bg.at 1 _ rfl) kC.out kN.out ?_ ?_
 · intro ch a d u w h;exact hQp _ _ _ _ _ h
 intro W g1 u47 u48 u49 u50 u51 u52 u53 u54 u55 u56 u57 HA hg1 HB
 have B1:=Z9 HA.out
 replace X:=Z9 (X.later HB.out)
 have hgs:=X.out.be.lt
 clear HA HB
 go_upto_region 8 with fail
 refine zwj b.gC b.gcf k hk0 hk5 (zhz k hk4) (cs k) (cod3 (cs k)) q W (X.out.codec k hk4) (X.out.bg.at 0 _ rfl) (X.out.bg.at 1 _ rfl) kC.out kN.out ?_ ?_
 · intro ch a d u w h;exact hQp _ _ _ _ _ h
 intro W2 g2 u58 u59 u60 u61 u62 u63 u64 u65 u66 u67 u68 HA2 hg2 HB2
 replace X:=X.out.later HB2.out
 have Ba:Blk W2 g1 45 (PL q none 0 0).toArray:=Blk.later B1.out HB2.out
 have Bb:Blk W2 g2 45 (PL q none 0 0).toArray:=HA2.out
 have o6:=X.o6
 have hg9:b.ge<wr.heap.size∧b.ge<W.heap.size:=⟨H9,hgs⟩
 clear HA2 HB2 B1 kC kN
 go_upto_region 11 with fail
 refine zug hk4 Ba Bb X.bm X.bi X.bo X.be X.o3 X.o4 X.o5 (by omega) (by omega) ?_ ?_
 · intro ch a d u w h;exact hQp _ _ _ _ _ h
 intro W3 u75 u76 u77 u78 u79 u80 u81 u82 u83 u84 u85 u86 Bm Bi Bo Be hc
 replace X:=X.lay k q q hc Bm Bi Bo Be
 have hP2:∀ j,j<k+1→PairI (cod3 (cs j)) (upd fm k ⟨q,none,0,0,[]⟩ j) (upd fi k ⟨q,none,0,0,[]⟩ j) TQ.zero 0:=fun j hj=>by
  by_cases e:j=k
  · rw [e,zcn,zcn];exact hp0.out
  · rw [zco _ _ _ _ e,zco _ _ _ _ e];exact hP j (by omega)
 have hE2:∀ j,j<k+1→PairI (cod3 (cs j)) (upd fo k ⟨q,none,0,0,[]⟩ j) (upd fe k ⟨q,none,0,0,[]⟩ j) TQ.zero 0:=fun j hj=>by
  by_cases e:j=k
  · rw [e,zcn,zcn];exact hp0.out
  · rw [zco _ _ _ _ e,zco _ _ _ _ e];exact hE j (by omega)
 clear Ba Bb Bm Bi Bo Be hc hP hE
 go_wp2_with fail
 exact ⟨m-1,by omega,k+1,_,_,_,_,by omega,X,hP2,hE2,Fr.mk rfl ⟨rfl,rfl,rfl,rfl,rfl,rfl,rfl,rfl,rfl,rfl,trivial⟩⟩
theorem blk4 (w:World) (o1 o2 o3:Obj) (o4:Obj) (t:TypeId) (cs:Array Value):Blk (((((w.alloc o1).alloc o2).alloc o3).alloc o4).alloc (.cells cs t)) (w.heap.size+1+1+1+1) t cs:=by
 have h:=Blk.new ((((w.alloc o1).alloc o2).alloc o3).alloc o4) t cs
 simpa using h
theorem blk5 (w:World) (o1 o2 o3 o4 o5:Obj) (t:TypeId) (cs:Array Value):Blk ((((((w.alloc o1).alloc o2).alloc o3).alloc o4).alloc o5).alloc (.cells cs t)) (w.heap.size+1+1+1+1+1) t cs:=by
 have h:=Blk.new (((((w.alloc o1).alloc o2).alloc o3).alloc o4).alloc o5) t cs
 simpa using h
theorem blk6 (w:World) (o1 o2 o3 o4 o5 o6:Obj) (t:TypeId) (cs:Array Value):Blk (((((((w.alloc o1).alloc o2).alloc o3).alloc o4).alloc o5).alloc o6).alloc (.cells cs t)) (w.heap.size+1+1+1+1+1+1) t cs:=by
 have h:=Blk.new ((((((w.alloc o1).alloc o2).alloc o3).alloc o4).alloc o5).alloc o6) t cs
 simpa using h
theorem zoc:Tryz.zeroCells46=(row4 fun _=>PQ.zero).toArray:=by kernel_rfl
def vb0 (k:Nat):VB:=⟨k,k+1,k+1+1,k+1+1+1,k+1+1+1+1,k+1+1+1+1+1,k+1+1+1+1+1+1,0,0⟩
theorem VN.start (w:World) (cs ls:Nat→Int):VN w (((((((w.alloc (.cells #[.int .u8 (cs 0), .int .u8 (cs 1), .int .u8 (cs 2), .int .u8 (cs 3)] 22)).alloc (.cells #[.int .u16 (ls 0), .int .u16 (ls 1), .int .u16 (ls 2), .int .u16 (ls 3)] 24)).alloc (.cells (row4 fun _=>PQ.zero).toArray 46)).alloc (.cells (row4 fun _=>PQ.zero).toArray 46)).alloc (.cells (row4 fun _=>PQ.zero).toArray 46)).alloc (.cells (row4 fun _=>PQ.zero).toArray 46)).alloc (.cells #[.int .i64 20, .int .i64 200] 34)) (vb0 w.heap.size) cs ls (fun _=>PQ.zero) (fun _=>PQ.zero) (fun _=>PQ.zero) (fun _=>PQ.zero):=by
 unfold vb0
 exact ⟨Nat.le_refl _,Nat.lt_succ_self _,Nat.lt_succ_self _,Nat.lt_succ_self _,Nat.lt_succ_self _,Nat.lt_succ_self _,Nat.lt_succ_self _,((((((Blk.new w _ _).push _).push _).push _).push _).push _).push _,(((((Blk.new1 w _ _ _).push _).push _).push _).push _).push _,((((Blk.new2 w _ _ _ _).push _).push _).push _).push _,(((Blk.new3 w _ _ _ _ _).push _).push _).push _,((blk4 w _ _ _ _ _ _).push _).push _,(blk5 w _ _ _ _ _ _ _).push _,blk6 w _ _ _ _ _ _ _ _,fun _=>rfl,fun _=>rfl,((((((Bel.refl w).push _).push _).push _).push _).push _).push _ |>.push _⟩
theorem VN.ready {w W:World} {b:VB} {cs ls:Nat→Int} {fm fi fo fe:Nat→PQ} (h:VN w W b cs ls fm fi fo fe):VM w ((W.alloc (.cells (tick4 fun _=>TQ.zero).toArray 54)).alloc (.cells (tick4 fun _=>TQ.zero).toArray 54)) ⟨b.gC,b.gL,b.gm,b.gi,b.go,b.ge,b.gcf,W.heap.size,W.heap.size+1⟩ [] cs ls fm fi fo fe (fun _=>TQ.zero) (fun _=>TQ.zero):=by
 have h7:=h.bg.lt
 refine ⟨⟨h.o0,h.o1,h.o2,h.o3,h.o4,h.o5,h.o6,h7,Nat.lt_succ_self _⟩,(h.bC.push _).push _,(h.bL.push _).push _,(h.bm.push _).push _,(h.bi.push _).push _,(h.bo.push _).push _,(h.be.push _).push _,(Blk.new W _ _).push _,Blk.new1 W _ _ _,fun k _=>by rw [h.li k];exact QAv.nil,fun k _=>by rw [h.le k];exact QAv.nil,fun k _=>IntsAv.nil,fun k _=>IntsAv.nil,(h.bel.push _).push _,fun x hx=>by cases hx⟩
noncomputable def vm4x_code:Code:=((Tryz.f3.body.bind (fromReg 4)).getD .skip)
theorem zgy (kL:∀ V:World,Calls Tryz.prog 15 #[] V fun e w'=>e = .returned (.bool true)∧Below V.heap.size V w') (cs ls:Nat→Int) (hcs:∀ j,j<4→0≤cs j∧cs j≤255) (hl0:∀ j,j<4→0≤ls j∧ls j≤65535) (LA:Option Addr) (ln lc:Nat) (L:List Bool) (hL:L.length=ln) (w:World) (hR:RowsAt w w.heap.size 1 (fun x:Bool => [Value.bool x]) LA L) :
 Calls Tryz.prog 3 #[.agg #[.int .u8 (cs 0), .int .u8 (cs 1), .int .u8 (cs 2), .int .u8 (cs 3)], .agg #[.int .u16 (ls 0), .int .u16 (ls 1), .int .u16 (ls 2), .int .u16 (ls 3)], .slice LA ln lc] w fun e w'=>e = .returned (.bool true)∧Below w.heap.size w w':=by
 obtain ⟨n,hn⟩:∃ n:Nat,(n:Int)=2+ls 3 % 3:=⟨(2+ls 3 % 3).toNat,by have:=hl0 3 (by omega);omega⟩
 have hl3:=hl0 3 (by omega)
 have hn4:0<n∧n≤4:=by omega
 have XN:=Z9 (VN.start w cs ls)
 replace kL:=Z9 kL
 go_enter Tryz.func3,Tryz.ntmps3
 go_upto_region 4 with fail
 rw [← hn]
 refine zbh (by assumption) (by assumption) ?_
 have X:=XN.out
 rw [← zoc] at X
 clear XN hn hl3
 change Code.wp _ _ _ _ (((((((w.alloc (.cells #[.int .u8 (cs 0), .int .u8 (cs 1), .int .u8 (cs 2), .int .u8 (cs 3)] 22)).alloc (.cells #[.int .u16 (ls 0), .int .u16 (ls 1), .int .u16 (ls 2), .int .u16 (ls 3)] 24)).alloc (.cells Tryz.zeroCells46 46)).alloc (.cells Tryz.zeroCells46 46)).alloc (.cells Tryz.zeroCells46 46)).alloc (.cells Tryz.zeroCells46 46)).alloc (.cells #[.int .i64 20, .int .i64 200] 34))
 generalize ((((((w.alloc (.cells #[.int .u8 (cs 0), .int .u8 (cs 1), .int .u8 (cs 2), .int .u8 (cs 3)] 22)).alloc (.cells #[.int .u16 (ls 0), .int .u16 (ls 1), .int .u16 (ls 2), .int .u16 (ls 3)] 24)).alloc (.cells Tryz.zeroCells46 46)).alloc (.cells Tryz.zeroCells46 46)).alloc (.cells Tryz.zeroCells46 46)).alloc (.cells Tryz.zeroCells46 46)).alloc (.cells #[.int .i64 20, .int .i64 200] 34)=W at X ⊢
 refine zwk (Q:=bodyPost Tryz.prog Tryz.f3 _) (LA:=LA) (ln:=ln) (lc:=lc) (n:=n) X hn4.2 hcs (by intro ch a d u w h;exact h) (fun W a fm fi fo fe X hP hE ha => ?_) _ (Fr.mk rfl ⟨rfl,rfl,rfl,rfl,rfl,rfl,rfl,rfl,rfl,trivial⟩)
 obtain ⟨s,rfl,hs9⟩:=ha
 rw [r257]
 obtain ⟨e2,e3,e4,e7,e8,e9,e10,e11,e12,_⟩:=hs9
 rw [e2,e3,e4,e7,e8,e9,e10,e11,e12]
 have XM:=X.ready
 refine zaq ?_
 intro _ _
 go_upto_region 13 with fail
 refine zbh (by assumption) (by assumption) ?_
 change Code.wp _ _ _ _ ((W.alloc (.cells (tick4 fun _=>TQ.zero).toArray 54)).alloc (.cells (tick4 fun _=>TQ.zero).toArray 54))
 generalize (W.alloc (.cells (tick4 fun _=>TQ.zero).toArray 54)).alloc (.cells (tick4 fun _=>TQ.zero).toArray 54)=W3 at XM ⊢
 refine zvk (Q:=bodyPost Tryz.prog Tryz.f3 _) (LA:=LA) (ln:=ln) (lc:=lc) (n:=n) XM hn4.1 hn4.2 L hL hR hl0 hcs hP hE (by intro ch a d u w h;exact h) (fun W a hb ha => ?_) _ (Fr.mk rfl ⟨rfl,rfl,rfl,rfl,rfl,rfl,rfl,rfl,rfl,rfl,trivial⟩)
 clear XM X hP hE
 obtain ⟨s,rfl,hs9⟩:=ha
 rw [r257]
 refine zaq ?_
 intro _ hK
 go_upto_region 44 with fail
 go_wp2_with fail
 refine (kL.out _).mono ?_
 rintro e w2 ⟨rfl,hb2⟩
 go_wp2_with fail
 go_ret
 exact ⟨rfl,Bel.later hb hb2⟩
def duRow (d:Int×Int):List Value:=[.int .i64 d.1, .int .i64 d.2]
structure VL where
 p:PQ
 u:PQ
 now:Int
 done:Int
 sA:Option Addr
 sc:Nat
 ss:List TF
 dA:Option Addr
 dc:Nat
 ds:List (Int×Int)
 count:Int
 least:Int
 most:Int
 st:Int×Int
 ow:Int×Int
def VL.row (v:VL) (gc:Nat):List Value:=v.p.row++(v.u.row ++ [.pointer (some ⟨gc,0,none⟩), .int .i64 v.now, .int .i64 v.done, .slice v.sA v.ss.length v.sc, .slice v.dA v.ds.length v.dc, .slice none 0 0, .slice none 0 0, .int .i64 v.count, .int .i64 v.least, .int .i64 v.most, .int .i64 v.st.1, .int .i64 v.st.2, .int .i64 v.ow.1, .int .i64 v.ow.2, .bool false])
theorem zsz {w:World} {n:Nat} {A:Option Addr} {l:List (Int×Int)} {i:Nat} {d:Int×Int} (h:RowsAt w n 2 duRow A l) (hd:l[i]? = some d):∃ b off,A=some ⟨b,off,none⟩∧b<n∧w.cell? ⟨b,off+i*2,none⟩=some (.int .i64 d.1)∧w.cell? ⟨b,off+i*2+1,none⟩=some (.int .i64 d.2):=by
 obtain ⟨b,off,e,hb,hc⟩:=h (by have:=(List.getElem?_eq_some_iff.1 hd).1;omega)
 exact ⟨b,off,e,hb,hc i d hd 0 _ rfl,hc i d hd 1 _ rfl⟩
theorem zod:(Tryz.prog.info? 135).map (fun i=>(i.zero,i.size,i.bytes))=some (some (.agg #[.int .i64 0, .int .i64 0]),2,16):=by kernel_rfl
def DuInsR (gW:Nat) (cs:Array Value) (ds:List (Int×Int)) (W:World) (e:Ending) (w':World):Prop:=∃ (A':Option Addr) (c':Nat),e = .returned (.bool true)∧ds.length≤c'∧Blk w' gW 86 (cs.setIfInBounds 100 (.slice A' ds.length c'))∧RowsNew W.heap.size w' 2 duRow A' ds∧Chg [gW] W w'
theorem zqx (gW:Nat) (cs:Array Value) (d:Int×Int) (W:World) (hB:Blk W gW 86 cs) (y:W.cell? ⟨gW,100,none⟩=some (.slice none 0 0)):Calls Tryz.prog 117 #[.pointer (some ⟨gW,0,none⟩), .agg #[.int .i64 d.1, .int .i64 d.2]] W (DuInsR gW cs [d] W):=by
 obtain ⟨d1,d2⟩:=d
 simp only
 have hgl:=hB.lt
 have HB:=Z9 hB
 clear hB
 obtain ⟨W1,hW1⟩:∃ V,V=W.alloc (.cells #[.int .i64 d1, .int .i64 d2] 135):=⟨_,rfl⟩
 have U1:Below W.heap.size W W1:=by rw [hW1];exact (Below.refl _ _).alloc (Nat.le_refl _) _
 have b1:Blk W1 W.heap.size 135 #[.int .i64 d1, .int .i64 d2]:=by rw [hW1];exact Blk.new _ _ _
 have y1:W1.cell? ⟨gW,100,none⟩=some (.slice none 0 0):=(U1.cell (p:=⟨gW,100,none⟩) hgl).trans y
 obtain ⟨g3,hg3⟩:∃ g,g=W.heap.size:=⟨_,rfl⟩
 rw [← hg3] at b1
 have x0:W1.cell? ⟨g3,0,none⟩=some (.int .i64 d1):=b1.at 0 _ rfl
 have x1:W1.cell? ⟨g3,1,none⟩=some (.int .i64 d2):=b1.at 1 _ rfl
 have HB1:=Z9 (HB.out.later U1)
 have HU1:=Z9 U1
 have HG:=Z9 hg3
 have HW:=Z9 hW1
 have hgl1:gW<W1.heap.size:=HB1.out.lt
 have hsz1:=U1.size
 clear y U1 b1 hg3 hW1
 go_enter Tryz.func117,Tryz.ntmps117
 go_upto_region 1 with fail
 rw [← HW.out,← HG.out]
 go_wp2_with fail
 go_loopw [6] (fun i wr=>i = .int .i64 0∧wr=W1) (fun _ _=>0)
 case atStart=>exact ⟨rfl,rfl⟩
 case round =>
  obtain ⟨rfl,rfl⟩:=hrel
  go_wp2_with fail
  go_region
  go_wp2_with fail
  go_loopw [7] (fun i w9=>i = .int .i64 0∧w9=World.drew wr) (fun _ _=>0)
  case atStart=>exact ⟨rfl,rfl⟩
  case round =>
   obtain ⟨rfl,hw9⟩:=hrel
   subst hw9
   have HBx:Hid (Blk (World.drew wr) gW 86 cs):=HB1
   have x0b:(World.drew wr).cell? ⟨g3,0,none⟩=some (.int .i64 d1):=x0
   have x1b:(World.drew wr).cell? ⟨g3,1,none⟩=some (.int .i64 d2):=x1
   have y1b:(World.drew wr).cell? ⟨gW,100,none⟩=some (.slice none 0 0):=y1
   have HUx:Hid (Below W.heap.size W (World.drew wr)):=Z9 (Below.drew HU1.out)
   go_upto_region 11 with fail
   generalize World.drew wr=W2 at HBx x0b x1b y1b HUx ⊢
   clear x0 x1 y1 HB1 HU1 HW HG hgl1 hsz1
   have hs2:=HUx.out.size
   go_upto_region 12 with (at_builtin;refine zao (w0:=W2) rfl _ _ 83 rfl W.heap.size 135 2 16 _ Tryz.underlying83 zod rfl (by decide) none 0 0 [] rfl Owns.nil [.int .i64 d1, .int .i64 d2] rfl (by simp [Value.oneCell']) rfl (by unfold maxLen;omega) (by omega) hs2 ?_;intro A1 c1 w1 hO1 hg1 hat1)
   have hb1:Below W.heap.size W w1:=HUx.out.grown hg1 hs2 (fun g e=>by simp [ownB] at e)
   have hbx:=HBx.out.grown hg1 (by simp [ownB])
   have y1c:w1.cell? ⟨gW,100,none⟩=some (.slice none 0 0):=hg1.cell y1b (by simp [ownB])
   have f1c:=hbx.frozen 100
   have hgl1:=hbx.lt
   have hne1:some gW≠ownB A1:=fun e=>by have:=(hO1.block gW e.symm).1;omega
   have HO1:=Z9 hO1
   have HB1:=Z9 hbx
   have HU1:=Z9 hb1
   clear x0b x1b y1b hO1 hbx hb1 hg1 hat1 HBx HUx hs2
   go_upto_region 13 with (at_builtin;refine zbk rfl _ _ 83 rfl W.heap.size 135 2 16 _ Tryz.underlying83 zod rfl (by decide) A1 1 c1 _ rfl HO1.out w1.heap.size duRow (fun _=>rfl) (fun a u hu=>by simp [duRow] at hu;rcases hu with h|h<;>subst h<;>rfl) none 0 0 [] rfl RowsAt.nil rfl (by unfold maxLen;simp) (by simp) (by have:=HU1.out.size;omega) 1 rfl ?_;intro A2 c2 w2 hO2 hg2 hat2;have hbx2:=HB1.out.grown hg2 hne1;have y2c:w2.cell? ⟨gW,100,none⟩=some (.slice none 0 0):=hg2.cell y1c hne1;have f2c:=hbx2.frozen 100;have hgl2:=hbx2.lt)
   go_wp2_with fail
   go_ret
   have hr:=zcv (row:=duRow) (size:=2) (fun _=>rfl) (by decide) (ps:=[(d1,d2)]) hO2 rfl
   have o2:OnlyB gW w2 (w2.setCell ⟨gW,100,none⟩ (.slice A2 1 c2)):=OnlyB.setCell _ _ _ _
   have hb2:Below W.heap.size W w2:=HU1.out.grown hg2 HU1.out.size (fun g e=>(HO1.out.block g e).1)
   have hA2:∀ b off,A2=some ⟨b,off,none⟩→W.heap.size≤b:=fun b off e=>(hO2.block b (by rw [e];rfl)).1
   refine ⟨A2,c2,rfl,hO2.cap,hbx2.set_ 100 _,⟨fun h0 => ?_,fun h0 b off e=>hA2 b off e⟩,(Chg.of_below hb2).trans (Chg.of_only o2 (by simp))⟩
   obtain ⟨b,off,e,hlt,hc⟩:=hr.1 h0
   have h9:=hA2 b off e
   refine ⟨b,off,e,by rw [o2.2];exact hlt,fun i a ha j v hv => ?_⟩
   rw [o2.cell (p:=⟨b,off+i*2+j,none⟩) (by show b≠gW;omega)]
   exact hc i a ha j v hv
theorem zuh {w:World} {n:Nat} {A:Option Addr} {d:TS} (h:Sds w n A [d]):∃ b off,A=some ⟨b,off,none⟩∧b<n∧w.cell? ⟨b,off,none⟩=some (.int .i64 d.s.at_)∧w.cell? ⟨b,off+1,none⟩=some (.slice d.S d.s.zs.length d.c):=by
 obtain ⟨b,off,e,hb,x0,x1,x2⟩:=zkg (k:=0) h.1 (a:=d) rfl
 simp only [Nat.zero_mul,Nat.add_zero] at x0 x1 x2
 exact ⟨b,off,e,hb,x0,x1⟩
theorem zoe (gW gc:Nat) (v:VL) (A:Option Addr) (c:Nat) (W:World) (hB:Blk W gW 86 (v.row gc).toArray) (hd:v.ds=[]):Calls Tryz.prog 79 #[.pointer (some ⟨gW,0,none⟩), .slice A 0 c] W fun e w'=>e = .returned (.tuple #[])∧Blk w' gW 86 (v.row gc).toArray∧Chg [gW] W w':=by
 have y100:W.cell? ⟨gW,100,none⟩=some (.slice v.dA v.ds.length v.dc):=hB.at 100 _ rfl
 have y110:W.cell? ⟨gW,110,none⟩=some (.bool false):=hB.at 110 _ rfl
 have f110:=hB.frozen 110
 rw [hd] at y100
 have hgl:=hB.lt
 have HB:=Z9 hB
 clear hB hd
 go_enter Tryz.func79,Tryz.ntmps79
 go_wp2_with fail
 go_loopw [4] (fun i wr=>i = .int .i64 0∧wr=W) (fun _ _=>0)
 case atStart=>exact ⟨rfl,rfl⟩
 case round =>
  obtain ⟨rfl,rfl⟩:=hrel
  go_wp2_with fail
  go_region
  go_wp2_with fail
  go_end0
  exact ⟨rfl,HB.out.drew.set_ 110 _,Chg.trans (Chg.drew (Chg.refl _ _)) (Chg.of_only (OnlyB.setCell _ _ _ _) (by simp))⟩
def HdR (gW gc:Nat) (v:VL) (W:World) (e:Ending) (w':World):Prop:=∃ (A':Option Addr) (c':Nat),e = .returned (.tuple #[])∧Blk w' gW 86 (VL.row { v with dA:=A',dc:=c' } gc).toArray∧Chg [gW] W w'
theorem zof (gW gc k:Nat) (v:VL) (d:TS) (f:TF) (A:Option Addr) (c:Nat) (W:World) (hB:Blk W gW 86 (v.row gc).toArray) (hd:v.ds=[(d.s.at_,(k:Int))]) (hcap:1≤v.dc) (hD:RowsAv W [gW] 2 duRow v.dA v.ds) (hA:Sds W W.heap.size A [d]) (hA2:∀ b off,A=some ⟨b,off,none⟩→b≠gW) (hz:d.s.zs.length=160) (hI:IntsAv W [gW] .i16 d.S d.s.zs)
 (hS:RowsAv W [gW] 1 TF.row v.sA v.ss) (hf:v.ss[k]? = some f) (hfz:f.zs=d.s.zs) (hF:IntsAv W [gW] .i16 f.A f.zs) (hn:d.s.at_≤v.now):Calls Tryz.prog 79 #[.pointer (some ⟨gW,0,none⟩), .slice A 1 c] W (HdR gW gc { v with done:=max v.done (k:Int),ds:=[] } W):=by
 have y97:W.cell? ⟨gW,97,none⟩=some (.int .i64 v.now):=hB.at 97 _ rfl
 have y98:W.cell? ⟨gW,98,none⟩=some (.int .i64 v.done):=hB.at 98 _ rfl
 have y99:W.cell? ⟨gW,99,none⟩=some (.slice v.sA v.ss.length v.sc):=hB.at 99 _ rfl
 have y100:W.cell? ⟨gW,100,none⟩=some (.slice v.dA v.ds.length v.dc):=hB.at 100 _ rfl
 have y110:W.cell? ⟨gW,110,none⟩=some (.bool false):=hB.at 110 _ rfl
 have hgl:=hB.lt
 have hks:k<v.ss.length:=(List.getElem?_eq_some_iff.1 hf).1
 obtain ⟨bd,od,hdA,hbd,x0,x1⟩:=zsz (i:=0) (d:=(d.s.at_,(k:Int))) hD.1 (by rw [hd];rfl)
 simp only [Nat.zero_mul,Nat.add_zero] at x0 x1
 have hbd2:bd≠gW:=fun e=>hD.2 (by rw [hd];simp) bd od hdA (by simp [e])
 obtain ⟨bs,os,hsA,hbs,hsc⟩:=hS.1 (by omega)
 have z0:=hsc k f hf 0 _ rfl
 have hbs2:bs≠gW:=fun e=>hS.2 (by omega) bs os hsA (by simp [e])
 obtain ⟨ba,oa,hAe,hba,s0,s1⟩:=zuh hA
 have hba2:=hA2 ba oa hAe
 have s2:W.cell? ⟨ba,oa+2,none⟩=some (.slice none 0 0):=by
  obtain ⟨b',o',e',_,hc⟩:=hA.1 (by simp)
  rw [hAe] at e';injection e' with e';injection e' with e1 e2
  subst e1 e2
  have:=hc 0 d rfl 2 _ rfl
  simpa using this
 rw [hz] at s1
 rw [hfz,hz] at z0
 simp only [Nat.mul_one,Nat.add_zero] at z0
 rw [hd,hdA] at y100
 rw [hsA] at y99
 have hn1:¬v.now<d.s.at_:=by omega
 have hn2:decide (v.now<d.s.at_)=false:=decide_eq_false hn1
 have hk0:(0:Int)≤(k:Int):=by omega
 have hk1:(k:Int)<(v.ss.length:Int):=by omega
 have kQ:=Z9 fun (V:World) (hV:Below W.heap.size W V)=>zck f.A d.S d.s.zs 160 f.c d.c hz V (by rw [← hfz];exact (hF.1.keep (fun _ hp=>hV.cell hp)).more hV.size) ((hI.1.keep (fun _ hp=>hV.cell hp)).more hV.size) (by omega)
 have HB:=Z9 hB
 have HDA:=Z9 hdA
 obtain ⟨tA,htA⟩:∃ x,x=d.s.at_:=⟨_,rfl⟩
 rw [← htA] at x0 s0 hn1 hn2
 have HHD:=Z9 hd
 subst hAe
 clear hB hD hA hI hS hF hf hfz hd hdA hsA hsc hn htA hA2
 go_enter Tryz.func79,Tryz.ntmps79
 go_wp2_with fail
 go_loopw [4] (fun i wr=>(i = .int .i64 0∧wr=W)∨(i = .int .i64 1∧Hid (∃ A' c',Blk wr gW 86 (VL.row { v with done:=max v.done (k:Int),dA:=A',dc:=c',ds:=[] } gc).toArray∧Chg [gW] W wr))) (fun i _=>2-(intOf i).toNat)
 case atStart=>exact .inl ⟨rfl,rfl⟩
 case round =>
  rcases hrel with ⟨rfl,rfl⟩|⟨rfl,HE⟩
  rotate_left
  · obtain ⟨A',c',hb,hc⟩:=HE.out
    have q100:wr.cell? ⟨gW,100,none⟩=some (.slice A' 0 c'):=hb.at 100 _ rfl
    have q110:wr.cell? ⟨gW,110,none⟩=some (.bool false):=hb.at 110 _ rfl
    have fq:=hb.frozen 110
    have hql:=hb.lt
    have HQ:=Z9 hb
    have HC:=Z9 hc
    clear hb hc HE y97 y98 y99 y100 y110 x0 x1 z0 s0 s1 s2
    go_wp2_with fail
    go_region
    go_wp2_with fail
    go_end0
    exact ⟨A',c',rfl,HQ.out.drew.set_ 110 _,HC.out.trans (Chg.trans (Chg.drew (Chg.refl _ _)) (Chg.of_only (OnlyB.setCell _ _ _ _) (by simp)))⟩
  go_wp2_with fail
  go_region
  go_wp2_with fail
  go_region
  go_wp2_with fail
  have hbD:Below wr.heap.size wr (World.drew (World.drew wr)):=Below.drew (Below.drew (Below.refl wr.heap.size wr))
  have k9:=kQ.out _ hbD
  refine Calls.mono k9 ?_
  rintro e w3 ⟨rfl,hb3⟩
  have hb:Below wr.heap.size wr w3:=hbD.trans hb3
  have HBw:=HB.out.later hb
  have q98:w3.cell? ⟨gW,98,none⟩=some (.int .i64 v.done):=HBw.at 98 _ rfl
  have q100:w3.cell? ⟨gW,100,none⟩=some (.slice v.dA v.ds.length v.dc):=HBw.at 100 _ rfl
  have q110:w3.cell? ⟨gW,110,none⟩=some (.bool false):=HBw.at 110 _ rfl
  have fq:=HBw.frozen 110
  have hgl3:=HBw.lt
  have u1:=(hb.cell (p:=⟨bd,od+1,none⟩) hbd).trans x1
  have HU:=Z9 hb
  have HBX:=Z9 HBw
  have HQ9:=Z9 q98
  have HQ0:=Z9 q100
  have HU1:=Z9 u1
  clear hb3 hb hbD k9 HBw y97 y98 y99 y100 y110 x0 x1 z0 s0 s1 s2 q98 q100 u1 kQ
  go_upto_region 9 with fail
  obtain ⟨V1,hV⟩:∃ V,V=w3.setCell ⟨gW,110,none⟩ (.bool false):=⟨_,rfl⟩
  have oV1:OnlyB gW (w3) V1:=by rw [hV];exact OnlyB.setCell _ _ _ _
  have B1:Blk V1 gW 86 (VL.row v gc).toArray:=by rw [hV];exact HBX.out.set_ 110 _
  rw [← hV]
  clear hV
  have r98:V1.cell? ⟨gW,98,none⟩=some (.int .i64 v.done):=B1.at 98 _ rfl
  have r100:V1.cell? ⟨gW,100,none⟩=some (.slice v.dA v.ds.length v.dc):=B1.at 100 _ rfl
  rw [HHD.out,HDA.out] at r100
  have fr:=B1.frozen 98
  have hgl4:=B1.lt
  have u2:V1.cell? ⟨bd,od+1,none⟩=some (.int .i64 (k:Int)):=(oV1.cell (p:=⟨bd,od+1,none⟩) hbd2).trans HU1.out
  have HB1:=Z9 B1
  have HO1:=Z9 oV1
  clear B1 oV1 q110 fq
  go_upto_region 9 with fail
  go_region
  go_upto_region 10 with fail
  obtain ⟨V2,hV2⟩:∃ V2,V2=World.drew (V1.setCell ⟨gW,98,none⟩ (.int .i64 (max v.done (k:Int)))):=⟨_,rfl⟩
  have B2:Blk V2 gW 86 (VL.row { v with done:=max v.done (k:Int) } gc).toArray:=by rw [hV2];exact (HB1.out.set_ 98 _).drew
  have C2:Chg [gW] wr V2:=by
   rw [hV2]
   exact Chg.drew ((Chg.of_below HU.out).trans ((Chg.of_only HO1.out (by simp)).trans (Chg.of_only (OnlyB.setCell _ _ _ _) (by simp))))
  rw [← hV2]
  clear hV2 r98 r100 fr u2
  have r100:V2.cell? ⟨gW,100,none⟩=some (.slice v.dA v.ds.length v.dc):=B2.at 100 _ rfl
  rw [HHD.out,HDA.out] at r100
  have fr:=B2.frozen 100
  have hgl5:=B2.lt
  have HB2:=Z9 B2
  have HC2:=Z9 C2
  clear B2 C2
  have hc1:(1:Int)≤(v.dc:Int):=by omega
  by_cases hcc:v.dc=1
  · rw [hcc] at r100
    go_wp2_with fail
    exact ⟨.inr ⟨rfl,Z9 ⟨_,_,HB2.out.set_ 100 (.slice _ 0 _),HC2.out.trans (Chg.of_only (OnlyB.setCell _ _ _ _) (by simp))⟩⟩,by simp [intOf]⟩
  · have hc2:¬(v.dc:Int)=1:=by omega
    go_wp2_with fail
    exact ⟨.inr ⟨rfl,Z9 ⟨_,_,HB2.out.set_ 100 (.slice _ 0 _),HC2.out.trans (Chg.of_only (OnlyB.setCell _ _ _ _) (by simp))⟩⟩,by simp [intOf]⟩
theorem zlr (gW gc:Nat) (v:VL) (now:Int) (W:World) (hB:Blk W gW 86 (v.row gc).toArray) (hw:v.u.p.wf) (hq:v.u.l.map TW.w=v.u.p.jt.q) (hn:v.u.l.length=v.u.n) (hl:v.u.n≤1000) (hcap:v.u.n≤v.u.c) (hcm:v.u.c≤maxLen) (hA:QAv W [gW] v.u.A v.u.l) (hK:∀ a∈v.u.l,I64 a.w.m.sq) (hc:Sb.chkT v.u.p now=0) (hO:∀ a∈v.u.p.jt.q,OkW a) {R:World→Prop}
 (h:∀ (V:World) (A':Option Addr) (n' c':Nat) (l':List TW) (SA:Option Addr) (sc:Nat) (ls:List TS),l'.map TW.w=(Sb.run v.u.p now).1.jt.q→l'.length=n'→n'≤c'→c'≤maxLen→(∀ S:List Nat,(∀ x∈S,x<W.heap.size)→QAv V S A' l'∧SdAv V S SA ls)→ls.map TS.s=(Sb.run v.u.p now).2→Blk V gW 86 (VL.row { v with now:=now,u:=⟨(Sb.run v.u.p now).1,A',n',c',l'⟩ } gc).toArray→Chg [gW] W V→Calls Tryz.prog 79 #[.pointer (some ⟨gW,0,none⟩), .slice SA ls.length sc] V fun e w'=>e = .returned (.tuple #[])∧R w') :
 Calls Tryz.prog 36 #[.pointer (some ⟨gW,0,none⟩), .int .i64 now] W fun e w'=>e = .returned (.tuple #[])∧R w':=by
 have y97:W.cell? ⟨gW,97,none⟩=some (.int .i64 v.now):=hB.at 97 _ rfl
 have f97:=hB.frozen 97
 have hgl:=hB.lt
 have kP:=Z9 fun (V:World) hV=>zpe v.u.p hw v.u.A v.u.l v.u.n v.u.c (PA v.u.p v.u.A v.u.n v.u.c) rfl V hq hn (by omega) hcap hcm hV hK now hc hO
 unfold PlayV at kP
 have HB:=Z9 hB
 have HA:=Z9 hA
 replace h:=Z9 h
 clear hB hA hq hn hl hcap hcm hK hc hO hw
 generalize Sb.run v.u.p now=RR at kP h
 obtain ⟨u',sds⟩:=RR
 go_enter Tryz.func36,Tryz.ntmps36
 go_upto_region 1 with fail
 obtain ⟨V0,hV⟩:∃ V,V=W.setCell ⟨gW,97,none⟩ (.int .i64 now):=⟨_,rfl⟩
 have oV0:OnlyB gW (W) V0:=by rw [hV];exact OnlyB.setCell _ _ _ _
 have B0:Blk V0 gW 86 (VL.row { v with now:=now } gc).toArray:=by rw [hV];exact HB.out.set_ 97 _
 rw [← hV]
 clear hV
 have C0:Chg [gW] W V0:=Chg.of_only oV0 (by simp)
 have hA0:=HA.out.chg C0 (by simp)
 have hsz0:=oV0.2
 have HSZ:=Z9 hsz0
 have HC0:=Z9 C0
 have hgl0:=B0.lt
 clear hsz0 C0 oV0 y97 f97
 go_wp2_with (first|(refine zae rfl 45 (.tmp 14) rfl gW 48 rfl 86 (VL.row { v with now:=now } gc) B0 48 _ Tryz.underlying45 zai (show 48+48≤111 by decide) (PA v.u.p v.u.A v.u.n v.u.c) rfl rfl ?_)|fail)
 refine (kP.out _ hA0.wts).mono ?_
 rintro e w2 ⟨A',n',c',l',SA,sc,m,ls,base,rfl,hq1,hn1,hc1,hc2,hWt,hls,hbs,hSO,hb2⟩
 obtain rfl:m=ls.length:=hSO.len.symm
 have HS:Hid (∀ S:List Nat,(∀ x∈S,x<W.heap.size)→QAv w2 S A' l'∧SdAv w2 S SA ls):=Z9 fun S hS=>⟨QAv.of_win hWt (fun x hx=>by have:=hS x hx;have:=HSZ.out;omega),SdAv.of_own hSO (fun x hx=>by have:=hS x hx;have:=HSZ.out;omega)⟩
 have B2:=B0.later hb2
 have y110:w2.cell? ⟨gW,110,none⟩=some (.bool false):=B2.at 110 _ rfl
 have hgl2:=B2.lt
 have HB2:=Z9 B2
 have HU2:=Z9 hb2
 have HL1:=Z9 hq1
 have HL2:=Z9 hn1
 have HL3:=Z9 hls
 clear hWt hSO hbs B2 hb2 B0 hA0 kP HA HB hq1 hn1 hls
 have BZ:Blk (w2.alloc (Obj.cells (PA Sb.Pt.zero none 0 0) 45)) w2.heap.size 45 (PL Sb.Pt.zero none 0 0).toArray:=Blk.new _ _ _
 go_upto_region 2 with (first|(refine zaf rfl 45 (.tmp 4) (.tmp 18) rfl (w2.heap.size) 0 rfl 45 (PL Sb.Pt.zero none 0 0) BZ (PL u' A' n' c') rfl zai (show 0+48≤48 by decide) rfl (PL u' A' n' c') rfl ?_;intro WB HB3 OB)|fail)
 have UB:Below w2.heap.size w2 WB:=OB.below ((Below.refl _ w2).alloc (Nat.le_refl _) _) (by simp) (Nat.le_refl _)
 obtain ⟨g4,hg4⟩:∃ g,g=w2.heap.size:=⟨_,rfl⟩
 rw [← hg4] at HB3 ⊢
 have hne4:gW≠g4:=by omega
 have B3:=HB2.out.later UB
 have z110:WB.cell? ⟨gW,110,none⟩=some (.bool false):=B3.at 110 _ rfl
 have f110:=B3.frozen 110
 have hgl3:=B3.lt
 have HUB:=Z9 UB
 have HBB:=Z9 B3
 have HB3:=Z9 HB3
 clear UB OB BZ hg4 y110 B3
 go_upto_region 3 with fail
 obtain ⟨V3,hV⟩:∃ V,V=WB.setCell ⟨gW,110,none⟩ (.bool false):=⟨_,rfl⟩
 have oV3:OnlyB gW (WB) V3:=by rw [hV];exact OnlyB.setCell _ _ _ _
 have B9:Blk V3 gW 86 (VL.row { v with now:=now } gc).toArray:=by rw [hV];exact HBB.out.set_ 110 _
 rw [← hV]
 clear hV
 have B43:=oV3.blk HB3.out hne4.symm
 have C3:Chg [gW] w2 V3:=(Chg.of_below HUB.out).trans (Chg.of_only oV3 (by simp))
 have HC3:=Z9 C3
 clear z110 f110 C3 oV3
 go_wp2_with (first|(refine zae rfl 45 (.tmp 4) rfl g4 0 rfl 45 (PL u' A' n' c') B43 48 _ Tryz.underlying45 zai (show 0+48≤48 by decide) (PA u' A' n' c') rfl rfl ?_)|(refine zaf rfl 45 (.tmp 35) (.tmp 33) rfl gW 48 rfl 86 (VL.row { v with now:=now } gc) B9 (PL u' A' n' c') rfl zai (show 48+48≤111 by decide) rfl (VL.row { v with now:=now,u:=⟨u',A',n',c',l'⟩ } gc) rfl ?_;intro WF BF OF)|fail)
 have CF:Chg [gW] w2 WF:=HC3.out.trans (Chg.of_only OF (by simp))
 have hcall:=h.out WF A' n' c' l' SA sc ls HL1.out HL2.out hc1 hc2 (fun S hS=>by
  have hS2:∀ x∈gW::S,x<W.heap.size:=fun x hx=>(List.mem_cons.1 hx).elim (fun e=>e ▸ hgl) (hS x)
  obtain ⟨q1,q2⟩:=HS.out (gW::S) hS2
  have q3:=q1.chg CF (by simp)
  have q4:=q2.chg CF (by simp)
  exact ⟨q3.sub (fun x hx=>List.mem_cons_of_mem _ hx),⟨⟨q4.1.1,fun h0 b off e hx=>q4.1.2 h0 b off e (List.mem_cons_of_mem _ hx)⟩,fun a ha=>(q4.2 a ha).sub (fun x hx=>List.mem_cons_of_mem _ hx)⟩⟩) HL3.out BF ((HC0.out.trans (Chg.of_below HU2.out)).trans CF)
 refine hcall.mono ?_
 rintro e w9 ⟨rfl,hR⟩
 go_wp2_with fail
 go_end0
 exact ⟨rfl,hR⟩
noncomputable def ar1_code:Code:=((Tryz.f78.body.bind (findRegS 1)).getD .skip)
theorem zwl {s1 s2 s3 s5 s6 s7 s8 s9 s10 s11 s12 s13 s14 s15 s16 s17 s18 s19 s20 s21 s22 s23 s24 s25 s26 s27 s28 s29 s30 s31 s32 s33 s34 s35 s36 s37 s38 s39 s40 s41 s42 s43 s44 s45 s46 s47 s48 s49 s50 s51 s52 s53 s54 s55 s56 s57 s58 s59 s60 s61 s62 s63 s64 s65 s66 s67 s68 s69 s70 s71 s72 s73 s74 s75 s76 s77 s78 s79 s80 s81 s82 s83 s84 s85 s86 s87 s88 s89 s90 s91 s92 s93 s94 s95 s96 s97 s98 s99 s100 s101 s102 s103 s104 s105 s106 s107 s108 s109 s110 s111 s112 s113 s114 s115 s116 s117 s118 s119 s120 s121 s122 s123 s124 s125 s126 s127 s128 s129 s130 s131 s132 s133 s134 s135 s136 s137 s138 s139 s140 s141 s142 s143 s144 s145 s146 s147 s148 s149 s150 s151 s152 s153 s154 s155 s156 s157 s158 s159 s160 s161 s162 s163 s164 s165 s166 s167 s168 s169 s170 s171 s172 s173 s174 s175 s176 s177 s178 s179 s180 s181 s182 s183 s184 s185 s186 s187 s188 s189 s190 s191 s192 s193 s194 s195 s196 s197 s198 s199 s200 s201 s202 s203 s204 s205 s206 s207 s208 s209 s210 s211 s212 s213 s214 s215 s216 s217 s218 s219 s220 s221 s222 s223 s224:Value} {Q:Exit→Act→World→Prop} (gW gc gX:Nat) (v:VL) (x:Rx) (R:Sb.Pt×Int×List Sb.Sd) (W:World) (hB:Blk W gW 86 (v.row gc).toArray) (hnow:W.cell? ⟨gW,97,none⟩=some (.int .i64 v.now)) (x0:W.cell? ⟨gX,0,none⟩=some (.bool x.mrk)) (x1:W.cell? ⟨gX,1,none⟩=some (.int .u8 x.ty)) (x2:W.cell? ⟨gX,2,none⟩=some (.int .u16 x.sq)) (x3:W.cell? ⟨gX,3,none⟩=some (.int .u32 x.ti)) (x4:W.cell? ⟨gX,4,none⟩=some (.int .u32 x.src)) (x5:W.cell? ⟨gX,5,none⟩=some (.slice x.CA x.cn x.cc)) (x6:W.cell? ⟨gX,6,none⟩=some (.bool x.ex)) (x7:W.cell? ⟨gX,7,none⟩=some (.int .u16 x.pr)) (x8:W.cell? ⟨gX,8,none⟩=some (.slice x.EA x.en x.ec)) (x9:W.cell? ⟨gX,9,none⟩=some (.slice x.B x.pl.length x.pc)) (x10:W.cell? ⟨gX,10,none⟩=some (.int .i64 x.pad)) (kR:∀ V:World,Below W.heap.size W V→Calls Tryz.prog 26 #[.agg (PA v.u.p v.u.A v.u.n v.u.c), .int .i64 v.now, .agg x.row] V (RecvR R V)) (hQp:∀ (ch:_) (a:Act) (d:Tmp) (u:Value) (w:World),Q (.panic ch) (a.put (some d) u) w→Q (.panic ch) a w)
 (h:∀ (wx:World) (g3:Nat) (SA:Option Addr) (sc m:Nat) (A':Option Addr) (n' c':Nat) (l':List TW) (ls:List TS) (u19 u20 u21 u22 u23 u24 u25 u26 u27 u28 u29 u30 u31 u32 u33:Value),Hid (PB wx g3 R.1 A' n' c')→Hid (l'.map TW.w=R.1.jt.q)→l'.length=n'→n'≤c'→c'≤maxLen→Hid (WtsIn wx W.heap.size wx.heap.size A' l')→Hid (ls.map TS.s=R.2.2)→ls.length=m→Hid (SdIn wx W.heap.size wx.heap.size SA ls)→W.heap.size≤g3→Hid (Below W.heap.size W wx)→Q .normal ⟨#[.pointer (some ⟨gW,0,none⟩),s1,s2,s3, .pointer (some ⟨gX,0,none⟩),s5,s6, .pointer (some ⟨g3,0,none⟩), .int .u8 R.2.1, .slice SA m sc, .int .u8 0,s11,s12,s13,s14,s15,s16,s17,s18,u19,u20,u21,u22,u23,u24,u25,u26,u27,u28,u29,u30,u31,u32,u33,s34,s35,s36,s37,s38,s39,s40,s41,s42,s43,s44,s45,s46,s47,s48,s49,s50,s51,s52,s53,s54,s55,s56,s57,s58,s59,s60,s61,s62,s63,s64,s65,s66,s67,s68,s69,s70,s71,s72,s73,s74,s75,s76,s77,s78,s79,s80,s81,s82,s83,s84,s85,s86,s87,s88,s89,s90,s91,s92,s93,s94,s95,s96,s97,s98,s99,s100,s101,s102,s103,s104,s105,s106,s107,s108,s109,s110,s111,s112,s113,s114,s115,s116,s117,s118,s119,s120,s121,s122,s123,s124,s125,s126,s127,s128,s129,s130,s131,s132,s133,s134,s135,s136,s137,s138,s139,s140,s141,s142,s143,s144,s145,s146,s147,s148,s149,s150,s151,s152,s153,s154,s155,s156,s157,s158,s159,s160,s161,s162,s163,s164,s165,s166,s167,s168,s169,s170,s171,s172,s173,s174,s175,s176,s177,s178,s179,s180,s181,s182,s183,s184,s185,s186,s187,s188,s189,s190,s191,s192,s193,s194,s195,s196,s197,s198,s199,s200,s201,s202,s203,s204,s205,s206,s207,s208,s209,s210,s211,s212,s213,s214,s215,s216,s217,s218,s219,s220,s221,s222,s223,s224],[]⟩ wx):ar1_code.wp Tryz.prog Q ⟨#[.pointer (some ⟨gW,0,none⟩),s1,s2,s3, .pointer (some ⟨gX,0,none⟩),s5,s6,s7,s8,s9,s10,s11,s12,s13,s14,s15,s16,s17,s18,s19,s20,s21,s22,s23,s24,s25,s26,s27,s28,s29,s30,s31,s32,s33,s34,s35,s36,s37,s38,s39,s40,s41,s42,s43,s44,s45,s46,s47,s48,s49,s50,s51,s52,s53,s54,s55,s56,s57,s58,s59,s60,s61,s62,s63,s64,s65,s66,s67,s68,s69,s70,s71,s72,s73,s74,s75,s76,s77,s78,s79,s80,s81,s82,s83,s84,s85,s86,s87,s88,s89,s90,s91,s92,s93,s94,s95,s96,s97,s98,s99,s100,s101,s102,s103,s104,s105,s106,s107,s108,s109,s110,s111,s112,s113,s114,s115,s116,s117,s118,s119,s120,s121,s122,s123,s124,s125,s126,s127,s128,s129,s130,s131,s132,s133,s134,s135,s136,s137,s138,s139,s140,s141,s142,s143,s144,s145,s146,s147,s148,s149,s150,s151,s152,s153,s154,s155,s156,s157,s158,s159,s160,s161,s162,s163,s164,s165,s166,s167,s168,s169,s170,s171,s172,s173,s174,s175,s176,s177,s178,s179,s180,s181,s182,s183,s184,s185,s186,s187,s188,s189,s190,s191,s192,s193,s194,s195,s196,s197,s198,s199,s200,s201,s202,s203,s204,s205,s206,s207,s208,s209,s210,s211,s212,s213,s214,s215,s216,s217,s218,s219,s220,s221,s222,s223,s224],[]⟩ W:=by
 have HB:=Z9 hB
 unfold Rx.row at kR
 replace kR:=Z9 kR
 clear hB
 have hq:=Z9 h
 clear h
 conv=>arg 2;whnf
 refine wp_region_held_drew (S:=fun w'=>Below W.heap.size W w') (by kernel_rfl) (Below.drew (Below.refl _ _)) (fun qH => ?_)
 obtain ⟨X,hX⟩:∃ X,X=W.drew:=⟨_,rfl⟩
 rw [← hX] at qH ⊢
 clear hX
 refine tk1 (i:=0) (v:=?_) rfl (Or.inl ⟨by rfl,?_⟩) qH ?_ (hQ:=q9 hQp)
 rotate_left
 · (intro w hSw;clear hSw;go_simp;try with_reducible rfl)
 try simp only [ss9]
 refine tk1 (i:=1) (v:=?_) rfl (Or.inl ⟨by rfl,?_⟩) qH ?_ (hQ:=q9 hQp)
 rotate_left
 · (intro w hSw;clear hSw;go_simp;try with_reducible rfl)
 try simp only [ss9]
 refine tk1 (i:=2) (v:=?_) rfl (Or.inl ⟨by rfl,?_⟩) qH ?_ (hQ:=q9 hQp)
 rotate_left
 · (intro w hSw;clear hSw;go_simp;try with_reducible rfl)
 try simp only [ss9]
 refine tk1 (i:=3) (v := .agg (PA v.u.p v.u.A v.u.n v.u.c)) rfl (zat rfl 45 (.tmp 22) rfl gW 48 rfl 86 (v.row gc) (fun w h=>HB.out.later h) 48 _ Tryz.underlying45 zai (show 48+48≤111 by decide) _ rfl rfl) qH ?_ (hQ:=q9 hQp)
 try simp only [ss9]
 refine tk1 (i:=4) (v:=?_) rfl (Or.inl ⟨by rfl,?_⟩) qH ?_ (hQ:=q9 hQp)
 rotate_left
 · (intro w hSw;clear hSw;go_simp;try with_reducible rfl)
 try simp only [ss9]
 refine tk1 (i:=5) (v:=?_) rfl (Or.inl ⟨by rfl,?_⟩) qH ?_ (hQ:=q9 hQp)
 rotate_left
 · (intro w hSw;clear hSw;go_simp;try with_reducible rfl)
 try simp only [ss9]
 refine tk1 (i:=6) (v:=?_) rfl (Or.inl ⟨by rfl,?_⟩) qH ?_ (hQ:=q9 hQp)
 rotate_left
 · (intro w hSw;clear hSw;go_simp;try with_reducible rfl)
 try simp only [ss9]
 refine tk1 (i:=7) (v:=?_) rfl (Or.inl ⟨by rfl,?_⟩) qH ?_ (hQ:=q9 hQp)
 rotate_left
 · (intro w hSw;have c0:=zag hSw hnow;clear hSw;go_simp;try with_reducible rfl)
 try simp only [ss9]
 refine tk1 (i:=8) (v:=?_) rfl (Or.inl ⟨by rfl,?_⟩) qH ?_ (hQ:=q9 hQp)
 rotate_left
 · (intro w hSw;have c0:=zag hSw x0;have c1:=zag hSw x1;have c2:=zag hSw x2;have c3:=zag hSw x3;have c4:=zag hSw x4;have c5:=zag hSw x5;have c6:=zag hSw x6;have c7:=zag hSw x7;have c8:=zag hSw x8;have c9:=zag hSw x9;have c10:=zag hSw x10;clear hSw;go_simp;try with_reducible rfl)
 try simp only [ss9]
 all_goals try
  fail_if_success (have hx:=HD)
  refine wpAnyH_ready (rs:=[9,15]) (by kernel_rfl) (by simp) ?_
  refine AllReadyH.cons (o:=_) rfl (fun K hK => ?_) (AllReadyH.cons (o:=_) rfl (fun K hK => ?_) AllReadyH.nil)
  rotate_left
  go_simp
  have HD:Hid (Blk (X.alloc (Obj.cells #[.int .u8 0, .int .u32 0, .int .u16 0, .int .u32 0, .bool false, .int .i64 0, .int .i64 0, .int .i64 0, .bool false, .int .u8 0, .int .u8 0, .int .u32 0, .int .i64 0, .int .i64 0, .int .i64 0, .int .i64 0, .int .i64 0, .bool false, .int .i64 0, .int .i64 0, .int .i64 0, .int .i64 0, .int .i64 0, .int .i64 0, .slice none 0 0, .int .i64 0, .int .i64 0, .int .i64 0, .bool false, .int .i64 0, .int .i64 0, .int .i64 0, .bool false, .int .i64 0, .int .i64 0, .int .i64 0, .int .i64 0, .int .i64 0, .int .i64 0, .int .i64 0, .bool false, .int .u32 0, .int .u8 0, .int .i64 0, .bool false, .int .u32 0, .int .u32 0, .int .u32 0] 45)) X.heap.size 45 (PL Sb.Pt.zero none 0 0).toArray):=Z9 (Blk.new _ _ _)
  have hg8:W.heap.size≤X.heap.size:=qH.size
  obtain ⟨g8,hgg⟩:∃ g,g=X.heap.size:=⟨_,rfl⟩
  refine hK.out _ _ ?_ (fun qH => ?_)
  · exact zah qH _
  clear hK K
  try simp only [ss9]
  rw [← hgg] at HD hg8 ⊢
  have HGG:=Z9 hgg
  clear hgg
  obtain ⟨Y,hY⟩:∃ V,V=X.alloc (Obj.cells #[.int .u8 0, .int .u32 0, .int .u16 0, .int .u32 0, .bool false, .int .i64 0, .int .i64 0, .int .i64 0, .bool false, .int .u8 0, .int .u8 0, .int .u32 0, .int .i64 0, .int .i64 0, .int .i64 0, .int .i64 0, .int .i64 0, .bool false, .int .i64 0, .int .i64 0, .int .i64 0, .int .i64 0, .int .i64 0, .int .i64 0, .slice none 0 0, .int .i64 0, .int .i64 0, .int .i64 0, .bool false, .int .i64 0, .int .i64 0, .int .i64 0, .bool false, .int .i64 0, .int .i64 0, .int .i64 0, .int .i64 0, .int .i64 0, .int .i64 0, .int .i64 0, .bool false, .int .u32 0, .int .u8 0, .int .i64 0, .bool false, .int .u32 0, .int .u32 0, .int .u32 0] 45):=⟨_,rfl⟩
  rw [← hY] at HD qH ⊢
  clear hY
  obtain ⟨X,hX⟩:∃ X,X=Y:=⟨_,rfl⟩
  subst hX
 all_goals try
  refine wpAnyH_ready (rs:=[9]) (by kernel_rfl) (by simp) ?_
  refine AllReadyH.cons (o:=_) rfl (fun K hK => ?_) AllReadyH.nil
 all_goals
  go_simp
  try have HCS:=Z9 HD.out.lt
  have hlo:=qH.size
  refine (kR.out _ qH).mono ?_
  rintro e X ⟨A',n',c',l',SA,sc,m,ls,base,rfl,hq1,hn,hc1,hc2,hW,hls,hbs,hso,hb2⟩
  have HW:=Z9 hW
  have hlm:=hso.len
  have HSD:=Z9 (hso.in_.less hbs)
  have HQ1:=Z9 hq1
  have HLS:=Z9 hls
  clear hq1 hW hls hso hbs
  try replace HD:=Z9 (HD.out.later hb2)
  refine hK.out _ _ ?_ (fun qH => ?_)
  · exact zak hb2 qH
  clear hK K hb2
  try simp only [ss9]
 all_goals
  refine tk1 (i:=10) (v:=?_) rfl (Or.inl ⟨by rfl,?_⟩) qH ?_ (hQ:=q9 hQp)
  rotate_left
  · (intro w hSw;clear hSw;go_simp;try with_reducible rfl)
  try simp only [ss9]
  refine tk1 (i:=11) (v:=?_) rfl (Or.inl ⟨by rfl,?_⟩) qH ?_ (hQ:=q9 hQp)
  rotate_left
  · (intro w hSw;clear hSw;go_simp;try with_reducible rfl)
  try simp only [ss9]
  refine tk1 (i:=12) (v:=?_) rfl (Or.inl ⟨by rfl,?_⟩) qH ?_ (hQ:=q9 hQp)
  rotate_left
  · (intro w hSw;clear hSw;go_simp;try with_reducible rfl)
  try simp only [ss9]
  refine tk1 (i:=13) (v:=?_) rfl (Or.inl ⟨by rfl,?_⟩) qH ?_ (hQ:=q9 hQp)
  rotate_left
  · (intro w hSw;clear hSw;go_simp;try with_reducible rfl)
  try simp only [ss9]
  refine tk1 (i:=14) (v:=?_) rfl (Or.inl ⟨by rfl,?_⟩) qH ?_ (hQ:=q9 hQp)
  rotate_left
  · (intro w hSw;clear hSw;go_simp;try with_reducible rfl)
  try simp only [ss9]
 all_goals try
  fail_if_success (have hx:=HD)
  refine wpAnyH_ready (rs:=[15]) (by kernel_rfl) (by simp) ?_
  refine AllReadyH.cons (o:=_) rfl (fun K hK => ?_) AllReadyH.nil
  go_simp
  have HD:Hid (Blk (X.alloc (Obj.cells #[.int .u8 0, .int .u32 0, .int .u16 0, .int .u32 0, .bool false, .int .i64 0, .int .i64 0, .int .i64 0, .bool false, .int .u8 0, .int .u8 0, .int .u32 0, .int .i64 0, .int .i64 0, .int .i64 0, .int .i64 0, .int .i64 0, .bool false, .int .i64 0, .int .i64 0, .int .i64 0, .int .i64 0, .int .i64 0, .int .i64 0, .slice none 0 0, .int .i64 0, .int .i64 0, .int .i64 0, .bool false, .int .i64 0, .int .i64 0, .int .i64 0, .bool false, .int .i64 0, .int .i64 0, .int .i64 0, .int .i64 0, .int .i64 0, .int .i64 0, .int .i64 0, .bool false, .int .u32 0, .int .u8 0, .int .i64 0, .bool false, .int .u32 0, .int .u32 0, .int .u32 0] 45)) X.heap.size 45 (PL Sb.Pt.zero none 0 0).toArray):=Z9 (Blk.new _ _ _)
  have hg8:W.heap.size≤X.heap.size:=qH.size
  obtain ⟨g8,hgg⟩:∃ g,g=X.heap.size:=⟨_,rfl⟩
  replace HW:=Z9 (HW.out.below ((Below.refl _ _).alloc (Nat.le_refl _) (Obj.cells #[.int .u8 0, .int .u32 0, .int .u16 0, .int .u32 0, .bool false, .int .i64 0, .int .i64 0, .int .i64 0, .bool false, .int .u8 0, .int .u8 0, .int .u32 0, .int .i64 0, .int .i64 0, .int .i64 0, .int .i64 0, .int .i64 0, .bool false, .int .i64 0, .int .i64 0, .int .i64 0, .int .i64 0, .int .i64 0, .int .i64 0, .slice none 0 0, .int .i64 0, .int .i64 0, .int .i64 0, .bool false, .int .i64 0, .int .i64 0, .int .i64 0, .bool false, .int .i64 0, .int .i64 0, .int .i64 0, .int .i64 0, .int .i64 0, .int .i64 0, .int .i64 0, .bool false, .int .u32 0, .int .u8 0, .int .i64 0, .bool false, .int .u32 0, .int .u32 0, .int .u32 0] 45)) (Nat.le_refl _))
  replace HSD:=Z9 (HSD.out.below ((Below.refl _ _).alloc (Nat.le_refl _) (Obj.cells #[.int .u8 0, .int .u32 0, .int .u16 0, .int .u32 0, .bool false, .int .i64 0, .int .i64 0, .int .i64 0, .bool false, .int .u8 0, .int .u8 0, .int .u32 0, .int .i64 0, .int .i64 0, .int .i64 0, .int .i64 0, .int .i64 0, .bool false, .int .i64 0, .int .i64 0, .int .i64 0, .int .i64 0, .int .i64 0, .int .i64 0, .slice none 0 0, .int .i64 0, .int .i64 0, .int .i64 0, .bool false, .int .i64 0, .int .i64 0, .int .i64 0, .bool false, .int .i64 0, .int .i64 0, .int .i64 0, .int .i64 0, .int .i64 0, .int .i64 0, .int .i64 0, .bool false, .int .u32 0, .int .u8 0, .int .i64 0, .bool false, .int .u32 0, .int .u32 0, .int .u32 0] 45)) (Nat.le_refl _))
  refine hK.out _ _ ?_ (fun qH => ?_)
  · exact zah qH _
  clear hK K
  try simp only [ss9]
  rw [← hgg] at HD hg8 ⊢
  have HGG:=Z9 hgg
  clear hgg
  obtain ⟨Y,hY⟩:∃ V,V=X.alloc (Obj.cells #[.int .u8 0, .int .u32 0, .int .u16 0, .int .u32 0, .bool false, .int .i64 0, .int .i64 0, .int .i64 0, .bool false, .int .u8 0, .int .u8 0, .int .u32 0, .int .i64 0, .int .i64 0, .int .i64 0, .int .i64 0, .int .i64 0, .bool false, .int .i64 0, .int .i64 0, .int .i64 0, .int .i64 0, .int .i64 0, .int .i64 0, .slice none 0 0, .int .i64 0, .int .i64 0, .int .i64 0, .bool false, .int .i64 0, .int .i64 0, .int .i64 0, .bool false, .int .i64 0, .int .i64 0, .int .i64 0, .int .i64 0, .int .i64 0, .int .i64 0, .int .i64 0, .bool false, .int .u32 0, .int .u8 0, .int .i64 0, .bool false, .int .u32 0, .int .u32 0, .int .u32 0] 45):=⟨_,rfl⟩
  rw [← hY] at HD qH HW HSD ⊢
  clear hY
  obtain ⟨X,hX⟩:∃ X,X=Y:=⟨_,rfl⟩
  subst hX
 all_goals
  refine wpAnyH_ready (rs:=[16]) (by kernel_rfl) (by simp) ?_
  refine AllReadyH.cons (o:=_) rfl (fun K hK => ?_) AllReadyH.nil
  refine zal rfl 45 (.tmp 7) (.tmp 30) rfl g8 0 rfl 45 _ HD.out (PL R.1 A' n' c') rfl zai (Nat.le_refl 48) rfl (PL R.1 A' n' c') rfl ?_
  intro WF BF OF
  have HF:=OF.bel (show Bel W X from qH) hg8
  refine hK.out _ _ HF (fun qH => ?_)
  clear hK K
  try simp only [ss9]
  refine tk1 (i:=17) (v:=?_) rfl (Or.inl ⟨by rfl,?_⟩) qH ?_ (hQ:=q9 hQp)
  rotate_left
  · (intro w hSw;clear hSw;go_simp;try with_reducible rfl)
  try simp only [ss9]
  refine tk1 (i:=18) (v:=?_) rfl (Or.inl ⟨by rfl,?_⟩) qH ?_ (hQ:=q9 hQp)
  rotate_left
  · (intro w hSw;clear hSw;go_simp;try with_reducible rfl)
  try simp only [ss9]
  refine tk1 (i:=19) (v:=?_) rfl (Or.inl ⟨by rfl,?_⟩) qH ?_ (hQ:=q9 hQp)
  rotate_left
  · (intro w hSw;clear hSw;go_simp;try with_reducible rfl)
  try simp only [ss9]
  refine wpAnyH_done (by kernel_rfl) ?_ _
  exact hq.out WF g8 SA sc m A' n' c' l' ls _ _ _ _ _ _ _ _ _ _ _ _ _ _ _ (Z9 BF) HQ1 hn hc1 hc2 (Z9 (((HW.out.onlyN OF (by first|exact Or.inl HCS.out|exact Or.inr (by rw [HGG.out];exact Nat.le_refl _))).more (by rw [OF.2];first|exact Nat.le_refl _|(have h1:=HD.out.lt;have h2:=HGG.out;omega))).less hlo)) HLS hlm (Z9 (((HSD.out.onlyN OF (by first|exact Or.inl HCS.out|exact Or.inr (by rw [HGG.out];exact Nat.le_refl _))).more (by rw [OF.2];first|exact Nat.le_refl _|(have h1:=HD.out.lt;have h2:=HGG.out;omega))).less hlo)) hg8 (Z9 HF)
theorem zog (s:Jb.Jt) (A:Option Addr) (l:List TW) (n c:Nat) (t:Int) (w:World) (hok:s.ok) (hq:l.map TW.w=s.q) (hn:l.length=n) (hl:n≤100000) (hA:Wts w w.heap.size A l) (hK:∀ a∈l,I64 a.w.m.sq) (t0:0≤t) (t1:t≤4294967295):Calls Tryz.prog 116 #[.agg #[.int .i64 s.least, .int .i64 s.most, .int .i64 s.now, .bool s.on, .int .i64 s.zero, .int .i64 s.first, .int .i64 s.high, .int .i64 s.done, .int .i64 s.spread, .int .i64 s.trans, .slice A n c, .int .i64 s.late, .int .i64 s.twice, .int .i64 s.played], .int .i64 t] w fun e w'=>e = .returned (.int .i64 (Jb.ptime s t))∧Below w.heap.size w w':=by
 have k1:=Z9 fun (W:World) (hW:Below w.heap.size w W)=>zkf s A l n c W hq hn hl ((hA.keep (fun _ hp=>hW.cell hp)).more hW.size) hK true (by unfold Jb.valid;exact (decide_eq_true hok).symm)
 obtain ⟨⟨_,⟨z0,z1⟩,_,⟨f0,f1⟩,_⟩,_⟩:=hok
 have k2:=Z9 fun (W:World)=>zdt s.least s.most s.now s.on s.zero s.first s.high s.done s.spread s.trans A n c s.late s.twice s.played t W z0 z1 f0 f1 (by omega) (by omega)
 have hB:=Blk.new w 37 #[.int .i64 s.least, .int .i64 s.most, .int .i64 s.now, .bool s.on, .int .i64 s.zero, .int .i64 s.first, .int .i64 s.high, .int .i64 s.done, .int .i64 s.spread, .int .i64 s.trans, .slice A n c, .int .i64 s.late, .int .i64 s.twice, .int .i64 s.played]
 have UX:Below w.heap.size w (w.alloc (.cells #[.int .i64 s.least, .int .i64 s.most, .int .i64 s.now, .bool s.on, .int .i64 s.zero, .int .i64 s.first, .int .i64 s.high, .int .i64 s.done, .int .i64 s.spread, .int .i64 s.trans, .slice A n c, .int .i64 s.late, .int .i64 s.twice, .int .i64 s.played] 37)):=(Below.refl _ _).alloc (Nat.le_refl _) _
 have c1:¬t < -281474976710656:=by omega
 have c2:¬t > 281474976710656:=by omega
 have HB:=Z9 hB
 have HU:=Z9 UX
 obtain ⟨r,hr⟩:∃ r,r=Jb.ptime s t:=⟨_,rfl⟩
 have hr2:s.zero+(t-s.first) / 8=r:=by rw [hr];rfl
 rw [← hr]
 rw [hr2] at k2
 clear hr hr2 hB UX hA hK hq
 go_enter Tryz.func116,Tryz.ntmps116
 go_wp2_with fail
 refine (k1.out _ HU.out).mono ?_
 rintro e w1 ⟨rfl,hb1⟩
 have hbx:=HB.out.later hb1
 have s0:=hbx.at 0 _ rfl
 have s1:=hbx.at 1 _ rfl
 have s2:=hbx.at 2 _ rfl
 have s3:=hbx.at 3 _ rfl
 have s4:=hbx.at 4 _ rfl
 have s5:=hbx.at 5 _ rfl
 have s6:=hbx.at 6 _ rfl
 have s7:=hbx.at 7 _ rfl
 have s8:=hbx.at 8 _ rfl
 have s9:=hbx.at 9 _ rfl
 have s10:=hbx.at 10 _ rfl
 have s11:=hbx.at 11 _ rfl
 have s12:=hbx.at 12 _ rfl
 have s13:=hbx.at 13 _ rfl
 have HU1:=Z9 (HU.out.trans (hb1.mono HU.out.size))
 clear hb1 hbx
 go_wp2_with fail
 refine (k2.out _).mono ?_
 rintro e w2 ⟨rfl,hb2⟩
 have HU2:=Z9 (HU1.out.trans (hb2.mono HU1.out.size))
 clear hb2 s0 s1 s2 s3 s4 s5 s6 s7 s8 s9 s10 s11 s12 s13
 go_wp2_with fail
 go_ret
 exact ⟨rfl,HU2.out⟩
theorem r225 (s:Nat→Value):((List.range 225).map s).toArray = #[s 0,s 1,s 2,s 3,s 4,s 5,s 6,s 7,s 8,s 9,s 10,s 11,s 12,s 13,s 14,s 15,s 16,s 17,s 18,s 19,s 20,s 21,s 22,s 23,s 24,s 25,s 26,s 27,s 28,s 29,s 30,s 31,s 32,s 33,s 34,s 35,s 36,s 37,s 38,s 39,s 40,s 41,s 42,s 43,s 44,s 45,s 46,s 47,s 48,s 49,s 50,s 51,s 52,s 53,s 54,s 55,s 56,s 57,s 58,s 59,s 60,s 61,s 62,s 63,s 64,s 65,s 66,s 67,s 68,s 69,s 70,s 71,s 72,s 73,s 74,s 75,s 76,s 77,s 78,s 79,s 80,s 81,s 82,s 83,s 84,s 85,s 86,s 87,s 88,s 89,s 90,s 91,s 92,s 93,s 94,s 95,s 96,s 97,s 98,s 99,s 100,s 101,s 102,s 103,s 104,s 105,s 106,s 107,s 108,s 109,s 110,s 111,s 112,s 113,s 114,s 115,s 116,s 117,s 118,s 119,s 120,s 121,s 122,s 123,s 124,s 125,s 126,s 127,s 128,s 129,s 130,s 131,s 132,s 133,s 134,s 135,s 136,s 137,s 138,s 139,s 140,s 141,s 142,s 143,s 144,s 145,s 146,s 147,s 148,s 149,s 150,s 151,s 152,s 153,s 154,s 155,s 156,s 157,s 158,s 159,s 160,s 161,s 162,s 163,s 164,s 165,s 166,s 167,s 168,s 169,s 170,s 171,s 172,s 173,s 174,s 175,s 176,s 177,s 178,s 179,s 180,s 181,s 182,s 183,s 184,s 185,s 186,s 187,s 188,s 189,s 190,s 191,s 192,s 193,s 194,s 195,s 196,s 197,s 198,s 199,s 200,s 201,s 202,s 203,s 204,s 205,s 206,s 207,s 208,s 209,s 210,s 211,s 212,s 213,s 214,s 215,s 216,s 217,s 218,s 219,s 220,s 221,s 222,s 223,s 224]:=rfl
noncomputable def ar6_code:Code:=((Tryz.f78.body.bind (fromReg 6)).getD .skip)
theorem zui (gW gc:Nat) (v:VL) (k:Sb.Pkt) (ok:k.ok) (u':Sb.Pt) (DA:Option Addr) (dn dc:Nat) (W:World) (hB:Blk W gW 86 (v.row gc).toArray) (hdn:(Pk.bytes k.pk).length=dn) (hdc:dn≤dc) (hD:IntsAt W W.heap.size .u8 DA (Pk.bytes k.pk)) (hds:v.ds=[]) (hsq:k.sq<(v.ss.length:Int))
 (kR:∀ (V:World) (Mx:Option Addr) (cm:Nat) (Et:Option Addr) (ce:Nat) (Pl:Option Addr) (cp:Nat),Below W.heap.size W V→IntsAt V V.heap.size .u8 Pl k.pl→Calls Tryz.prog 26 #[.agg (PA v.u.p v.u.A v.u.n v.u.c), .int .i64 v.now, .agg (k.rx Mx cm Et ce Pl cp).row] V (RecvR (u',1,[]) V)) {R:Ending→World→Prop}
 (h:∀ (W':World) (a:Act) (gX g3:Nat) (Mx:Option Addr) (cm:Nat) (Et:Option Addr) (ce:Nat) (Pl:Option Addr) (cp:Nat) (A':Option Addr) (n' c':Nat) (l':List TW),Blk W' gW 86 (VL.row { v with u:=⟨u',A',n',c',l'⟩ } gc).toArray→Blk W' gX 112 (k.rx Mx cm Et ce Pl cp).row→Blk W' g3 45 (PL u' A' n' c').toArray→W.heap.size≤gX→W.heap.size≤g3→gX≠g3→l'.map TW.w=u'.jt.q→l'.length=n'→n'≤c'→c'≤maxLen→(∀ S:List Nat,(∀ x∈S,x<W.heap.size)→QAv W' S A' l')→Chg [gW] W W'→Fr 225 [(0, .pointer (some ⟨gW,0,none⟩)),(4, .pointer (some ⟨gX,0,none⟩)),(7, .pointer (some ⟨g3,0,none⟩)),(8, .int .u8 1)] a→firstWp Tryz.prog ar6_code (bodyPost Tryz.prog Tryz.f78 R) a W'):Calls Tryz.prog 78 #[.pointer (some ⟨gW,0,none⟩), .slice DA dn dc] W R:=by
 have hgl:=hB.lt
 have kD:=Z9 fun (V:World) hV=>zpa k ok DA dn dc hdn hdc V hV
 have HB:=Z9 hB
 have HD:=Z9 hD
 have hq0:0≤k.sq∧k.sq≤65535:=⟨ok.sq0,ok.sq1⟩
 obtain ⟨hq0,hq1⟩:=hq0
 replace kR:=Z9 kR
 replace h:=Z9 h
 have HOK:=Z9 ok
 clear hB hD hdn hdc ok
 go_enter Tryz.func78,Tryz.ntmps78
 go_wp2_with fail
 refine (kD.out _ HD.out).mono ?_
 rintro e w3 ⟨Mx,cm,Et,ce,Pl,cp,rfl,hcp,hI3,hb⟩
 obtain ⟨x,hx⟩:∃ x,x=k.rx Mx cm Et ce Pl cp:=⟨_,rfl⟩
 have BX:=Blk.new w3 112 (k.rx Mx cm Et ce Pl cp).row
 have hb9:=(Below.refl w3.heap.size w3).alloc (Nat.le_refl _) (Obj.cells (k.rx Mx cm Et ce Pl cp).row 112)
 obtain ⟨X0,hX0⟩:∃ X0,X0=w3.alloc (.cells (k.rx Mx cm Et ce Pl cp).row 112):=⟨_,rfl⟩
 obtain ⟨gX,hgX⟩:∃ g,g=w3.heap.size:=⟨_,rfl⟩
 have hgXW:W.heap.size≤gX:=by rw [hgX];exact hb.size
 have hPl:=(hI3.1.keep (fun _ hp=>hb9.cell hp)).more hb9.size
 rw [← hX0] at BX hb9 hPl
 rw [← hgX] at BX
 have hUX:Below W.heap.size W X0:=hb.trans (hb9.mono hb.size)
 have B0:=HB.out.later hUX
 have hnow:X0.cell? ⟨gW,97,none⟩=some (.int .i64 v.now):=B0.at 97 _ rfl
 have HBX:=Z9 BX
 have HPl:=Z9 hPl
 have HUX:=Z9 hUX
 have HX0:=Z9 hX0
 have HgX:=Z9 hgX
 have hgXl:=BX.lt
 clear hb hI3 hb9 hPl hUX hX0 hgX BX HD kD hx
 go_upto_region 1 with fail
 change Code.wp _ _ _ _ (w3.alloc (.cells (k.rx Mx cm Et ce Pl cp).row 112))
 rw [← HX0.out,← HgX.out]
 refine zwl gW gc gX v (k.rx Mx cm Et ce Pl cp) (u',1,[]) X0 B0 hnow (HBX.out.at 0 _ rfl) (HBX.out.at 1 _ rfl) (HBX.out.at 2 _ rfl) (HBX.out.at 3 _ rfl) (HBX.out.at 4 _ rfl) (HBX.out.at 5 _ rfl) (HBX.out.at 6 _ rfl) (HBX.out.at 7 _ rfl) (HBX.out.at 8 _ rfl) (HBX.out.at 9 _ rfl) (HBX.out.at 10 _ rfl) (fun V hV=>kR.out V Mx cm Et ce Pl cp (HUX.out.trans (hV.mono HUX.out.size)) ((HPl.out.keep (fun _ hp=>hV.cell hp)).more hV.size)) ?_ ?_
 · intro ch a d u w h;exact h
 intro wx g3 SA sc m A' n' c' l' ls u19 u20 u21 u22 u23 u24 u25 u26 u27 u28 u29 u30 u31 u32 u33 HP HQ hn hc1 hc2 HW HLS hlm HSD hg3 HBB
 obtain rfl:ls=[]:=List.map_eq_nil_iff.1 HLS.out
 obtain rfl:0=m:=hlm
 have B1:=B0.later HBB.out
 have BX1:=HBX.out.later HBB.out
 have y99:wx.cell? ⟨gW,99,none⟩=some (.slice v.sA v.ss.length v.sc):=B1.at 99 _ rfl
 have x2:wx.cell? ⟨gX,2,none⟩=some (.int .u16 k.sq):=BX1.at 2 _ rfl
 have hw2:IntKind.i64.wrap k.sq=k.sq:=by simp only [IntKind.wrap,IntKind.bits,IntKind.signed];simp;omega
 have hle:¬(v.ss.length:Int)≤k.sq:=by omega
 have hle2:decide ((v.ss.length:Int)≤k.sq)=false:=decide_eq_false hle
 have HB1:=Z9 B1
 have HBX1:=Z9 BX1
 clear B0 B1 BX1 hnow HLS
 go_upto_region 2 with fail
 go_region
 go_upto_region 4 with fail
 have HP2:Blk (World.drew wx) g3 45 (PL u' A' n' c').toArray:=HP.out
 have HB2:Blk (World.drew wx) gW 86 (v.row gc).toArray:=HB1.out
 have HX2:Blk (World.drew wx) gX 112 (k.rx Mx cm Et ce Pl cp).row:=HBX1.out
 have HU2:Below X0.heap.size X0 (World.drew wx):=Below.drew HBB.out
 have HQ2:WtsIn (World.drew wx) X0.heap.size (World.drew wx).heap.size A' l':=HW.out.keep (w':=World.drew wx) (fun _ _ _=>rfl)
 generalize World.drew wx=W2 at HP2 HB2 HX2 HU2 HQ2 ⊢
 have hgl2:=HB2.lt
 have hgl3:=HP2.lt
 have hn3:g3≠gX:=by omega
 have hUW:Below W.heap.size W W2:=HUX.out.trans (HU2.mono HUX.out.size)
 have HUW:=Z9 hUW
 have hX0s:=HUX.out.size
 have HQS:Hid (∀ S:List Nat,(∀ x∈S,x<W.heap.size)→QAv W2 S A' l'):=Z9 fun S hS=>QAv.of_win HQ2 (fun x hx=>by have:=hS x hx;omega)
 clear HP HB1 HBX1 HBB HW y99 x2 hw2 hle hle2 hUW HU2 HQ2 HPl HUX HX0 HgX HBX kR
 go_upto_region 5 with (first|(refine zae rfl 45 (.tmp 7) rfl g3 0 rfl 45 (PL u' A' n' c') HP2 48 _ Tryz.underlying45 zai (show 0+48≤48 by decide) (PA u' A' n' c') rfl rfl ?_)|(refine zaf rfl 45 (.tmp 57) (.tmp 55) rfl gW 48 rfl 86 (v.row gc) HB2 (PL u' A' n' c') rfl zai (show 48+48≤111 by decide) rfl (VL.row { v with u:=⟨u',A',n',c',l'⟩ } gc) rfl ?_;intro WF BF OF)|fail)
 have kH:=zoe gW gc { v with u:=⟨u',A',n',c',l'⟩ } SA sc WF BF hds
 have HC1:Hid (Chg [gW] W2 WF):=Z9 (Chg.of_only OF (by simp))
 have hne:¬gX=gW:=by omega
 have hne3:¬g3=gW:=by omega
 have HXF:=Z9 (OF.blk HX2 hne)
 have HPF:=Z9 (OF.blk HP2 hne3)
 clear HP2 HB2 HX2 OF BF
 go_wp2_with fail
 refine kH.mono ?_
 rintro e w5 ⟨rfl,hB5,hC5⟩
 have HC5:=Z9 (HC1.out.trans hC5)
 have hX5:=hC5.blk HXF.out (by simp;exact hne)
 have hP5:=hC5.blk HPF.out (by simp;exact hne3)
 have HB5:=Z9 hB5
 have HX5:=Z9 hX5
 have HP5:=Z9 hP5
 clear hB5 hC5 hX5 hP5 kH HXF HPF HC1
 go_upto_region 6 with fail
 refine zbh (by assumption) (by assumption) ?_
 refine h.out w5 _ gX g3 Mx cm Et ce Pl cp A' n' c' l' HB5.out HX5.out HP5.out hgXW (Nat.le_trans hX0s hg3) hn3.symm HQ.out hn hc1 hc2 (fun S hS => ?_) ((Chg.of_below HUW.out).trans HC5.out) (Fr.mk rfl ⟨rfl,rfl,rfl,rfl,trivial⟩)
 have hS2:∀ x∈gW::S,x<W.heap.size:=fun x hx=>(List.mem_cons.1 hx).elim (fun e=>e ▸ hgl) (hS x)
 exact ((HQS.out (gW::S) hS2).chg HC5.out (by simp)).sub (fun x hx=>List.mem_cons_of_mem _ hx)
noncomputable def ar10_code:Code:=((Tryz.f78.body.bind (fromReg 10)).getD .skip)
theorem zwm {gW gX g3:Nat} {k:Sb.Pkt} (ok:k.ok) {Mx:Option Addr} {cm:Nat} {Et:Option Addr} {ce:Nat} {Pl:Option Addr} {cp:Nat} {u:Sb.Pt} {A:Option Addr} {n c:Nat} {l:List TW} {W:World} (hX:Blk W gX 112 (k.rx Mx cm Et ce Pl cp).row) (hP:Blk W g3 45 (PL u A n c).toArray) (hty:k.ty≠101) (hok:u.jt.ok) (hq:l.map TW.w=u.jt.q) (hn:l.length=n) (hl:n≤1000) (hA:Wts W W.heap.size A l) (hK:∀ a∈l,I64 a.w.m.sq) {R:Ending→World→Prop}
 (h:∀ (W':World) (a:Act),Below W.heap.size W W'→Fr 225 [(0, .pointer (some ⟨gW,0,none⟩)),(4, .pointer (some ⟨gX,0,none⟩)),(7, .pointer (some ⟨g3,0,none⟩)),(8, .int .u8 1),(11, .int .i64 k.sq),(12, .int .i64 (Jb.ptime u.jt k.ti))] a→firstWp Tryz.prog ar10_code (bodyPost Tryz.prog Tryz.f78 R) a W') (a:Act) (ha:Fr 225 [(0, .pointer (some ⟨gW,0,none⟩)),(4, .pointer (some ⟨gX,0,none⟩)),(7, .pointer (some ⟨g3,0,none⟩)),(8, .int .u8 1)] a):firstWp Tryz.prog ar6_code (bodyPost Tryz.prog Tryz.f78 R) a W:=by
 obtain ⟨s,rfl,hs9⟩:=ha
 rw [r225]
 obtain ⟨e0,e4,e7,e8,_⟩:=hs9
 rw [e0,e4,e7,e8]
 have x1:W.cell? ⟨gX,1,none⟩=some (.int .u8 k.ty):=hX.at 1 _ rfl
 have x2:W.cell? ⟨gX,2,none⟩=some (.int .u16 k.sq):=hX.at 2 _ rfl
 have x3:W.cell? ⟨gX,3,none⟩=some (.int .u32 k.ti):=hX.at 3 _ rfl
 have j0:W.cell? ⟨g3,14,none⟩=some (.int .i64 u.jt.least):=hP.at 14 _ rfl
 have j1:W.cell? ⟨g3,15,none⟩=some (.int .i64 u.jt.most):=hP.at 15 _ rfl
 have j2:W.cell? ⟨g3,16,none⟩=some (.int .i64 u.jt.now):=hP.at 16 _ rfl
 have j3:W.cell? ⟨g3,17,none⟩=some (.bool u.jt.on):=hP.at 17 _ rfl
 have j4:W.cell? ⟨g3,18,none⟩=some (.int .i64 u.jt.zero):=hP.at 18 _ rfl
 have j5:W.cell? ⟨g3,19,none⟩=some (.int .i64 u.jt.first):=hP.at 19 _ rfl
 have j6:W.cell? ⟨g3,20,none⟩=some (.int .i64 u.jt.high):=hP.at 20 _ rfl
 have j7:W.cell? ⟨g3,21,none⟩=some (.int .i64 u.jt.done):=hP.at 21 _ rfl
 have j8:W.cell? ⟨g3,22,none⟩=some (.int .i64 u.jt.spread):=hP.at 22 _ rfl
 have j9:W.cell? ⟨g3,23,none⟩=some (.int .i64 u.jt.trans):=hP.at 23 _ rfl
 have j10:W.cell? ⟨g3,24,none⟩=some (.slice A n c):=hP.at 24 _ rfl
 have j11:W.cell? ⟨g3,25,none⟩=some (.int .i64 u.jt.late):=hP.at 25 _ rfl
 have j12:W.cell? ⟨g3,26,none⟩=some (.int .i64 u.jt.twice):=hP.at 26 _ rfl
 have j13:W.cell? ⟨g3,27,none⟩=some (.int .i64 u.jt.played):=hP.at 27 _ rfl
 have kT:=Z9 fun (V:World) (hV:Below W.heap.size W V)=>zog u.jt A l n c k.ti V hok hq hn (by omega) ((hA.keep (fun _ hp=>hV.cell hp)).more hV.size) hK ok.ti0 ok.ti1
 have w1:IntKind.i64.wrap k.sq=k.sq:=by have:=ok.sq0;have:=ok.sq1;simp only [IntKind.wrap,IntKind.bits,IntKind.signed];simp;omega
 have w2:IntKind.i64.wrap k.ti=k.ti:=by have:=ok.ti0;have:=ok.ti1;simp only [IntKind.wrap,IntKind.bits,IntKind.signed];simp;omega
 generalize Jb.ptime u.jt k.ti=pt at kT h
 replace h:=Z9 h
 clear hX hP hok hq hn hl hA hK e0 e4 e7 e8
 refine zas ?_
 intro _ _ _ _
 go_upto_region 9 with fail
 go_region_held3 (fun w'=>Below W.heap.size W w'∧w'.cell? ⟨gX,2,none⟩=some (.int .u16 k.sq)∧w'.cell? ⟨gX,3,none⟩=some (.int .u32 k.ti)∧w'.cell? ⟨g3,14,none⟩=some (.int .i64 u.jt.least)∧w'.cell? ⟨g3,15,none⟩=some (.int .i64 u.jt.most)∧w'.cell? ⟨g3,16,none⟩=some (.int .i64 u.jt.now)∧w'.cell? ⟨g3,17,none⟩=some (.bool u.jt.on)∧w'.cell? ⟨g3,18,none⟩=some (.int .i64 u.jt.zero)∧w'.cell? ⟨g3,19,none⟩=some (.int .i64 u.jt.first)∧w'.cell? ⟨g3,20,none⟩=some (.int .i64 u.jt.high)∧w'.cell? ⟨g3,21,none⟩=some (.int .i64 u.jt.done)∧w'.cell? ⟨g3,22,none⟩=some (.int .i64 u.jt.spread)∧w'.cell? ⟨g3,23,none⟩=some (.int .i64 u.jt.trans)∧w'.cell? ⟨g3,24,none⟩=some (.slice A n c)∧w'.cell? ⟨g3,25,none⟩=some (.int .i64 u.jt.late)∧w'.cell? ⟨g3,26,none⟩=some (.int .i64 u.jt.twice)∧w'.cell? ⟨g3,27,none⟩=some (.int .i64 u.jt.played))
  (first|assumption|((try go_split_ands);refine zbv ?_ (fun hbX=>⟨zag hbX x2,zag hbX x3,zag hbX j0,zag hbX j1,zag hbX j2,zag hbX j3,zag hbX j4,zag hbX j5,zag hbX j6,zag hbX j7,zag hbX j8,zag hbX j9,zag hbX j10,zag hbX j11,zag hbX j12,zag hbX j13⟩);(with_reducible repeat first|assumption|exact Below.refl _ _|exact zak (by assumption) (by assumption)|refine Below.drew ?_|refine zah ?_ _)))
  (first
   | (go_at_call 116;refine (kT.out _ (by (try go_split_ands);first|assumption|exact Below.drew (Below.refl _ _))).mono ?_;rintro e w7 ⟨rfl,qb⟩;have hbw:Below W.heap.size W w7:=zak qb (by (try go_split_ands);first|assumption|exact Below.drew (Below.refl _ _))))
 all_goals
  go_upto_region 10 with fail
  refine zbh (by assumption) (by assumption) ?_
  exact h.out _ _ hbw (Fr.mk rfl ⟨rfl,rfl,rfl,rfl,rfl,rfl,trivial⟩)
noncomputable def ar12r_code:Code:=((Tryz.f78.body.bind (findRegS 12)).getD .skip)
def VL.cnt (v:VL) (sq:Int):VL := { v with count:=v.count+1,least:=min v.least sq,most:=max v.most sq }
theorem zqy {s1 s2 s3 s4 s5 s6 s7 s8 s9 s10 s12 s13 s14 s15 s16 s17 s18 s19 s20 s21 s22 s23 s24 s25 s26 s27 s28 s29 s30 s31 s32 s33 s34 s35 s36 s37 s38 s39 s40 s41 s42 s43 s44 s45 s46 s47 s48 s49 s50 s51 s52 s53 s54 s55 s56 s57 s58 s59 s60 s61 s62 s63 s64 s65 s66 s67 s68 s69 s70 s71 s72 s73 s74 s75 s76 s77 s78 s79 s80 s81 s82 s83 s84 s85 s86 s87 s88 s89 s90 s91 s92 s93 s94 s95 s96 s97 s98 s99 s100 s101 s102 s103 s104 s105 s106 s107 s108 s109 s110 s111 s112 s113 s114 s115 s116 s117 s118 s119 s120 s121 s122 s123 s124 s125 s126 s127 s128 s129 s130 s131 s132 s133 s134 s135 s136 s137 s138 s139 s140 s141 s142 s143 s144 s145 s146 s147 s148 s149 s150 s151 s152 s153 s154 s155 s156 s157 s158 s159 s160 s161 s162 s163 s164 s165 s166 s167 s168 s169 s170 s171 s172 s173 s174 s175 s176 s177 s178 s179 s180 s181 s182 s183 s184 s185 s186 s187 s188 s189 s190 s191 s192 s193 s194 s195 s196 s197 s198 s199 s200 s201 s202 s203 s204 s205 s206 s207 s208 s209 s210 s211 s212 s213 s214 s215 s216 s217 s218 s219 s220 s221 s222 s223 s224:Value} {Q:Exit→Act→World→Prop} {W:World} {gW gc:Nat} {v:VL} {sq:Int} (B:Blk W gW 86 (v.row gc).toArray) (hw:IntKind.i64.wrap (v.count+1)=v.count+1)
 (hQp:∀ (ch:_) (a:Act) (d:Tmp) (u:Value) (w:World),Q (.panic ch) (a.put (some d) u) w→Q (.panic ch) a w)
 (h:∀ (wx:World) (u120 u121 u122 u123 u124 u125 u126 u127 u128 u129 u130 u131 u132 u133 u134 u135 u136 u137 u138 u139 u140 u141 u142 u143 u144 u145:Value),Blk wx gW 86 ((v.cnt sq).row gc).toArray→Chg [gW] W wx→Q .normal ⟨#[.pointer (some ⟨gW,0,none⟩),s1,s2,s3,s4,s5,s6,s7,s8,s9,s10, .int .i64 sq,s12,s13,s14,s15,s16,s17,s18,s19,s20,s21,s22,s23,s24,s25,s26,s27,s28,s29,s30,s31,s32,s33,s34,s35,s36,s37,s38,s39,s40,s41,s42,s43,s44,s45,s46,s47,s48,s49,s50,s51,s52,s53,s54,s55,s56,s57,s58,s59,s60,s61,s62,s63,s64,s65,s66,s67,s68,s69,s70,s71,s72,s73,s74,s75,s76,s77,s78,s79,s80,s81,s82,s83,s84,s85,s86,s87,s88,s89,s90,s91,s92,s93,s94,s95,s96,s97,s98,s99,s100,s101,s102,s103,s104,s105,s106,s107,s108,s109,s110,s111,s112,s113,s114,s115,s116,s117,s118,s119,u120,u121,u122,u123,u124,u125,u126,u127,u128,u129,u130,u131,u132,u133,u134,u135,u136,u137,u138,u139,u140,u141,u142,u143,u144,u145,s146,s147,s148,s149,s150,s151,s152,s153,s154,s155,s156,s157,s158,s159,s160,s161,s162,s163,s164,s165,s166,s167,s168,s169,s170,s171,s172,s173,s174,s175,s176,s177,s178,s179,s180,s181,s182,s183,s184,s185,s186,s187,s188,s189,s190,s191,s192,s193,s194,s195,s196,s197,s198,s199,s200,s201,s202,s203,s204,s205,s206,s207,s208,s209,s210,s211,s212,s213,s214,s215,s216,s217,s218,s219,s220,s221,s222,s223,s224],[]⟩ wx):ar12r_code.wp Tryz.prog Q ⟨#[.pointer (some ⟨gW,0,none⟩),s1,s2,s3,s4,s5,s6,s7,s8,s9,s10, .int .i64 sq,s12,s13,s14,s15,s16,s17,s18,s19,s20,s21,s22,s23,s24,s25,s26,s27,s28,s29,s30,s31,s32,s33,s34,s35,s36,s37,s38,s39,s40,s41,s42,s43,s44,s45,s46,s47,s48,s49,s50,s51,s52,s53,s54,s55,s56,s57,s58,s59,s60,s61,s62,s63,s64,s65,s66,s67,s68,s69,s70,s71,s72,s73,s74,s75,s76,s77,s78,s79,s80,s81,s82,s83,s84,s85,s86,s87,s88,s89,s90,s91,s92,s93,s94,s95,s96,s97,s98,s99,s100,s101,s102,s103,s104,s105,s106,s107,s108,s109,s110,s111,s112,s113,s114,s115,s116,s117,s118,s119,s120,s121,s122,s123,s124,s125,s126,s127,s128,s129,s130,s131,s132,s133,s134,s135,s136,s137,s138,s139,s140,s141,s142,s143,s144,s145,s146,s147,s148,s149,s150,s151,s152,s153,s154,s155,s156,s157,s158,s159,s160,s161,s162,s163,s164,s165,s166,s167,s168,s169,s170,s171,s172,s173,s174,s175,s176,s177,s178,s179,s180,s181,s182,s183,s184,s185,s186,s187,s188,s189,s190,s191,s192,s193,s194,s195,s196,s197,s198,s199,s200,s201,s202,s203,s204,s205,s206,s207,s208,s209,s210,s211,s212,s213,s214,s215,s216,s217,s218,s219,s220,s221,s222,s223,s224],[]⟩ W:=by
 have hq:=Z9 h
 clear h
 conv=>arg 2;whnf
 refine wp_region_held_drew (S:=fun w'=>True) (by kernel_rfl) trivial (fun qH => ?_)
 have hch:Chg [gW] W W.drew:=Chg.drew (Chg.refl _ _)
 replace B:=B.drew
 generalize W.drew=X at *
 have y103:X.cell? ⟨gW,103,none⟩=some (.int .i64 v.count):=B.at 103 _ rfl
 have y104:X.cell? ⟨gW,104,none⟩=some (.int .i64 v.least):=B.at 104 _ rfl
 have y105:X.cell? ⟨gW,105,none⟩=some (.int .i64 v.most):=B.at 105 _ rfl
 have HB:=Z9 B
 clear B
 refine tk1 (i:=0) (v:=?_) rfl (Or.inl ⟨by rfl,?_⟩) qH ?_ (hQ:=q9 hQp)
 rotate_left
 · (intro w hSw;clear hSw;go_simp;try with_reducible rfl)
 try simp only [ss9]
 refine tk1 (i:=1) (v:=?_) rfl (Or.inl ⟨by rfl,?_⟩) qH ?_ (hQ:=q9 hQp)
 rotate_left
 · (intro w hSw;clear hSw;go_simp;try with_reducible rfl)
 try simp only [ss9]
 refine tk1 (i:=2) (v:=?_) rfl (Or.inl ⟨by rfl,?_⟩) qH ?_ (hQ:=q9 hQp)
 rotate_left
 · (intro w hSw;clear hSw;go_simp;try with_reducible rfl)
 try simp only [ss9]
 refine tk1 (i:=3) (v:=?_) rfl (Or.inl ⟨by rfl,?_⟩) qH ?_ (hQ:=q9 hQp)
 rotate_left
 · (intro w hSw;clear hSw;go_simp;try with_reducible rfl)
 try simp only [ss9]
 refine tk1 (i:=4) (v:=?_) rfl (Or.inl ⟨by rfl,?_⟩) qH ?_ (hQ:=q9 hQp)
 rotate_left
 · (intro w hSw;clear hSw;go_simp;try with_reducible rfl)
 try simp only [ss9]
 refine tk1 (i:=5) (v:=?_) rfl (Or.inl ⟨by rfl,?_⟩) qH ?_ (hQ:=q9 hQp)
 rotate_left
 · (intro w hSw;clear hSw;go_simp;try with_reducible rfl)
 try simp only [ss9]
 refine tk1 (i:=8) (v:=?_) rfl (Or.inl ⟨by rfl,?_⟩) qH ?_ (hQ:=q9 hQp)
 rotate_left
 · (intro w hSw;clear hSw;go_simp;try with_reducible rfl)
 try simp only [ss9]
 refine tk1 (i:=9) (v:=?_) rfl (Or.inl ⟨by rfl,?_⟩) qH ?_ (hQ:=q9 hQp)
 rotate_left
 · (intro w hSw;clear hSw;go_simp;try with_reducible rfl)
 try simp only [ss9]
 refine tk1 (i:=10) (v:=?_) rfl (Or.inl ⟨by rfl,?_⟩) qH ?_ (hQ:=q9 hQp)
 rotate_left
 · (intro w hSw;clear hSw;go_simp;try with_reducible rfl)
 try simp only [ss9]
 refine tk1 (i:=12) (v:=?_) rfl (Or.inl ⟨by rfl,?_⟩) qH ?_ (hQ:=q9 hQp)
 rotate_left
 · (intro w hSw;clear hSw;go_simp;try with_reducible rfl)
 try simp only [ss9]
 refine tk1 (i:=14) (v:=?_) rfl (Or.inl ⟨by rfl,?_⟩) qH ?_ (hQ:=q9 hQp)
 rotate_left
 · (intro w hSw;clear hSw;go_simp;try with_reducible rfl)
 try simp only [ss9]
 refine tk1 (i:=15) (v:=?_) rfl (Or.inl ⟨by rfl,?_⟩) qH ?_ (hQ:=q9 hQp)
 rotate_left
 · (intro w hSw;clear hSw;go_simp;try with_reducible rfl)
 try simp only [ss9]
 refine tk1 (i:=16) (v:=?_) rfl (Or.inl ⟨by rfl,?_⟩) qH ?_ (hQ:=q9 hQp)
 rotate_left
 · (intro w hSw;clear hSw;go_simp;try with_reducible rfl)
 try simp only [ss9]
 refine tk1 (i:=18) (v:=?_) rfl (Or.inl ⟨by rfl,?_⟩) qH ?_ (hQ:=q9 hQp)
 rotate_left
 · (intro w hSw;clear hSw;go_simp;try with_reducible rfl)
 try simp only [ss9]
 refine wpAnyH_ready (rs:=[6,11,17]) (by kernel_rfl) (by simp) ?_
 refine AllReadyH.cons (o:=_) rfl (fun K hK => ?_) (AllReadyH.cons (o:=_) rfl (fun K hK => ?_) (AllReadyH.cons (o:=_) rfl (fun K hK => ?_) AllReadyH.nil))
 · go_simp
   refine hK.out _ _ trivial (fun qH => ?_)
   clear hK K
   try simp only [ss9]
   refine tk1 (i:=7) (v:=?_) rfl (Or.inl ⟨by rfl,?_⟩) qH ?_ (hQ:=q9 hQp)
   rotate_left
   · (intro w hSw;clear hSw;go_simp;try with_reducible rfl)
   try simp only [ss9]
   refine wpAnyH_ready (rs:=[11,17]) (by kernel_rfl) (by simp) ?_
   refine AllReadyH.cons (o:=_) rfl (fun K hK => ?_) (AllReadyH.cons (o:=_) rfl (fun K hK => ?_) AllReadyH.nil)
   · go_simp
     refine hK.out _ _ trivial (fun qH => ?_)
     clear hK K
     try simp only [ss9]
     refine tk1 (i:=13) (v:=?_) rfl (Or.inl ⟨by rfl,?_⟩) qH ?_ (hQ:=q9 hQp)
     rotate_left
     · (intro w hSw;clear hSw;go_simp;try with_reducible rfl)
     try simp only [ss9]
     refine wpAnyH_ready (rs:=[17]) (by kernel_rfl) (by simp) ?_
     refine AllReadyH.cons (o:=_) rfl (fun K hK => ?_) AllReadyH.nil
     · go_simp
       refine hK.out _ _ trivial (fun qH => ?_)
       clear hK K
       try simp only [ss9]
       refine tk1 (i:=19) (v:=?_) rfl (Or.inl ⟨by rfl,?_⟩) qH ?_ (hQ:=q9 hQp)
       rotate_left
       · (intro w hSw;clear hSw;go_simp;try with_reducible rfl)
       try simp only [ss9]
       clear y103 y104 y105
       refine tk1 (i:=20) (v:=?_) rfl (Or.inl ⟨by rfl,?_⟩) qH ?_ (hQ:=q9 hQp)
       rotate_left
       · (intro w hSw;clear hSw;go_simp;try with_reducible rfl)
       try simp only [ss9]
       refine tk1 (i:=21) (v:=?_) rfl (Or.inl ⟨by rfl,?_⟩) qH ?_ (hQ:=q9 hQp)
       rotate_left
       · (intro w hSw;clear hSw;go_simp;try with_reducible rfl)
       try simp only [ss9]
       refine wpAnyH_ready (rs:=[22]) (by kernel_rfl) (by simp) ?_
       refine AllReadyH.cons (o:=_) rfl (fun K hK => ?_) AllReadyH.nil
       have yK:X.cell? ⟨gW,103,none⟩=some (.int .i64 v.count):=HB.out.at 103 _ rfl
       have fK:=HB.out.frozen 103
       have lK:=HB.out.lt
       go_simp
       obtain ⟨Y1,hY⟩:∃ Y,Y=X.setCell ⟨gW,103,none⟩ (.int .i64 (v.count+1)):=⟨_,rfl⟩
       have OF:OnlyB gW X Y1:=by rw [hY];exact OnlyB.setCell _ _ _ _
       have BF:Blk Y1 gW 86 (VL.row ({ v with count:=v.count+1 }) gc).toArray:=by rw [hY];exact HB.out.set_ 103 _
       rw [← hY]
       replace hch:=Chg.trans hch (Chg.of_only OF (S:=[gW]) (by simp))
       replace HB:=Z9 BF
       clear hY OF BF yK fK lK
       refine hK.out _ _ trivial (fun qH => ?_)
       clear hK K
       try simp only [ss9]
       refine tk1 (i:=23) (v:=?_) rfl (Or.inl ⟨by rfl,?_⟩) qH ?_ (hQ:=q9 hQp)
       rotate_left
       · (intro w hSw;clear hSw;go_simp;try with_reducible rfl)
       try simp only [ss9]
       refine tk1 (i:=24) (v:=?_) rfl (Or.inl ⟨by rfl,?_⟩) qH ?_ (hQ:=q9 hQp)
       rotate_left
       · (intro w hSw;clear hSw;go_simp;try with_reducible rfl)
       try simp only [ss9]
       refine wpAnyH_ready (rs:=[25]) (by kernel_rfl) (by simp) ?_
       refine AllReadyH.cons (o:=_) rfl (fun K hK => ?_) AllReadyH.nil
       have yK:Y1.cell? ⟨gW,104,none⟩=some (.int .i64 v.least):=HB.out.at 104 _ rfl
       have fK:=HB.out.frozen 104
       have lK:=HB.out.lt
       go_simp
       obtain ⟨Y2,hY⟩:∃ Y,Y=Y1.setCell ⟨gW,104,none⟩ (.int .i64 (min v.least sq)):=⟨_,rfl⟩
       have OF:OnlyB gW Y1 Y2:=by rw [hY];exact OnlyB.setCell _ _ _ _
       have BF:Blk Y2 gW 86 (VL.row ({ v with count:=v.count+1,least:=min v.least sq }) gc).toArray:=by rw [hY];exact HB.out.set_ 104 _
       rw [← hY]
       replace hch:=Chg.trans hch (Chg.of_only OF (S:=[gW]) (by simp))
       replace HB:=Z9 BF
       clear hY OF BF yK fK lK
       refine hK.out _ _ trivial (fun qH => ?_)
       clear hK K
       try simp only [ss9]
       refine tk1 (i:=26) (v:=?_) rfl (Or.inl ⟨by rfl,?_⟩) qH ?_ (hQ:=q9 hQp)
       rotate_left
       · (intro w hSw;clear hSw;go_simp;try with_reducible rfl)
       try simp only [ss9]
       refine tk1 (i:=27) (v:=?_) rfl (Or.inl ⟨by rfl,?_⟩) qH ?_ (hQ:=q9 hQp)
       rotate_left
       · (intro w hSw;clear hSw;go_simp;try with_reducible rfl)
       try simp only [ss9]
       refine wpAnyH_ready (rs:=[28]) (by kernel_rfl) (by simp) ?_
       refine AllReadyH.cons (o:=_) rfl (fun K hK => ?_) AllReadyH.nil
       have yK:Y2.cell? ⟨gW,105,none⟩=some (.int .i64 v.most):=HB.out.at 105 _ rfl
       have fK:=HB.out.frozen 105
       have lK:=HB.out.lt
       go_simp
       obtain ⟨Y3,hY⟩:∃ Y,Y=Y2.setCell ⟨gW,105,none⟩ (.int .i64 (max v.most sq)):=⟨_,rfl⟩
       have OF:OnlyB gW Y2 Y3:=by rw [hY];exact OnlyB.setCell _ _ _ _
       have BF:Blk Y3 gW 86 (VL.row (v.cnt sq) gc).toArray:=by rw [hY];exact HB.out.set_ 105 _
       rw [← hY]
       replace hch:=Chg.trans hch (Chg.of_only OF (S:=[gW]) (by simp))
       replace HB:=Z9 BF
       clear hY OF BF yK fK lK
       refine hK.out _ _ trivial (fun qH => ?_)
       clear hK K
       try simp only [ss9]
       refine wpAnyH_done (by kernel_rfl) ?_ _
       exact hq.out _ _ _ _ _ _ _ _ _ _ _ _ _ _ _ _ _ _ _ _ _ _ _ _ _ _ _ HB.out hch
   · go_simp
     refine hK.out _ _ trivial (fun qH => ?_)
     clear hK K
     try simp only [ss9]
     refine tk1 (i:=19) (v:=?_) rfl (Or.inl ⟨by rfl,?_⟩) qH ?_ (hQ:=q9 hQp)
     rotate_left
     · (intro w hSw;clear hSw;go_simp;try with_reducible rfl)
     try simp only [ss9]
     refine wpAnyH_ready (rs:=[11]) (by kernel_rfl) (by simp) ?_
     refine AllReadyH.cons (o:=_) rfl (fun K hK => ?_) AllReadyH.nil
     · go_simp
       refine hK.out _ _ trivial (fun qH => ?_)
       clear hK K
       try simp only [ss9]
       refine tk1 (i:=13) (v:=?_) rfl (Or.inl ⟨by rfl,?_⟩) qH ?_ (hQ:=q9 hQp)
       rotate_left
       · (intro w hSw;clear hSw;go_simp;try with_reducible rfl)
       try simp only [ss9]
       clear y103 y104 y105
       refine tk1 (i:=20) (v:=?_) rfl (Or.inl ⟨by rfl,?_⟩) qH ?_ (hQ:=q9 hQp)
       rotate_left
       · (intro w hSw;clear hSw;go_simp;try with_reducible rfl)
       try simp only [ss9]
       refine tk1 (i:=21) (v:=?_) rfl (Or.inl ⟨by rfl,?_⟩) qH ?_ (hQ:=q9 hQp)
       rotate_left
       · (intro w hSw;clear hSw;go_simp;try with_reducible rfl)
       try simp only [ss9]
       refine wpAnyH_ready (rs:=[22]) (by kernel_rfl) (by simp) ?_
       refine AllReadyH.cons (o:=_) rfl (fun K hK => ?_) AllReadyH.nil
       have yK:X.cell? ⟨gW,103,none⟩=some (.int .i64 v.count):=HB.out.at 103 _ rfl
       have fK:=HB.out.frozen 103
       have lK:=HB.out.lt
       go_simp
       obtain ⟨Y1,hY⟩:∃ Y,Y=X.setCell ⟨gW,103,none⟩ (.int .i64 (v.count+1)):=⟨_,rfl⟩
       have OF:OnlyB gW X Y1:=by rw [hY];exact OnlyB.setCell _ _ _ _
       have BF:Blk Y1 gW 86 (VL.row ({ v with count:=v.count+1 }) gc).toArray:=by rw [hY];exact HB.out.set_ 103 _
       rw [← hY]
       replace hch:=Chg.trans hch (Chg.of_only OF (S:=[gW]) (by simp))
       replace HB:=Z9 BF
       clear hY OF BF yK fK lK
       refine hK.out _ _ trivial (fun qH => ?_)
       clear hK K
       try simp only [ss9]
       refine tk1 (i:=23) (v:=?_) rfl (Or.inl ⟨by rfl,?_⟩) qH ?_ (hQ:=q9 hQp)
       rotate_left
       · (intro w hSw;clear hSw;go_simp;try with_reducible rfl)
       try simp only [ss9]
       refine tk1 (i:=24) (v:=?_) rfl (Or.inl ⟨by rfl,?_⟩) qH ?_ (hQ:=q9 hQp)
       rotate_left
       · (intro w hSw;clear hSw;go_simp;try with_reducible rfl)
       try simp only [ss9]
       refine wpAnyH_ready (rs:=[25]) (by kernel_rfl) (by simp) ?_
       refine AllReadyH.cons (o:=_) rfl (fun K hK => ?_) AllReadyH.nil
       have yK:Y1.cell? ⟨gW,104,none⟩=some (.int .i64 v.least):=HB.out.at 104 _ rfl
       have fK:=HB.out.frozen 104
       have lK:=HB.out.lt
       go_simp
       obtain ⟨Y2,hY⟩:∃ Y,Y=Y1.setCell ⟨gW,104,none⟩ (.int .i64 (min v.least sq)):=⟨_,rfl⟩
       have OF:OnlyB gW Y1 Y2:=by rw [hY];exact OnlyB.setCell _ _ _ _
       have BF:Blk Y2 gW 86 (VL.row ({ v with count:=v.count+1,least:=min v.least sq }) gc).toArray:=by rw [hY];exact HB.out.set_ 104 _
       rw [← hY]
       replace hch:=Chg.trans hch (Chg.of_only OF (S:=[gW]) (by simp))
       replace HB:=Z9 BF
       clear hY OF BF yK fK lK
       refine hK.out _ _ trivial (fun qH => ?_)
       clear hK K
       try simp only [ss9]
       refine tk1 (i:=26) (v:=?_) rfl (Or.inl ⟨by rfl,?_⟩) qH ?_ (hQ:=q9 hQp)
       rotate_left
       · (intro w hSw;clear hSw;go_simp;try with_reducible rfl)
       try simp only [ss9]
       refine tk1 (i:=27) (v:=?_) rfl (Or.inl ⟨by rfl,?_⟩) qH ?_ (hQ:=q9 hQp)
       rotate_left
       · (intro w hSw;clear hSw;go_simp;try with_reducible rfl)
       try simp only [ss9]
       refine wpAnyH_ready (rs:=[28]) (by kernel_rfl) (by simp) ?_
       refine AllReadyH.cons (o:=_) rfl (fun K hK => ?_) AllReadyH.nil
       have yK:Y2.cell? ⟨gW,105,none⟩=some (.int .i64 v.most):=HB.out.at 105 _ rfl
       have fK:=HB.out.frozen 105
       have lK:=HB.out.lt
       go_simp
       obtain ⟨Y3,hY⟩:∃ Y,Y=Y2.setCell ⟨gW,105,none⟩ (.int .i64 (max v.most sq)):=⟨_,rfl⟩
       have OF:OnlyB gW Y2 Y3:=by rw [hY];exact OnlyB.setCell _ _ _ _
       have BF:Blk Y3 gW 86 (VL.row (v.cnt sq) gc).toArray:=by rw [hY];exact HB.out.set_ 105 _
       rw [← hY]
       replace hch:=Chg.trans hch (Chg.of_only OF (S:=[gW]) (by simp))
       replace HB:=Z9 BF
       clear hY OF BF yK fK lK
       refine hK.out _ _ trivial (fun qH => ?_)
       clear hK K
       try simp only [ss9]
       refine wpAnyH_done (by kernel_rfl) ?_ _
       exact hq.out _ _ _ _ _ _ _ _ _ _ _ _ _ _ _ _ _ _ _ _ _ _ _ _ _ _ _ HB.out hch
 · go_simp
   refine hK.out _ _ trivial (fun qH => ?_)
   clear hK K
   try simp only [ss9]
   refine tk1 (i:=13) (v:=?_) rfl (Or.inl ⟨by rfl,?_⟩) qH ?_ (hQ:=q9 hQp)
   rotate_left
   · (intro w hSw;clear hSw;go_simp;try with_reducible rfl)
   try simp only [ss9]
   refine wpAnyH_ready (rs:=[6,17]) (by kernel_rfl) (by simp) ?_
   refine AllReadyH.cons (o:=_) rfl (fun K hK => ?_) (AllReadyH.cons (o:=_) rfl (fun K hK => ?_) AllReadyH.nil)
   · go_simp
     refine hK.out _ _ trivial (fun qH => ?_)
     clear hK K
     try simp only [ss9]
     refine tk1 (i:=7) (v:=?_) rfl (Or.inl ⟨by rfl,?_⟩) qH ?_ (hQ:=q9 hQp)
     rotate_left
     · (intro w hSw;clear hSw;go_simp;try with_reducible rfl)
     try simp only [ss9]
     refine wpAnyH_ready (rs:=[17]) (by kernel_rfl) (by simp) ?_
     refine AllReadyH.cons (o:=_) rfl (fun K hK => ?_) AllReadyH.nil
     · go_simp
       refine hK.out _ _ trivial (fun qH => ?_)
       clear hK K
       try simp only [ss9]
       refine tk1 (i:=19) (v:=?_) rfl (Or.inl ⟨by rfl,?_⟩) qH ?_ (hQ:=q9 hQp)
       rotate_left
       · (intro w hSw;clear hSw;go_simp;try with_reducible rfl)
       try simp only [ss9]
       clear y103 y104 y105
       refine tk1 (i:=20) (v:=?_) rfl (Or.inl ⟨by rfl,?_⟩) qH ?_ (hQ:=q9 hQp)
       rotate_left
       · (intro w hSw;clear hSw;go_simp;try with_reducible rfl)
       try simp only [ss9]
       refine tk1 (i:=21) (v:=?_) rfl (Or.inl ⟨by rfl,?_⟩) qH ?_ (hQ:=q9 hQp)
       rotate_left
       · (intro w hSw;clear hSw;go_simp;try with_reducible rfl)
       try simp only [ss9]
       refine wpAnyH_ready (rs:=[22]) (by kernel_rfl) (by simp) ?_
       refine AllReadyH.cons (o:=_) rfl (fun K hK => ?_) AllReadyH.nil
       have yK:X.cell? ⟨gW,103,none⟩=some (.int .i64 v.count):=HB.out.at 103 _ rfl
       have fK:=HB.out.frozen 103
       have lK:=HB.out.lt
       go_simp
       obtain ⟨Y1,hY⟩:∃ Y,Y=X.setCell ⟨gW,103,none⟩ (.int .i64 (v.count+1)):=⟨_,rfl⟩
       have OF:OnlyB gW X Y1:=by rw [hY];exact OnlyB.setCell _ _ _ _
       have BF:Blk Y1 gW 86 (VL.row ({ v with count:=v.count+1 }) gc).toArray:=by rw [hY];exact HB.out.set_ 103 _
       rw [← hY]
       replace hch:=Chg.trans hch (Chg.of_only OF (S:=[gW]) (by simp))
       replace HB:=Z9 BF
       clear hY OF BF yK fK lK
       refine hK.out _ _ trivial (fun qH => ?_)
       clear hK K
       try simp only [ss9]
       refine tk1 (i:=23) (v:=?_) rfl (Or.inl ⟨by rfl,?_⟩) qH ?_ (hQ:=q9 hQp)
       rotate_left
       · (intro w hSw;clear hSw;go_simp;try with_reducible rfl)
       try simp only [ss9]
       refine tk1 (i:=24) (v:=?_) rfl (Or.inl ⟨by rfl,?_⟩) qH ?_ (hQ:=q9 hQp)
       rotate_left
       · (intro w hSw;clear hSw;go_simp;try with_reducible rfl)
       try simp only [ss9]
       refine wpAnyH_ready (rs:=[25]) (by kernel_rfl) (by simp) ?_
       refine AllReadyH.cons (o:=_) rfl (fun K hK => ?_) AllReadyH.nil
       have yK:Y1.cell? ⟨gW,104,none⟩=some (.int .i64 v.least):=HB.out.at 104 _ rfl
       have fK:=HB.out.frozen 104
       have lK:=HB.out.lt
       go_simp
       obtain ⟨Y2,hY⟩:∃ Y,Y=Y1.setCell ⟨gW,104,none⟩ (.int .i64 (min v.least sq)):=⟨_,rfl⟩
       have OF:OnlyB gW Y1 Y2:=by rw [hY];exact OnlyB.setCell _ _ _ _
       have BF:Blk Y2 gW 86 (VL.row ({ v with count:=v.count+1,least:=min v.least sq }) gc).toArray:=by rw [hY];exact HB.out.set_ 104 _
       rw [← hY]
       replace hch:=Chg.trans hch (Chg.of_only OF (S:=[gW]) (by simp))
       replace HB:=Z9 BF
       clear hY OF BF yK fK lK
       refine hK.out _ _ trivial (fun qH => ?_)
       clear hK K
       try simp only [ss9]
       refine tk1 (i:=26) (v:=?_) rfl (Or.inl ⟨by rfl,?_⟩) qH ?_ (hQ:=q9 hQp)
       rotate_left
       · (intro w hSw;clear hSw;go_simp;try with_reducible rfl)
       try simp only [ss9]
       refine tk1 (i:=27) (v:=?_) rfl (Or.inl ⟨by rfl,?_⟩) qH ?_ (hQ:=q9 hQp)
       rotate_left
       · (intro w hSw;clear hSw;go_simp;try with_reducible rfl)
       try simp only [ss9]
       refine wpAnyH_ready (rs:=[28]) (by kernel_rfl) (by simp) ?_
       refine AllReadyH.cons (o:=_) rfl (fun K hK => ?_) AllReadyH.nil
       have yK:Y2.cell? ⟨gW,105,none⟩=some (.int .i64 v.most):=HB.out.at 105 _ rfl
       have fK:=HB.out.frozen 105
       have lK:=HB.out.lt
       go_simp
       obtain ⟨Y3,hY⟩:∃ Y,Y=Y2.setCell ⟨gW,105,none⟩ (.int .i64 (max v.most sq)):=⟨_,rfl⟩
       have OF:OnlyB gW Y2 Y3:=by rw [hY];exact OnlyB.setCell _ _ _ _
       have BF:Blk Y3 gW 86 (VL.row (v.cnt sq) gc).toArray:=by rw [hY];exact HB.out.set_ 105 _
       rw [← hY]
       replace hch:=Chg.trans hch (Chg.of_only OF (S:=[gW]) (by simp))
       replace HB:=Z9 BF
       clear hY OF BF yK fK lK
       refine hK.out _ _ trivial (fun qH => ?_)
       clear hK K
       try simp only [ss9]
       refine wpAnyH_done (by kernel_rfl) ?_ _
       exact hq.out _ _ _ _ _ _ _ _ _ _ _ _ _ _ _ _ _ _ _ _ _ _ _ _ _ _ _ HB.out hch
   · go_simp
     refine hK.out _ _ trivial (fun qH => ?_)
     clear hK K
     try simp only [ss9]
     refine tk1 (i:=19) (v:=?_) rfl (Or.inl ⟨by rfl,?_⟩) qH ?_ (hQ:=q9 hQp)
     rotate_left
     · (intro w hSw;clear hSw;go_simp;try with_reducible rfl)
     try simp only [ss9]
     refine wpAnyH_ready (rs:=[6]) (by kernel_rfl) (by simp) ?_
     refine AllReadyH.cons (o:=_) rfl (fun K hK => ?_) AllReadyH.nil
     · go_simp
       refine hK.out _ _ trivial (fun qH => ?_)
       clear hK K
       try simp only [ss9]
       refine tk1 (i:=7) (v:=?_) rfl (Or.inl ⟨by rfl,?_⟩) qH ?_ (hQ:=q9 hQp)
       rotate_left
       · (intro w hSw;clear hSw;go_simp;try with_reducible rfl)
       try simp only [ss9]
       clear y103 y104 y105
       refine tk1 (i:=20) (v:=?_) rfl (Or.inl ⟨by rfl,?_⟩) qH ?_ (hQ:=q9 hQp)
       rotate_left
       · (intro w hSw;clear hSw;go_simp;try with_reducible rfl)
       try simp only [ss9]
       refine tk1 (i:=21) (v:=?_) rfl (Or.inl ⟨by rfl,?_⟩) qH ?_ (hQ:=q9 hQp)
       rotate_left
       · (intro w hSw;clear hSw;go_simp;try with_reducible rfl)
       try simp only [ss9]
       refine wpAnyH_ready (rs:=[22]) (by kernel_rfl) (by simp) ?_
       refine AllReadyH.cons (o:=_) rfl (fun K hK => ?_) AllReadyH.nil
       have yK:X.cell? ⟨gW,103,none⟩=some (.int .i64 v.count):=HB.out.at 103 _ rfl
       have fK:=HB.out.frozen 103
       have lK:=HB.out.lt
       go_simp
       obtain ⟨Y1,hY⟩:∃ Y,Y=X.setCell ⟨gW,103,none⟩ (.int .i64 (v.count+1)):=⟨_,rfl⟩
       have OF:OnlyB gW X Y1:=by rw [hY];exact OnlyB.setCell _ _ _ _
       have BF:Blk Y1 gW 86 (VL.row ({ v with count:=v.count+1 }) gc).toArray:=by rw [hY];exact HB.out.set_ 103 _
       rw [← hY]
       replace hch:=Chg.trans hch (Chg.of_only OF (S:=[gW]) (by simp))
       replace HB:=Z9 BF
       clear hY OF BF yK fK lK
       refine hK.out _ _ trivial (fun qH => ?_)
       clear hK K
       try simp only [ss9]
       refine tk1 (i:=23) (v:=?_) rfl (Or.inl ⟨by rfl,?_⟩) qH ?_ (hQ:=q9 hQp)
       rotate_left
       · (intro w hSw;clear hSw;go_simp;try with_reducible rfl)
       try simp only [ss9]
       refine tk1 (i:=24) (v:=?_) rfl (Or.inl ⟨by rfl,?_⟩) qH ?_ (hQ:=q9 hQp)
       rotate_left
       · (intro w hSw;clear hSw;go_simp;try with_reducible rfl)
       try simp only [ss9]
       refine wpAnyH_ready (rs:=[25]) (by kernel_rfl) (by simp) ?_
       refine AllReadyH.cons (o:=_) rfl (fun K hK => ?_) AllReadyH.nil
       have yK:Y1.cell? ⟨gW,104,none⟩=some (.int .i64 v.least):=HB.out.at 104 _ rfl
       have fK:=HB.out.frozen 104
       have lK:=HB.out.lt
       go_simp
       obtain ⟨Y2,hY⟩:∃ Y,Y=Y1.setCell ⟨gW,104,none⟩ (.int .i64 (min v.least sq)):=⟨_,rfl⟩
       have OF:OnlyB gW Y1 Y2:=by rw [hY];exact OnlyB.setCell _ _ _ _
       have BF:Blk Y2 gW 86 (VL.row ({ v with count:=v.count+1,least:=min v.least sq }) gc).toArray:=by rw [hY];exact HB.out.set_ 104 _
       rw [← hY]
       replace hch:=Chg.trans hch (Chg.of_only OF (S:=[gW]) (by simp))
       replace HB:=Z9 BF
       clear hY OF BF yK fK lK
       refine hK.out _ _ trivial (fun qH => ?_)
       clear hK K
       try simp only [ss9]
       refine tk1 (i:=26) (v:=?_) rfl (Or.inl ⟨by rfl,?_⟩) qH ?_ (hQ:=q9 hQp)
       rotate_left
       · (intro w hSw;clear hSw;go_simp;try with_reducible rfl)
       try simp only [ss9]
       refine tk1 (i:=27) (v:=?_) rfl (Or.inl ⟨by rfl,?_⟩) qH ?_ (hQ:=q9 hQp)
       rotate_left
       · (intro w hSw;clear hSw;go_simp;try with_reducible rfl)
       try simp only [ss9]
       refine wpAnyH_ready (rs:=[28]) (by kernel_rfl) (by simp) ?_
       refine AllReadyH.cons (o:=_) rfl (fun K hK => ?_) AllReadyH.nil
       have yK:Y2.cell? ⟨gW,105,none⟩=some (.int .i64 v.most):=HB.out.at 105 _ rfl
       have fK:=HB.out.frozen 105
       have lK:=HB.out.lt
       go_simp
       obtain ⟨Y3,hY⟩:∃ Y,Y=Y2.setCell ⟨gW,105,none⟩ (.int .i64 (max v.most sq)):=⟨_,rfl⟩
       have OF:OnlyB gW Y2 Y3:=by rw [hY];exact OnlyB.setCell _ _ _ _
       have BF:Blk Y3 gW 86 (VL.row (v.cnt sq) gc).toArray:=by rw [hY];exact HB.out.set_ 105 _
       rw [← hY]
       replace hch:=Chg.trans hch (Chg.of_only OF (S:=[gW]) (by simp))
       replace HB:=Z9 BF
       clear hY OF BF yK fK lK
       refine hK.out _ _ trivial (fun qH => ?_)
       clear hK K
       try simp only [ss9]
       refine wpAnyH_done (by kernel_rfl) ?_ _
       exact hq.out _ _ _ _ _ _ _ _ _ _ _ _ _ _ _ _ _ _ _ _ _ _ _ _ _ _ _ HB.out hch
 · go_simp
   refine hK.out _ _ trivial (fun qH => ?_)
   clear hK K
   try simp only [ss9]
   refine tk1 (i:=19) (v:=?_) rfl (Or.inl ⟨by rfl,?_⟩) qH ?_ (hQ:=q9 hQp)
   rotate_left
   · (intro w hSw;clear hSw;go_simp;try with_reducible rfl)
   try simp only [ss9]
   refine wpAnyH_ready (rs:=[6,11]) (by kernel_rfl) (by simp) ?_
   refine AllReadyH.cons (o:=_) rfl (fun K hK => ?_) (AllReadyH.cons (o:=_) rfl (fun K hK => ?_) AllReadyH.nil)
   · go_simp
     refine hK.out _ _ trivial (fun qH => ?_)
     clear hK K
     try simp only [ss9]
     refine tk1 (i:=7) (v:=?_) rfl (Or.inl ⟨by rfl,?_⟩) qH ?_ (hQ:=q9 hQp)
     rotate_left
     · (intro w hSw;clear hSw;go_simp;try with_reducible rfl)
     try simp only [ss9]
     refine wpAnyH_ready (rs:=[11]) (by kernel_rfl) (by simp) ?_
     refine AllReadyH.cons (o:=_) rfl (fun K hK => ?_) AllReadyH.nil
     · go_simp
       refine hK.out _ _ trivial (fun qH => ?_)
       clear hK K
       try simp only [ss9]
       refine tk1 (i:=13) (v:=?_) rfl (Or.inl ⟨by rfl,?_⟩) qH ?_ (hQ:=q9 hQp)
       rotate_left
       · (intro w hSw;clear hSw;go_simp;try with_reducible rfl)
       try simp only [ss9]
       clear y103 y104 y105
       refine tk1 (i:=20) (v:=?_) rfl (Or.inl ⟨by rfl,?_⟩) qH ?_ (hQ:=q9 hQp)
       rotate_left
       · (intro w hSw;clear hSw;go_simp;try with_reducible rfl)
       try simp only [ss9]
       refine tk1 (i:=21) (v:=?_) rfl (Or.inl ⟨by rfl,?_⟩) qH ?_ (hQ:=q9 hQp)
       rotate_left
       · (intro w hSw;clear hSw;go_simp;try with_reducible rfl)
       try simp only [ss9]
       refine wpAnyH_ready (rs:=[22]) (by kernel_rfl) (by simp) ?_
       refine AllReadyH.cons (o:=_) rfl (fun K hK => ?_) AllReadyH.nil
       have yK:X.cell? ⟨gW,103,none⟩=some (.int .i64 v.count):=HB.out.at 103 _ rfl
       have fK:=HB.out.frozen 103
       have lK:=HB.out.lt
       go_simp
       obtain ⟨Y1,hY⟩:∃ Y,Y=X.setCell ⟨gW,103,none⟩ (.int .i64 (v.count+1)):=⟨_,rfl⟩
       have OF:OnlyB gW X Y1:=by rw [hY];exact OnlyB.setCell _ _ _ _
       have BF:Blk Y1 gW 86 (VL.row ({ v with count:=v.count+1 }) gc).toArray:=by rw [hY];exact HB.out.set_ 103 _
       rw [← hY]
       replace hch:=Chg.trans hch (Chg.of_only OF (S:=[gW]) (by simp))
       replace HB:=Z9 BF
       clear hY OF BF yK fK lK
       refine hK.out _ _ trivial (fun qH => ?_)
       clear hK K
       try simp only [ss9]
       refine tk1 (i:=23) (v:=?_) rfl (Or.inl ⟨by rfl,?_⟩) qH ?_ (hQ:=q9 hQp)
       rotate_left
       · (intro w hSw;clear hSw;go_simp;try with_reducible rfl)
       try simp only [ss9]
       refine tk1 (i:=24) (v:=?_) rfl (Or.inl ⟨by rfl,?_⟩) qH ?_ (hQ:=q9 hQp)
       rotate_left
       · (intro w hSw;clear hSw;go_simp;try with_reducible rfl)
       try simp only [ss9]
       refine wpAnyH_ready (rs:=[25]) (by kernel_rfl) (by simp) ?_
       refine AllReadyH.cons (o:=_) rfl (fun K hK => ?_) AllReadyH.nil
       have yK:Y1.cell? ⟨gW,104,none⟩=some (.int .i64 v.least):=HB.out.at 104 _ rfl
       have fK:=HB.out.frozen 104
       have lK:=HB.out.lt
       go_simp
       obtain ⟨Y2,hY⟩:∃ Y,Y=Y1.setCell ⟨gW,104,none⟩ (.int .i64 (min v.least sq)):=⟨_,rfl⟩
       have OF:OnlyB gW Y1 Y2:=by rw [hY];exact OnlyB.setCell _ _ _ _
       have BF:Blk Y2 gW 86 (VL.row ({ v with count:=v.count+1,least:=min v.least sq }) gc).toArray:=by rw [hY];exact HB.out.set_ 104 _
       rw [← hY]
       replace hch:=Chg.trans hch (Chg.of_only OF (S:=[gW]) (by simp))
       replace HB:=Z9 BF
       clear hY OF BF yK fK lK
       refine hK.out _ _ trivial (fun qH => ?_)
       clear hK K
       try simp only [ss9]
       refine tk1 (i:=26) (v:=?_) rfl (Or.inl ⟨by rfl,?_⟩) qH ?_ (hQ:=q9 hQp)
       rotate_left
       · (intro w hSw;clear hSw;go_simp;try with_reducible rfl)
       try simp only [ss9]
       refine tk1 (i:=27) (v:=?_) rfl (Or.inl ⟨by rfl,?_⟩) qH ?_ (hQ:=q9 hQp)
       rotate_left
       · (intro w hSw;clear hSw;go_simp;try with_reducible rfl)
       try simp only [ss9]
       refine wpAnyH_ready (rs:=[28]) (by kernel_rfl) (by simp) ?_
       refine AllReadyH.cons (o:=_) rfl (fun K hK => ?_) AllReadyH.nil
       have yK:Y2.cell? ⟨gW,105,none⟩=some (.int .i64 v.most):=HB.out.at 105 _ rfl
       have fK:=HB.out.frozen 105
       have lK:=HB.out.lt
       go_simp
       obtain ⟨Y3,hY⟩:∃ Y,Y=Y2.setCell ⟨gW,105,none⟩ (.int .i64 (max v.most sq)):=⟨_,rfl⟩
       have OF:OnlyB gW Y2 Y3:=by rw [hY];exact OnlyB.setCell _ _ _ _
       have BF:Blk Y3 gW 86 (VL.row (v.cnt sq) gc).toArray:=by rw [hY];exact HB.out.set_ 105 _
       rw [← hY]
       replace hch:=Chg.trans hch (Chg.of_only OF (S:=[gW]) (by simp))
       replace HB:=Z9 BF
       clear hY OF BF yK fK lK
       refine hK.out _ _ trivial (fun qH => ?_)
       clear hK K
       try simp only [ss9]
       refine wpAnyH_done (by kernel_rfl) ?_ _
       exact hq.out _ _ _ _ _ _ _ _ _ _ _ _ _ _ _ _ _ _ _ _ _ _ _ _ _ _ _ HB.out hch
   · go_simp
     refine hK.out _ _ trivial (fun qH => ?_)
     clear hK K
     try simp only [ss9]
     refine tk1 (i:=13) (v:=?_) rfl (Or.inl ⟨by rfl,?_⟩) qH ?_ (hQ:=q9 hQp)
     rotate_left
     · (intro w hSw;clear hSw;go_simp;try with_reducible rfl)
     try simp only [ss9]
     refine wpAnyH_ready (rs:=[6]) (by kernel_rfl) (by simp) ?_
     refine AllReadyH.cons (o:=_) rfl (fun K hK => ?_) AllReadyH.nil
     · go_simp
       refine hK.out _ _ trivial (fun qH => ?_)
       clear hK K
       try simp only [ss9]
       refine tk1 (i:=7) (v:=?_) rfl (Or.inl ⟨by rfl,?_⟩) qH ?_ (hQ:=q9 hQp)
       rotate_left
       · (intro w hSw;clear hSw;go_simp;try with_reducible rfl)
       try simp only [ss9]
       clear y103 y104 y105
       refine tk1 (i:=20) (v:=?_) rfl (Or.inl ⟨by rfl,?_⟩) qH ?_ (hQ:=q9 hQp)
       rotate_left
       · (intro w hSw;clear hSw;go_simp;try with_reducible rfl)
       try simp only [ss9]
       refine tk1 (i:=21) (v:=?_) rfl (Or.inl ⟨by rfl,?_⟩) qH ?_ (hQ:=q9 hQp)
       rotate_left
       · (intro w hSw;clear hSw;go_simp;try with_reducible rfl)
       try simp only [ss9]
       refine wpAnyH_ready (rs:=[22]) (by kernel_rfl) (by simp) ?_
       refine AllReadyH.cons (o:=_) rfl (fun K hK => ?_) AllReadyH.nil
       have yK:X.cell? ⟨gW,103,none⟩=some (.int .i64 v.count):=HB.out.at 103 _ rfl
       have fK:=HB.out.frozen 103
       have lK:=HB.out.lt
       go_simp
       obtain ⟨Y1,hY⟩:∃ Y,Y=X.setCell ⟨gW,103,none⟩ (.int .i64 (v.count+1)):=⟨_,rfl⟩
       have OF:OnlyB gW X Y1:=by rw [hY];exact OnlyB.setCell _ _ _ _
       have BF:Blk Y1 gW 86 (VL.row ({ v with count:=v.count+1 }) gc).toArray:=by rw [hY];exact HB.out.set_ 103 _
       rw [← hY]
       replace hch:=Chg.trans hch (Chg.of_only OF (S:=[gW]) (by simp))
       replace HB:=Z9 BF
       clear hY OF BF yK fK lK
       refine hK.out _ _ trivial (fun qH => ?_)
       clear hK K
       try simp only [ss9]
       refine tk1 (i:=23) (v:=?_) rfl (Or.inl ⟨by rfl,?_⟩) qH ?_ (hQ:=q9 hQp)
       rotate_left
       · (intro w hSw;clear hSw;go_simp;try with_reducible rfl)
       try simp only [ss9]
       refine tk1 (i:=24) (v:=?_) rfl (Or.inl ⟨by rfl,?_⟩) qH ?_ (hQ:=q9 hQp)
       rotate_left
       · (intro w hSw;clear hSw;go_simp;try with_reducible rfl)
       try simp only [ss9]
       refine wpAnyH_ready (rs:=[25]) (by kernel_rfl) (by simp) ?_
       refine AllReadyH.cons (o:=_) rfl (fun K hK => ?_) AllReadyH.nil
       have yK:Y1.cell? ⟨gW,104,none⟩=some (.int .i64 v.least):=HB.out.at 104 _ rfl
       have fK:=HB.out.frozen 104
       have lK:=HB.out.lt
       go_simp
       obtain ⟨Y2,hY⟩:∃ Y,Y=Y1.setCell ⟨gW,104,none⟩ (.int .i64 (min v.least sq)):=⟨_,rfl⟩
       have OF:OnlyB gW Y1 Y2:=by rw [hY];exact OnlyB.setCell _ _ _ _
       have BF:Blk Y2 gW 86 (VL.row ({ v with count:=v.count+1,least:=min v.least sq }) gc).toArray:=by rw [hY];exact HB.out.set_ 104 _
       rw [← hY]
       replace hch:=Chg.trans hch (Chg.of_only OF (S:=[gW]) (by simp))
       replace HB:=Z9 BF
       clear hY OF BF yK fK lK
       refine hK.out _ _ trivial (fun qH => ?_)
       clear hK K
       try simp only [ss9]
       refine tk1 (i:=26) (v:=?_) rfl (Or.inl ⟨by rfl,?_⟩) qH ?_ (hQ:=q9 hQp)
       rotate_left
       · (intro w hSw;clear hSw;go_simp;try with_reducible rfl)
       try simp only [ss9]
       refine tk1 (i:=27) (v:=?_) rfl (Or.inl ⟨by rfl,?_⟩) qH ?_ (hQ:=q9 hQp)
       rotate_left
       · (intro w hSw;clear hSw;go_simp;try with_reducible rfl)
       try simp only [ss9]
       refine wpAnyH_ready (rs:=[28]) (by kernel_rfl) (by simp) ?_
       refine AllReadyH.cons (o:=_) rfl (fun K hK => ?_) AllReadyH.nil
       have yK:Y2.cell? ⟨gW,105,none⟩=some (.int .i64 v.most):=HB.out.at 105 _ rfl
       have fK:=HB.out.frozen 105
       have lK:=HB.out.lt
       go_simp
       obtain ⟨Y3,hY⟩:∃ Y,Y=Y2.setCell ⟨gW,105,none⟩ (.int .i64 (max v.most sq)):=⟨_,rfl⟩
       have OF:OnlyB gW Y2 Y3:=by rw [hY];exact OnlyB.setCell _ _ _ _
       have BF:Blk Y3 gW 86 (VL.row (v.cnt sq) gc).toArray:=by rw [hY];exact HB.out.set_ 105 _
       rw [← hY]
       replace hch:=Chg.trans hch (Chg.of_only OF (S:=[gW]) (by simp))
       replace HB:=Z9 BF
       clear hY OF BF yK fK lK
       refine hK.out _ _ trivial (fun qH => ?_)
       clear hK K
       try simp only [ss9]
       refine wpAnyH_done (by kernel_rfl) ?_ _
       exact hq.out _ _ _ _ _ _ _ _ _ _ _ _ _ _ _ _ _ _ _ _ _ _ _ _ _ _ _ HB.out hch
noncomputable def ar12_code:Code:=((Tryz.f78.body.bind (fromReg 12)).getD .skip)
def ArR (gW gc:Nat) (v:VL) (d:Int×Int) (W:World) (e:Ending) (w':World):Prop:=e = .returned (.tuple #[])∧∃ (A':Option Addr) (c':Nat),1≤c'∧Blk w' gW 86 (VL.row { v with dA:=A',dc:=c',ds:=[d] } gc).toArray∧RowsNew W.heap.size w' 2 duRow A' [d]∧Chg [gW] W w'
theorem zoh {gW gc:Nat} {v:VL} {sq pt:Int} {W0 W:World} {R:Ending→World→Prop} (h00:Chg [gW] W0 W) (hB:Blk W gW 86 (v.row gc).toArray) (hd:v.ds=[]) (hdA:v.dA=none) (hdc:v.dc=0) (h1:v.now<pt) (h2:v.done<sq) (c0:0≤v.count) (c1:v.count≤1000000) (hR:∀ e w',ArR gW gc (v.cnt sq) (pt,sq) W0 e w'→R e w') (a:Act) (ha:Fr 225 [(0, .pointer (some ⟨gW,0,none⟩)),(8, .int .u8 1),(11, .int .i64 sq),(12, .int .i64 pt)] a):firstWp Tryz.prog ar12_code (bodyPost Tryz.prog Tryz.f78 R) a W:=by
 obtain ⟨s,rfl,hs9⟩:=ha
 rw [r225]
 obtain ⟨e0,e8,e11,e12,_⟩:=hs9
 rw [e0,e8,e11,e12]
 have hw:IntKind.i64.wrap (v.count+1)=v.count+1:=by simp only [IntKind.wrap,IntKind.bits,IntKind.signed];simp;omega
 have hgl:=hB.lt
 clear e0 e8 e11 e12
 refine zaq ?_
 intro _ _
 go_upto_region 12 with fail
 refine zqy (v:=v) (gc:=gc) hB hw ?_ ?_
 · intro ch a d u w h;exact h
 intro wx u120 u121 u122 u123 u124 u125 u126 u127 u128 u129 u130 u131 u132 u133 u134 u135 u136 u137 u138 u139 u140 u141 u142 u143 u144 u145 hBx hCx
 have y97:wx.cell? ⟨gW,97,none⟩=some (.int .i64 v.now):=hBx.at 97 _ rfl
 have y98:wx.cell? ⟨gW,98,none⟩=some (.int .i64 v.done):=hBx.at 98 _ rfl
 have y100:wx.cell? ⟨gW,100,none⟩=some (.slice v.dA v.ds.length v.dc):=hBx.at 100 _ rfl
 rw [hd,hdA,hdc] at y100
 have y110:wx.cell? ⟨gW,110,none⟩=some (.bool false):=hBx.at 110 _ rfl
 have t1:¬pt≤v.now:=by omega
 have t2:¬sq≤v.done:=by omega
 have kI:=Z9 (zqx gW _ (pt,sq) wx hBx y100)
 have HBx:=Z9 hBx
 have HCx:=Z9 hCx
 have hgx:=hBx.lt
 clear hBx hCx hB
 go_upto_region 14 with fail
 go_wp2_with fail
 refine kI.out.mono ?_
 rintro e w2 ⟨A',c',rfl,hcp2,hB2,hR2,hC2⟩
 have hB3:Blk w2 gW 86 (VL.row { v.cnt sq with dA:=A',dc:=c',ds:=[(pt,sq)] } gc).toArray:=hB2
 have z110:w2.cell? ⟨gW,110,none⟩=some (.bool false):=hB3.at 110 _ rfl
 have f110:=hB3.frozen 110
 have hg2:=hB3.lt
 have HB3:=Z9 hB3
 have HR2:=Z9 hR2
 have HC2:=Z9 hC2
 clear hB2 hB3 hR2 hC2 y97 y98 y100 y110 kI HBx t1 t2
 go_wp2_with fail
 try go_end0
 have hc9:Chg [gW] w2 (w2.setCell ⟨gW,110,none⟩ (.bool false)):=Chg.of_only (OnlyB.setCell _ _ _ _) (by simp)
 refine hR _ _ ⟨rfl,A',c',hcp2,HB3.out.set_ 110 _,⟨fun h0 => ?_,fun h0 b off e=>Nat.le_trans h00.size (Nat.le_trans HCx.out.size (HR2.out.2 h0 b off e))⟩,h00.trans ((HCx.out.trans HC2.out).trans hc9)⟩
 obtain ⟨b,off,e,hlt,hc⟩:=HR2.out.1 h0
 have hlow:=HR2.out.2 h0 b off e
 refine ⟨b,off,e,Nat.lt_of_lt_of_le hlt hc9.size,fun i a ha j v hv=>(hc9.cell (p:=⟨b,off+i*2+j,none⟩) hlt (by simp;omega)).trans (hc i a ha j v hv)⟩
def VL.beg (v:VL) (sq:Int):VL:=if v.count=0 then { v with least:=sq,most:=sq } else v
theorem zuj {gW gc:Nat} {v:VL} {sq pt:Int} {W0 W:World} {R:Ending→World→Prop} (h00:Chg [gW] W0 W) (hB:Blk W gW 86 (v.row gc).toArray) (hd:v.ds=[]) (hdA:v.dA=none) (hdc:v.dc=0) (h1:v.now<pt) (h2:v.done<sq) (c0:0≤v.count) (c1:v.count≤1000000) (hR:∀ e w',ArR gW gc ((v.beg sq).cnt sq) (pt,sq) W0 e w'→R e w') (a:Act) (ha:Fr 225 [(0, .pointer (some ⟨gW,0,none⟩)),(8, .int .u8 1),(11, .int .i64 sq),(12, .int .i64 pt)] a):firstWp Tryz.prog ar10_code (bodyPost Tryz.prog Tryz.f78 R) a W:=by
 obtain ⟨s,rfl,hs9⟩:=ha
 rw [r225]
 obtain ⟨e0,e8,e11,e12,_⟩:=hs9
 rw [e0,e8,e11,e12]
 have y103:W.cell? ⟨gW,103,none⟩=some (.int .i64 v.count):=hB.at 103 _ rfl
 have y104:W.cell? ⟨gW,104,none⟩=some (.int .i64 v.least):=hB.at 104 _ rfl
 have y105:W.cell? ⟨gW,105,none⟩=some (.int .i64 v.most):=hB.at 105 _ rfl
 have f104:=hB.frozen 104
 have f105:=hB.frozen 105
 have hgl:=hB.lt
 have HB:=Z9 hB
 clear hB e0 e8 e11 e12
 refine zas ?_
 intro _ _ _ _
 by_cases hc:v.count=0
 · rw [hc] at y103
   go_upto_region 12 with fail
   refine zan (by assumption) ?_
   have e:v.beg sq = { v with least:=sq,most:=sq } := by unfold VL.beg;rw [if_pos hc]
   rw [e] at hR
   refine zoh (h00.trans ((Chg.of_only (OnlyB.setCell _ gW 104 _) (by simp)).trans (Chg.of_only (OnlyB.setCell _ gW 105 _) (by simp)))) (v := { v with least:=sq,most:=sq }) ((HB.out.set_ 104 _).set_ 105 _) hd hdA hdc h1 h2 c0 c1 hR _ (Fr.mk rfl ⟨rfl,rfl,rfl,rfl,trivial⟩)
 · go_upto_region 12 with fail
   refine zan (by assumption) ?_
   have e:v.beg sq=v:=by unfold VL.beg;rw [if_neg hc]
   rw [e] at hR
   exact zoh h00 HB.out hd hdA hdc h1 h2 c0 c1 hR _ (Fr.mk rfl ⟨rfl,rfl,rfl,rfl,trivial⟩)
theorem zuk (gW gc:Nat) (v:VL) (k:Sb.Pkt) (ok:k.ok) (u':Sb.Pt) (DA:Option Addr) (dn dc:Nat) (W:World) (hB:Blk W gW 86 (v.row gc).toArray) (hdn:(Pk.bytes k.pk).length=dn) (hdc:dn≤dc) (hD:IntsAt W W.heap.size .u8 DA (Pk.bytes k.pk)) (hds:v.ds=[]) (hdA:v.dA=none) (hdd:v.dc=0) (hsq:k.sq<(v.ss.length:Int)) (hty:k.ty≠101) (hok:u'.jt.ok) (hl:u'.jt.q.length≤1000) (hK:∀ a∈u'.jt.q,I64 a.m.sq) (h1:v.now<Jb.ptime u'.jt k.ti) (h2:v.done<k.sq) (c0:0≤v.count) (c1:v.count≤1000000)
 (kR:∀ (V:World) (Mx:Option Addr) (cm:Nat) (Et:Option Addr) (ce:Nat) (Pl:Option Addr) (cp:Nat),Below W.heap.size W V→IntsAt V V.heap.size .u8 Pl k.pl→Calls Tryz.prog 26 #[.agg (PA v.u.p v.u.A v.u.n v.u.c), .int .i64 v.now, .agg (k.rx Mx cm Et ce Pl cp).row] V (RecvR (u',1,[]) V)) :
 Calls Tryz.prog 78 #[.pointer (some ⟨gW,0,none⟩), .slice DA dn dc] W fun e w'=>e = .returned (.tuple #[])∧∃ (A':Option Addr) (n' c':Nat) (l':List TW) (dA:Option Addr) (dc':Nat),1≤dc'∧Blk w' gW 86 (VL.row { (({ v with u:=⟨u',A',n',c',l'⟩ } : VL).beg k.sq).cnt k.sq with dA:=dA,dc:=dc',ds:=[(Jb.ptime u'.jt k.ti,k.sq)] } gc).toArray∧l'.map TW.w=u'.jt.q∧l'.length=n'∧n'≤c'∧c'≤maxLen∧(∀ S:List Nat,(∀ x∈S,x<W.heap.size)→QAv w' S A' l')∧RowsNew W.heap.size w' 2 duRow dA [(Jb.ptime u'.jt k.ti,k.sq)]∧Chg [gW] W w':=by
 have hgW:=hB.lt
 refine zui gW gc v k ok u' DA dn dc W hB hdn hdc hD hds hsq kR (fun W1 a gX g3 Mx cm Et ce Pl cp A' n' c' l' B1 BX B3 g1 g2 g4 q1 q2 q3 q4 hQ hC ha => ?_)
 have hln:n'≤1000:=by have h9:=congrArg List.length q1;rw [List.length_map,q2] at h9;omega
 refine zwm ok BX B3 hty hok q1 q2 hln (hQ [] (by simp)).wts (fun a ha=>hK a.w (by rw [← q1];exact List.mem_map_of_mem ha)) (fun W2 a hb ha => ?_) a ha
 have B2:=B1.later hb
 obtain ⟨s,rfl,hs9⟩:=ha
 obtain ⟨e0,e4,e7,e8,e11,e12,_⟩:=hs9
 refine zuj (v := { v with u:=⟨u',A',n',c',l'⟩ }) (pt:=Jb.ptime u'.jt k.ti) (Chg.of_below hb) B2 hds hdA hdd h1 h2 c0 c1 (fun e w' hA => ?_) _ ⟨s,rfl,⟨e0,e8,e11,e12,trivial⟩⟩
 obtain ⟨rfl,dA,dc',r0,r1,r2,r3⟩:=hA
 refine ⟨rfl,A',n',c',l',dA,dc',r0,r1,q1,q2,q3,q4,fun S hS => ?_,⟨r2.1,fun h0 b off e=>Nat.le_trans hC.size (r2.2 h0 b off e)⟩,hC.trans r3⟩
 have hS2:∀ x∈gW::S,x<W.heap.size:=fun x hx=>(List.mem_cons.1 hx).elim (fun e=>e ▸ hgW) (hS x)
 exact ((hQ (gW::S) hS2).chg r3 (by simp)).sub (fun x hx=>List.mem_cons_of_mem _ hx)
theorem r102 (s:Nat→Value):((List.range 102).map s).toArray = #[s 0,s 1,s 2,s 3,s 4,s 5,s 6,s 7,s 8,s 9,s 10,s 11,s 12,s 13,s 14,s 15,s 16,s 17,s 18,s 19,s 20,s 21,s 22,s 23,s 24,s 25,s 26,s 27,s 28,s 29,s 30,s 31,s 32,s 33,s 34,s 35,s 36,s 37,s 38,s 39,s 40,s 41,s 42,s 43,s 44,s 45,s 46,s 47,s 48,s 49,s 50,s 51,s 52,s 53,s 54,s 55,s 56,s 57,s 58,s 59,s 60,s 61,s 62,s 63,s 64,s 65,s 66,s 67,s 68,s 69,s 70,s 71,s 72,s 73,s 74,s 75,s 76,s 77,s 78,s 79,s 80,s 81,s 82,s 83,s 84,s 85,s 86,s 87,s 88,s 89,s 90,s 91,s 92,s 93,s 94,s 95,s 96,s 97,s 98,s 99,s 100,s 101]:=rfl
noncomputable def un0_code:Code:=((Tryz.f35.body.bind (fromReg 0)).getD .skip)
structure UnK (gW gc:Nat) (t:Int) (I:Nat→VL→Ca→World→Prop) (J:Nat→VL→Ca→World→Option Addr→List Dg→Nat→Prop):Prop where
 ib:∀ n v k W,I n v k W→Blk W gW 86 (v.row gc).toArray
 il:∀ n v k W,I n v k W→∀ W',Below W.heap.size W W'→I n v k W'
 ib2:∀ n v k W,I n v k W→gW≠gc
 nx:∀ n v k W,I n v k W→Calls Tryz.prog 76 #[.pointer (some ⟨gc,0,none⟩)] W (NextR k.ps W)
 rc:∀ n v k W,I n v k W→n<500→∀ s,(∃ p∈k.ps,s=max v.now p.at_∧p.at_≤t)→∀ W1,Blk W1 gW 86 (VL.row { v with now:=s } gc).toArray→Chg [gW] W W1→∀ V,Below W1.heap.size W1 V→Calls Tryz.prog 77 #[.pointer (some ⟨gc,0,none⟩), .int .i64 s] V fun e w' => ∃ (A:Option Addr) (c:Nat) (ds:List Dg) (k':Ca),e = .returned (.tuple #[.slice A ds.length c, .int .u8 0])∧0<ds.length∧ds.length≤1000∧Chg [gc] V w'∧(∀ w2,Blk w2 gW 86 (VL.row { v with now:=s } gc).toArray→Chg [gW] w' w2→J n { v with now:=s } k' w2 A ds 0)
 jb:∀ n v k W A ds j,J n v k W A ds j→Blk W gW 86 (v.row gc).toArray
 jr:∀ n v k W A ds j,J n v k W A ds j→RowsAt W W.heap.size 5 Dg.row A ds
 ar:∀ n v k W A ds j d,J n v k W A ds j→ds[j]? = some d→Calls Tryz.prog 78 #[.pointer (some ⟨gW,0,none⟩), .slice d.A d.zs.length d.c] W fun e w'=>e = .returned (.tuple #[])∧∃ v',J n v' k w' A ds (j+1)
 fi:∀ n v k W A ds,J n v k W A ds ds.length→I (n+1) v k W
theorem zwn {w:World} {n:Nat} {A:Option Addr} {l:List Dg} {i:Nat} {d:Dg} (h:RowsAt w n 5 Dg.row A l) (hd:l[i]? = some d):∃ b off,A=some ⟨b,off,none⟩∧b<n∧w.cell? ⟨b,off+i*5+4,none⟩=some (.slice d.A d.zs.length d.c):=by
 obtain ⟨b,off,e,hb,hc⟩:=h (by have:=(List.getElem?_eq_some_iff.1 hd).1;omega)
 exact ⟨b,off,e,hb,hc i d hd 4 _ rfl⟩
theorem zoi {gW gc:Nat} {t:Int} {I:Nat→VL→Ca→World→Prop} {J:Nat→VL→Ca→World→Option Addr→List Dg→Nat→Prop} (K:UnK gW gc t I J) (v:VL) (k:Ca) (W:World) (h0:I 0 v k W) {R:Ending→World→Prop}
 (h:∀ n v k W,I n v k W→(n=500∨∀ p∈k.ps,t<p.at_)→∀ W',Blk W' gW 86 (VL.row { v with now:=max v.now t } gc).toArray→Chg [gW] W W'→R (.returned (.tuple #[])) W'):Calls Tryz.prog 35 #[.pointer (some ⟨gW,0,none⟩), .int .i64 t] W R:=by
 go_enter Tryz.func35,Tryz.ntmps35
 go_wp2_with fail
 refine wp_loop_rounds 501 (zbn (fun m a wr => ∃ (n:Nat) (v:VL) (k:Ca),m+n=500∧I n v k wr∧Fr 102 ((4, .int .i64 (n:Int)) :: [(0, .pointer (some ⟨gW,0,none⟩)),(1, .int .i64 t)]) a) (fun m a wr hJ => ?_) 500 _ _ ⟨0,v,k,rfl,h0,Fr.mk rfl ⟨rfl,rfl,rfl,trivial⟩⟩)
 clear h0
 obtain ⟨n,v,k,hm,hI,ha⟩:=hJ
 obtain ⟨s,rfl,hs9⟩:=ha
 rw [r102]
 obtain ⟨e4,e0,e1,_⟩:=hs9
 rw [e0,e1,e4]
 have HB1:=Z9 (K.ib n v k wr hI)
 have y96:wr.cell? ⟨gW,96,none⟩=some (.pointer (some ⟨gc,0,none⟩)):=HB1.out.at 96 _ rfl
 have y97:wr.cell? ⟨gW,97,none⟩=some (.int .i64 v.now):=HB1.out.at 97 _ rfl
 have y110:wr.cell? ⟨gW,110,none⟩=some (.bool false):=HB1.out.at 110 _ rfl
 have hI1:=hI
 by_cases hn:n<500
 rotate_left
 · have hn2:¬(n:Int)<500:=by omega
   have f97:=HB1.out.frozen 97
   have hgl:=HB1.out.lt
   go_wp2_with fail
   go_end0
   exact h n v k _ hI1 (.inl (by omega)) _ (HB1.out.set_ 97 _) (Chg.of_only (OnlyB.setCell _ _ _ _) (by simp))
 have hn2:(n:Int)<500:=by omega
 go_wp2_with fail
 refine (K.nx n v k wr hI).mono ?_
 rintro e w1 ⟨hb,hN⟩
 replace hI1:=K.il n v k wr hI w1 hb
 replace HB1:=Z9 (K.ib n v k w1 hI1)
 replace y96:w1.cell? ⟨gW,96,none⟩=some (.pointer (some ⟨gc,0,none⟩)):=HB1.out.at 96 _ rfl
 replace y97:w1.cell? ⟨gW,97,none⟩=some (.int .i64 v.now):=HB1.out.at 97 _ rfl
 replace y110:w1.cell? ⟨gW,110,none⟩=some (.bool false):=HB1.out.at 110 _ rfl
 clear hb hI
 rcases hN with ⟨hps,rfl⟩|⟨t',rfl,⟨p,hp,rfl⟩,hle⟩
 · have f97:=HB1.out.frozen 97
   have hgl:=HB1.out.lt
   go_wp2_with fail
   go_end0
   exact h n v k _ hI1 (.inr (by rw [hps];intro p hp;cases hp)) _ (HB1.out.set_ 97 _) (Chg.of_only (OnlyB.setCell _ _ _ _) (by simp))
 by_cases hpt:t<p.at_
 · have f97:=HB1.out.frozen 97
   have hgl:=HB1.out.lt
   go_wp2_with fail
   go_end0
   exact h n v k _ hI1 (.inr (fun q hq=>by have:=hle q hq;omega)) _ (HB1.out.set_ 97 _) (Chg.of_only (OnlyB.setCell _ _ _ _) (by simp))
 have hp2:p.at_≤t:=by omega
 have f97:=HB1.out.frozen 97
 have hgl:=HB1.out.lt
 go_upto_region 6 with fail
 obtain ⟨V1,hV⟩:∃ V,V=w1.setCell ⟨gW,97,none⟩ (.int .i64 (max v.now p.at_)):=⟨_,rfl⟩
 have oV1:OnlyB gW (w1) V1:=by rw [hV];exact OnlyB.setCell _ _ _ _
 have B2:Blk V1 gW 86 (VL.row { v with now:=max v.now p.at_ } gc).toArray:=by rw [hV];exact HB1.out.set_ 97 _
 rw [← hV]
 clear hV
 have hgne:=K.ib2 n v k w1 hI1
 have hgT:gW ∉ [gc]:=by simp;exact hgne
 have z96:V1.cell? ⟨gW,96,none⟩=some (.pointer (some ⟨gc,0,none⟩)):=B2.at 96 _ rfl
 have z97:V1.cell? ⟨gW,97,none⟩=some (.int .i64 (max v.now p.at_)):=B2.at 97 _ rfl
 have HB2:=Z9 B2
 have CV1:=Z9 (Chg.of_only oV1 (S:=[gW]) (by simp))
 clear B2 oV1 y96 y97 y110 f97 hgl HB1
 go_region_held3 (fun w'=>Chg [gc] V1 w'∧w'.cell? ⟨gW,96,none⟩=some (.pointer (some ⟨gc,0,none⟩))∧w'.cell? ⟨gW,97,none⟩=some (.int .i64 (max v.now p.at_)))
  (first|assumption|((try go_split_ands);refine zbv ?_ (fun hbX=>⟨zbq hbX hgT z96,zbq hbX hgT z97⟩);(with_reducible repeat first|assumption|exact Chg.refl _ _|refine Chg.drew ?_)))
  (first
   | (go_at_call 77;refine (K.rc n v k w1 hI1 hn _ ⟨p,hp,rfl,hp2⟩ V1 HB2.out CV1.out _ (Below.drew (Below.refl _ _))).mono ?_;rintro e w7 ⟨A,c,ds,k',rfl,hd0,hdl,hc7,hJ⟩;have hcw:Chg [gc] V1 w7:=Chg.trans (Chg.drew (Chg.refl _ _)) hc7))
 all_goals
  have B7:=hcw.blk HB2.out hgT
  have q110:w7.cell? ⟨gW,110,none⟩=some (.bool false):=B7.at 110 _ rfl
  have fq:=B7.frozen 110
  have hgl7:=B7.lt
  have HB7:=Z9 B7
  have hne0:¬ds.length=0:=by omega
  have hne1:¬ds=[]:=fun e=>hne0 (by rw [e];rfl)
  have hne2:((ds.length:Int)==0)=false:=by simpa using hne1
  have HN2:=Z9 hne2
  clear B7 hcw hc7 z96 z97 hne2
  go_upto_region 8 with fail
  try rw [HN2.out]
  obtain ⟨V2,hV⟩:∃ V,V=w7.setCell ⟨gW,110,none⟩ (.bool false):=⟨_,rfl⟩
  have oV2:OnlyB gW (w7) V2:=by rw [hV];exact OnlyB.setCell _ _ _ _
  have B8:Blk V2 gW 86 (VL.row { v with now:=max v.now p.at_ } gc).toArray:=by rw [hV];exact HB7.out.set_ 110 _
  rw [← hV]
  clear hV
  have hJ0:=hJ V2 B8 (Chg.of_only oV2 (by simp))
  clear hJ B8 oV2 q110 fq HB7 HB2
  go_wp2_with fail
  refine wp_loop_rounds (ds.length+1) (zbn (fun m a wr => ∃ (j:Nat) (v2:VL) (k2:Ca),m+j=ds.length∧J n v2 k2 wr A ds j∧Fr 102 [(9, .int .i64 (j:Int)),(7, .slice A ds.length c),(4, .int .i64 (n:Int)),(0, .pointer (some ⟨gW,0,none⟩)),(1, .int .i64 t)] a) (fun m2 a wr hJ2 => ?_) ds.length _ _ ⟨0,_,_,rfl,hJ0,Fr.mk rfl ⟨rfl,rfl,rfl,rfl,rfl,trivial⟩⟩)
  clear hJ0
  obtain ⟨j,v2,k2,hm2,hJ2,ha⟩:=hJ2
  obtain ⟨s,rfl,hs9⟩:=ha
  rw [r102]
  obtain ⟨e9,e7,e4,e0,e1,_⟩:=hs9
  rw [e0,e1,e4,e7,e9]
  have HBj:=Z9 (K.jb _ _ _ _ _ _ _ hJ2)
  have w110:wr.cell? ⟨gW,110,none⟩=some (.bool false):=HBj.out.at 110 _ rfl
  have hj0:(0:Int)≤(j:Int):=by omega
  by_cases hj:j<ds.length
  rotate_left
  · have hj2:¬(j:Int)<(ds.length:Int):=by omega
    obtain rfl:j=ds.length:=by omega
    go_wp2_with fail
    exact ⟨m-1,by omega,n+1,by omega,⟨v2,k2,K.fi _ _ _ _ _ _ hJ2⟩,Fr.mk rfl ⟨rfl,rfl,rfl,trivial⟩⟩
  have hj2:(j:Int)<(ds.length:Int):=by omega
  obtain ⟨d,hd⟩:∃ d,ds[j]? = some d:=⟨_,List.getElem?_eq_getElem hj⟩
  obtain ⟨bD,oD,rfl,hbD,x4⟩:=zwn (K.jr _ _ _ _ _ _ _ hJ2) hd
  go_wp2_with fail
  refine (K.ar _ _ _ _ _ _ _ d hJ2 hd).mono ?_
  rintro e w9 ⟨rfl,v3,hJ3⟩
  clear x4 w110 HBj hJ2
  go_wp2_with fail
  exact ⟨m2-1,by omega,j+1,v3,k2,by omega,hJ3,Fr.mk rfl ⟨rfl,rfl,rfl,rfl,rfl,trivial⟩⟩
def EncN (k:Int) (bs:List Int) (s:Int×Int) (w:World) (e:Ending) (w':World):Prop:=∃ (A':Option Addr) (c':Nat),e = .returned (.tuple #[.slice A' bs.length c', .agg #[.int .i64 s.1, .int .i64 s.2], .int .u8 0])∧(k=96→bs.length≤c')∧IntsNew w.heap.size w' .u8 A' bs∧Below w.heap.size w w'
structure EnN (k v i:Int) (zs bs:List Int) (s:Int×Int) (K D:Nat) (C:Nat→Nat→Array Value):Prop where
 at_:∀ b1 b2,cAt b1 b2 k = .agg #[.func (.func K) #[] (C b1 b2), .func (.func D) #[] (C b1 b2)]
 en:∀ (args:Array Value) (w:World),(callFunc K args).run Tryz.prog w = .ok (.enter K args) w
 run:∀ (V:World) (b1 b2:Nat) (ZA:Option Addr) (zc:Nat),IntsAt V V.heap.size .i16 ZA zs→Blk V b1 5 #[.int .u8 1]→Blk V b2 5 #[.int .u8 2]→Calls Tryz.prog K (#[.agg #[.int .i64 v, .int .i64 i], .slice ZA zs.length zc]++C b1 b2) V (EncN k bs s V)
structure DeN (k n:Int) (A:Option Addr) (c:Nat) (bs zs:List Int) (K D:Nat) (C:Nat→Nat→Array Value):Prop where
 at_:∀ b1 b2,cAt b1 b2 k = .agg #[.func (.func D) #[] (C b1 b2), .func (.func K) #[] (C b1 b2)]
 en:∀ (args:Array Value) (w:World),(callFunc K args).run Tryz.prog w = .ok (.enter K args) w
 run:∀ (V:World) (b1 b2:Nat),IntsAt V V.heap.size .u8 A bs→Blk V b1 5 #[.int .u8 1]→Blk V b2 5 #[.int .u8 2]→Calls Tryz.prog K (#[.slice A bs.length c, .int .i64 n]++C b1 b2) V (DecR zs 0 V)
theorem enN (k v i:Int) (hk:speechB k=true) (hv:Dlt.valid v i=true) (zs:List Int) (hz:Within (-32768) 32767 zs) (hl:zs.length=160):∃ K D C,EnN k v i zs (Sb.enc k (v,i) zs).1 (Sb.enc k (v,i) zs).2 K D C:=by
 unfold Sb.enc
 rcases zam.1 hk with rfl|rfl|rfl
 · refine ⟨_,_,fun b1 _ => #[.pointer (some ⟨b1,0,none⟩)],⟨fun b1 b2=>rfl,fun _ _=>by kernel_rfl,fun V b1 b2 ZA zc hA h1 h2 => ?_⟩⟩
   refine (ztb v i ZA zs zc b1 V hA hz (by omega) h1).mono ?_
   rintro e w' ⟨A',c',rfl,h2,h3⟩
   exact ⟨A',c',rfl,fun h=>absurd h (by decide),h2,h3⟩
 · refine ⟨_,_,fun _ b2 => #[.pointer (some ⟨b2,0,none⟩)],⟨fun b1 b2=>rfl,fun _ _=>by kernel_rfl,fun V b1 b2 ZA zc hA h1 h2 => ?_⟩⟩
   refine (zwt v i ZA zs zc b2 V hA hz (by omega) h2).mono ?_
   rintro e w' ⟨A',c',rfl,h2,h3⟩
   exact ⟨A',c',rfl,fun h=>absurd h (by decide),h2,h3⟩
 · refine ⟨_,_,fun _ _ => #[],⟨fun b1 b2=>rfl,fun _ _=>by kernel_rfl,fun V b1 b2 ZA zc hA h1 h2 => ?_⟩⟩
   refine (zhg v i ZA zs zc V hv hA hz (by omega) (by omega)).mono ?_
   rintro e w' ⟨A',c',rfl,h1,h2,h3⟩
   refine ⟨A',c',?_,fun _ => ?_,h2,h3⟩
   · show _=Ending.returned (.tuple #[.slice A' (Dlt.packB (v,i) zs).length c',_,_])
     rw [Dlt.packB_len]
     rfl
   · show (Dlt.packB (v,i) zs).length≤c'
     rw [Dlt.packB_len];exact h1
theorem deN (k:Int) (hk:speechB k=true) (A:Option Addr) (bs:List Int) (c:Nat) (hz:Within 0 255 bs) (h8:bs.length≤5000) (h96:k=96→bs.length≤c∧bs.length=84) (hl:(Sb.decS k bs).length=160):∃ K D C,DeN k (2*((bs.length:Int)-4)) A c bs (Sb.decS k bs) K D C:=by
 rcases zam.1 hk with rfl|rfl|rfl
 · refine ⟨_,_,fun b1 _ => #[.pointer (some ⟨b1,0,none⟩)],⟨fun b1 b2=>rfl,fun _ _=>by kernel_rfl,fun V b1 b2 hA h1 h2 => ?_⟩⟩
   exact zte _ A bs c b1 V hA hz (by omega) h1
 · refine ⟨_,_,fun _ b2 => #[.pointer (some ⟨b2,0,none⟩)],⟨fun b1 b2=>rfl,fun _ _=>by kernel_rfl,fun V b1 b2 hA h1 h2 => ?_⟩⟩
   exact zxo _ A bs c b2 V hA hz (by omega) h2
 · refine ⟨_,_,fun _ _ => #[],⟨fun b1 b2=>rfl,fun _ _=>by kernel_rfl,fun V b1 b2 hA h1 h2 => ?_⟩⟩
   obtain ⟨hc,h84⟩:=h96 rfl
   have h:=zpx (2*((bs.length:Int)-4)) A bs c V hA hz hc (by unfold maxLen;omega)
   have hn:(2*((bs.length:Int)-4))=160:=by omega
   have hd:Dlt.unpR bs (2*((bs.length:Int)-4))=((Sb.decS 96 bs),(Dlt.unpR bs (2*((bs.length:Int)-4))).2.1,(Dlt.unpR bs (2*((bs.length:Int)-4))).2.2.1,0):=by
    rw [hn]
    have e:Sb.decS 96 bs=if Sb.Dlt.fits bs 160 then Dlt.unpackL bs 160 else []:=by unfold Sb.decS;rw [if_neg (by decide),if_neg (by decide),if_pos rfl]
    rw [e] at hl ⊢
    have h2:Sb.Dlt.fits bs 160:=by
     by_cases hh:Sb.Dlt.fits bs 160
     · exact hh
     · rw [if_neg hh] at hl;simp at hl
    have h3:Dlt.okB bs 160:=h2
    rw [if_pos h2]
    unfold Dlt.unpR
    rw [if_neg (by decide),show (160:Int).toNat=160 from rfl,if_neg (by omega),if_pos h3]
   rw [hd] at h
   exact h
theorem zqz (a b:Int) (ha:speechB a=true) (hb:speechB b=true) (a1:0≤a∧a≤255) (b1:0≤b∧b≤255) (A:Option Addr) (bs:List Int) (c:Nat) (v i:Int) (w:World) (hA:IntsAt w w.heap.size .u8 A bs) (h8:bs.length≤5000) (h4:a=96→4≤bs.length) (ZL es:List Int) (s:Int×Int) (KD DD KE DE:Nat) (CD CE:Nat→Nat→Array Value)
 (hD:DeN a (2*((bs.length:Int)-4)) A c bs ZL KD DD CD) (hE:EnN b v i ZL es s KE DE CE):Calls Tryz.prog 74 #[.int .u8 a, .int .u8 b, .slice A bs.length c, .agg #[.int .i64 v, .int .i64 i]] w (EncN b es s w):=by
 obtain ⟨s1,s2⟩:=s
 have hnw:wrap64 (2*((bs.length:Int)-4))=2*((bs.length:Int)-4):=IntWalk.wrap64_in _ ⟨by omega,by omega⟩
 have hno:a=96→¬(bs.length:Int)<4:=fun h=>by have:=h4 h;omega
 have HNO:=Z9 hno
 have HDD:=Z9 hD
 have HEE:=Z9 hE
 have hab:=Z9 a1
 have hbb:=Z9 b1
 clear hD hE h4 a1 b1 hno
 have HA:=Z9 ((hA.push (.cells #[.int .i64 v, .int .i64 i] 30)).push (.cells #[.int .i64 0, .int .i64 0] 30))
 have B0:=Z9 ((Blk.new w 30 #[.int .i64 v, .int .i64 i]).push (.cells #[.int .i64 0, .int .i64 0] 30))
 have B1:=Z9 (Blk.new1 w (.cells #[.int .i64 v, .int .i64 i] 30) 30 #[.int .i64 0, .int .i64 0])
 have U:=Z9 (((Bel.refl w).push (.cells #[.int .i64 v, .int .i64 i] 30)).push (.cells #[.int .i64 0, .int .i64 0] 30))
 clear hA
 go_enter Tryz.func74,Tryz.ntmps74
 go_upto_region 1 with fail
 change Code.wp _ _ _ _ ((w.alloc (Obj.cells #[.int .i64 v, .int .i64 i] 30)).alloc (Obj.cells #[.int .i64 0, .int .i64 0] 30))
 obtain ⟨W,hW⟩:∃ W,W=(w.alloc (Obj.cells #[.int .i64 v, .int .i64 i] 30)).alloc (Obj.cells #[.int .i64 0, .int .i64 0] 30):=⟨_,rfl⟩
 have hsw:W.heap.size=w.heap.size+2:=by rw [hW];exact zcc _ _ _
 have HSW:=Z9 hsw
 rw [← hW] at HA B0 B1 U ⊢
 clear hW hsw
 go_wp2_with fail
 refine (zbc _).mono ?_
 rintro e w1 ⟨m1,a1,d1,rfl,C,hb1⟩
 have kl1:=(zaz C a hab.out.1 hab.out.2).2
 rw [HDD.out.at_,ha] at kl1
 have HC:=Z9 (C.later ((Below.refl _ _).alloc (Nat.le_refl _) (.cells #[.func (.func DD) #[] (CD a1 d1), .func (.func KD) #[] (CD a1 d1)] 148)))
 replace HA:=Z9 ((HA.out.later hb1).push (.cells #[.func (.func DD) #[] (CD a1 d1), .func (.func KD) #[] (CD a1 d1)] 148))
 replace B0:=Z9 ((B0.out.later hb1).push (.cells #[.func (.func DD) #[] (CD a1 d1), .func (.func KD) #[] (CD a1 d1)] 148))
 replace B1:=Z9 ((B1.out.later hb1).push (.cells #[.func (.func DD) #[] (CD a1 d1), .func (.func KD) #[] (CD a1 d1)] 148))
 replace U:=Z9 ((U.out.later hb1).push (.cells #[.func (.func DD) #[] (CD a1 d1), .func (.func KD) #[] (CD a1 d1)] 148))
 have BC1:=Z9 (Blk.new w1 148 #[.func (.func DD) #[] (CD a1 d1), .func (.func KD) #[] (CD a1 d1)])
 have hsz1:=hb1.size
 have HS1:Hid (W.heap.size≤(w1.alloc (.cells #[.func (.func DD) #[] (CD a1 d1), .func (.func KD) #[] (CD a1 d1)] 148)).heap.size):=Z9 (Nat.le_trans hsz1 (by rw [zar];exact Nat.le_succ _))
 clear C hb1 hsz1
 go_wp2_with fail
 refine (zbc _).mono ?_
 rintro e w2 ⟨m2,a2,d2,rfl,C,hb1⟩
 have kl2:=(zaz C b hbb.out.1 hbb.out.2).2
 rw [HEE.out.at_,hb] at kl2
 replace HC:=Z9 ((HC.out.later hb1).later ((Below.refl _ _).alloc (Nat.le_refl _) (.cells #[.func (.func KE) #[] (CE a2 d2), .func (.func DE) #[] (CE a2 d2)] 148)))
 have HC2:=Z9 (C.later ((Below.refl _ _).alloc (Nat.le_refl _) (.cells #[.func (.func KE) #[] (CE a2 d2), .func (.func DE) #[] (CE a2 d2)] 148)))
 replace HA:=Z9 ((HA.out.later hb1).push (.cells #[.func (.func KE) #[] (CE a2 d2), .func (.func DE) #[] (CE a2 d2)] 148))
 replace B0:=Z9 ((B0.out.later hb1).push (.cells #[.func (.func KE) #[] (CE a2 d2), .func (.func DE) #[] (CE a2 d2)] 148))
 replace B1:=Z9 ((B1.out.later hb1).push (.cells #[.func (.func KE) #[] (CE a2 d2), .func (.func DE) #[] (CE a2 d2)] 148))
 replace U:=Z9 ((U.out.later hb1).push (.cells #[.func (.func KE) #[] (CE a2 d2), .func (.func DE) #[] (CE a2 d2)] 148))
 replace BC1:=Z9 ((BC1.out.later hb1).push (.cells #[.func (.func KE) #[] (CE a2 d2), .func (.func DE) #[] (CE a2 d2)] 148))
 have BC2:=Z9 (Blk.new w2 148 #[.func (.func KE) #[] (CE a2 d2), .func (.func DE) #[] (CE a2 d2)])
 have hsz1:=Nat.le_trans HS1.out hb1.size
 have HS2:Hid (W.heap.size≤(w2.alloc (.cells #[.func (.func KE) #[] (CE a2 d2), .func (.func DE) #[] (CE a2 d2)] 148)).heap.size):=Z9 (Nat.le_trans hsz1 (by rw [zar];exact Nat.le_succ _))
 clear C hb1 hsz1 HS1
 have bc:=BC1.out.at 1 _ rfl
 have hen:=HDD.out.en
 by_cases h96:a=96
 rotate_left
 all_goals
  try have hn4:=HNO.out (by assumption)
  go_wp2_with fail
  refine (HDD.out.run _ a1 d1 HA.out HC.out.l1 HC.out.l2).mono ?_
  rintro e w3 ⟨A3,c3,rfl,hI,hb1⟩
  have HI:=Z9 hI.1
  have HS3:Hid (W.heap.size≤w3.heap.size):=Z9 (Nat.le_trans HS2.out hb1.size)
  replace B0:=Z9 (B0.out.later hb1)
  replace B1:=Z9 (B1.out.later hb1)
  replace U:=Z9 (U.out.later hb1)
  replace BC2:=Z9 (BC2.out.later hb1)
  replace HC2:=Z9 (HC2.out.later hb1)
  clear hI hb1 HA bc BC1 HC HS2 kl1 kl2 hen hnw
  have bc0:=BC2.out.at 0 _ rfl
  have s0:=B0.out.at 0 _ rfl
  have s1':=B0.out.at 1 _ rfl
  have hen:=HEE.out.en
  go_wp2_with fail
  refine (HEE.out.run _ a2 d2 A3 c3 HI.out HC2.out.l1 HC2.out.l2).mono ?_
  rintro e w4 ⟨A4,c4,rfl,hcp,hE,hb1⟩
  have HCP:=Z9 hcp
  replace B1:=Z9 ((B1.out.later hb1).push (.cells #[.int .i64 s1, .int .i64 s2] 30))
  replace U:=Z9 ((U.out.later hb1).push (.cells #[.int .i64 s1, .int .i64 s2] 30))
  have HE:=Z9 (hE.push (.cells #[.int .i64 s1, .int .i64 s2] 30))
  have BD:=Z9 (Blk.new w4 30 #[.int .i64 s1, .int .i64 s2])
  clear hE hb1 bc0 s0 s1' B0 BC2 HI HC2 hen hcp
  have c0:=BD.out.at 0 _ rfl
  have c1:=BD.out.at 1 _ rfl
  have r0:=B1.out.at 0 _ rfl
  have r1:=B1.out.at 1 _ rfl
  have rz:=B1.out.frozen
  go_upto_region 13 with fail
  go_region
  have RF:=B1.out.set_ 0 (.int .i64 s1)
  have RG:=RF.set_ 1 (.int .i64 s2)
  have hh:=HSW.out
  have hh3:=HS3.out
  have RJ:=((HE.out.setCell (p:=⟨w.heap.size+1,0,none⟩) (by simp only;omega) (.int .i64 s1)).setCell (p:=⟨w.heap.size+1,1,none⟩) (by simp only;omega) (.int .i64 s2)).less (m:=w.heap.size) (by omega)
  have UF:=zaj (zaj U.out (by simp) (.int .i64 s1) (p:=⟨w.heap.size+1,0,none⟩)) (by simp) (.int .i64 s2) (p:=⟨w.heap.size+1,1,none⟩)
  go_wp2_with fail
  refine bodyPost_ret (v := .tuple #[.slice A4 es.length c4, .agg #[.int .i64 s1, .int .i64 s2], .int .u8 0]) (zil Tryz.results74 rfl rfl (run_loadVar_row (P:=Tryz.prog) _ _ _ _ _ _ _ RG.drew Tryz.underlying30 rfl (by kernel_rfl)) rfl) rfl ⟨A4,c4,rfl,HCP.out,RJ,UF.drew⟩
theorem zoj (a b:Int) (ha:speechB a=true) (hb:speechB b=true) (A:Option Addr) (bs:List Int) (n c:Nat) (hn:bs.length=n) (v i:Int) (hv:Dlt.valid v i=true) (w:World) (hA:IntsAt w w.heap.size .u8 A bs) (hz:Within 0 255 bs) (h8:n≤5000) (h96:a=96→n≤c∧n=84) (hl:(Sb.decS a bs).length=160):Calls Tryz.prog 74 #[.int .u8 a, .int .u8 b, .slice A n c, .agg #[.int .i64 v, .int .i64 i]] w (EncN b (Sb.enc b (v,i) (Sb.decS a bs)).1 (Sb.enc b (v,i) (Sb.decS a bs)).2 w):=by
 subst hn
 obtain ⟨KD,DD,CD,hD⟩:=deN a ha A bs c hz h8 h96 hl
 obtain ⟨KE,DE,CE,hE⟩:=enN b v i hb hv (Sb.decS a bs) (Sb.decS_bd a bs hz) hl
 have ba:0≤a∧a≤255:=by rcases zam.1 ha with e|e|e<;>omega
 have bb:0≤b∧b≤255:=by rcases zam.1 hb with e|e|e<;>omega
 exact zqz a b ha hb ba bb A bs c v i w hA h8 (fun h=>by have:=h96 h;omega) _ _ _ KD DD KE DE CD CE hD hE
theorem zfy (k:Int) (hk:speechB k=true) (A:Option Addr) (bs:List Int) (n c:Nat) (hn:bs.length=n) (w:World) (hA:IntsAt w w.heap.size .u8 A bs) (hz:Within 0 255 bs) (h8:n≤8000) (hc:k=96→n≤c):Calls Tryz.prog 14 #[.int .u8 k, .slice A n c] w (Dec32R (Sb.decS k bs) w):=by
 by_cases h96:k=96
 · exact zcg k hk A bs n c hn w hA hz h8 (hc h96)
 subst hn
 have HA:=Z9 hA
 clear hA hc
 rcases zam.1 hk with rfl|rfl|rfl
 · go_enter Tryz.func14,Tryz.ntmps14
   go_wp2_with fail
   refine (zdq A bs c _ HA.out hz h8).mono ?_
   rintro e w2 ⟨A1,rfl,hI,hb⟩
   go_wp2_with fail
   go_ret
   exact ⟨A1,bs.length,by simp [Sb.decS],hI,hb⟩
 · go_enter Tryz.func14,Tryz.ntmps14
   go_wp2_with fail
   refine (zfg A bs c _ HA.out hz h8).mono ?_
   rintro e w2 ⟨A1,rfl,hI,hb⟩
   go_wp2_with fail
   go_ret
   exact ⟨A1,bs.length,by simp [Sb.decS],hI,hb⟩
 · exact absurd rfl h96
structure SyM (W:World) (S:List Nat) (base gW gc:Nat) (v:VL) (k:Ca):Prop where
 blk:Blk W gW 86 (v.row gc).toArray
 ca:CaM W S base gc k
 gS:gW∈S
 ne:gW≠gc
 pW:ownB k.pA≠some gW
 sent:Owns W base 51 1 v.sA v.ss.length v.sc (v.ss.flatMap TF.row)
 sW:ownB v.sA≠some gW
 sC:ownB v.sA≠some gc
 sP:∀ g,ownB v.sA=some g→ownB k.pA≠some g
 sS:∀ g,ownB v.sA=some g→g∈S
 ints:∀ f∈v.ss,IntsAv W S .i16 f.A f.zs
 due:RowsAv W S 2 duRow v.dA v.ds
 q:QAv W S v.u.A v.u.l
section
variable {W W':World} {S S' T:List Nat} {base gW gc:Nat} {v v':VL} {k k':Ca}
theorem SyM.mv (h:SyM W S base gW gc v k) (m:Mv T S W S' W') (h1:gW∉T) (h2:gc∉T) (h3:∀ g,ownB k.pA=some g→g∉T) (h4:∀ g,ownB v.sA=some g→g∉T):SyM W' S' base gW gc v k :=
 ⟨m.chg.blk h.blk h1,h.ca.mv m h2 h3,m.sub _ h.gS,h.ne,h.pW,m.chg.owns h.sent h4,h.sW,h.sC,h.sP,fun g hg=>m.sub _ (h.sS g hg),fun f hf=>m.ints (h.ints f hf),m.rows h.due,m.q h.q⟩
theorem Mv.wide (m:Mv T S W S' W'):Mv S S W S' W':=⟨m.sub,m.new,m.chg.more m.ts,fun _ h=>h,m.lt⟩
theorem Mv.comp {S'':List Nat} {W'':World} (m:Mv S S W S' W') (m2:Mv S' S' W' S'' W''):Mv S S W S'' W'':=m.trans m2 m.new
theorem SyM.later (h:SyM W S base gW gc v k) (hb:Below W.heap.size W W'):SyM W' S base gW gc v k:=h.mv (Mv.below hb) (by simp) (by simp) (by simp) (by simp)
theorem SyM.add (h:SyM W S base gW gc v k) (hb:Below W.heap.size W W') {g:Nat} (h1:W.heap.size≤g) (h2:g<W'.heap.size):SyM W' (g::S) base gW gc v k:=h.mv (Mv.add hb h1 h2) (by simp) (by simp) (by simp) (by simp)
theorem SyM.setW (h:SyM W S base gW gc v k) (ho:OnlyB gW W W') (hb:Blk W' gW 86 (v'.row gc).toArray) (e1:v'.sA=v.sA:=by rfl) (e2:v'.sc=v.sc:=by rfl) (e3:v'.ss=v.ss:=by rfl) (e4:v'.dA=v.dA:=by rfl) (e5:v'.ds=v.ds:=by rfl) (e6:v'.u=v.u:=by rfl):SyM W' S base gW gc v' k:=by
 have hc:Chg [gW] W W':=Chg.of_only ho (by simp)
 have hs:∀ x ∈ [gW],x∈S:=by intro x hx;simp at hx;rw [hx];exact h.gS
 have m:Mv [gW] S W S W':=Mv.of_chg hc hs
 have n1:∀ g,ownB v.sA=some g→g ∉ [gW]:=fun g hg hx=>by simp at hx;rw [hx] at hg;exact h.sW hg
 refine ⟨hb,h.ca.mv m (by simp;exact fun e=>h.ne e.symm) (fun g hg hx=>by simp at hx;rw [hx] at hg;exact h.pW hg),h.gS,h.ne,h.pW,?_,?_,?_,?_,?_,?_,?_,?_⟩
 · rw [e1,e2,e3];exact hc.owns h.sent n1
 · rw [e1];exact h.sW
 · rw [e1];exact h.sC
 · rw [e1];exact h.sP
 · rw [e1];exact h.sS
 · rw [e3];exact fun f hf=>m.ints (h.ints f hf)
 · rw [e4,e5];exact m.rows h.due
 · rw [e6];exact m.q h.q
theorem SyM.low (h:SyM W S base gW gc v k):gW<W.heap.size:=h.ca.lt gW h.gS
theorem SyM.far {g:Nat} (h:SyM W (g::S) base gW gc v k) (ho:OnlyB g W W') (h1:gW≠g) (h2:gc≠g) (h3:ownB k.pA≠some g) (h4:ownB v.sA≠some g):SyM W' (g::S) base gW gc v k :=
 h.mv (T:=[g]) (Mv.of_chg (Chg.of_only ho (by simp)) (by simp)) (by simp;exact h1) (by simp;exact h2) (fun q hq hx=>by simp at hx;rw [hx] at hq;exact h3 hq) (fun q hq hx=>by simp at hx;rw [hx] at hq;exact h4 hq)
theorem SyM.sendC {n:Nat} (h:SyM W S base gW gc v k) (hca:CaM W' S' base gc k') (m:Mv (gc::(ownB k.pA).toList) S W S' W') (hp:ownB k'.pA=ownB k.pA∨∀ g,ownB k'.pA=some g→W.heap.size≤g):SyM W' S' base gW gc v k':=by
 have hl:=h.ca.lt
 have n0:∀ g,g∈S→ownB k.pA≠some g→ownB k'.pA≠some g:=fun g hg hne e=>by
  rcases hp with e1|e1
  · exact hne (e1 ▸ e)
  · have:=e1 g e;have:=hl g hg;omega
 have n1:gW∉gc::(ownB k.pA).toList:=fun hx=>by
  simp at hx
  rcases hx with e|e
  · exact h.ne e
  · exact h.pW e
 have n2:∀ g,ownB v.sA=some g→g∉gc::(ownB k.pA).toList:=fun g hg hx=>by
  simp at hx
  rcases hx with e|e
  · rw [e] at hg;exact h.sC hg
  · exact h.sP g hg e
 exact ⟨m.chg.blk h.blk n1,hca,m.sub _ h.gS,h.ne,n0 gW h.gS h.pW,m.chg.owns h.sent n2,h.sW,h.sC,fun g hg=>n0 g (h.sS g hg) (h.sP g hg),fun g hg=>m.sub _ (h.sS g hg),fun f hf=>m.ints (h.ints f hf),m.rows h.due,m.q h.q⟩
end
end Go.Proofs.YtbcgnddpkiemoaaGreat
