/- Layer 25: Decode of the reference: the region that makes the packet. -/
import Derived.Test.YtbpcpgmbfnmacaaPkRDecH
namespace Go.Proofs.Ytbpcpgmbfnmacaa
open Go.RowKit
set_option linter.unusedVariables false
set_option linter.unusedSimpArgs false
attribute [local go_sem] setCell_drewN alloc_drewN
def findReg (i : Nat) : Code → Option Code
  | .region j ops d => if i = j then some (.region j ops d) else none
  | .seq a b => match findReg i a with
    | some c => some c
    | none => findReg i b
  | .cond _ a b => match findReg i a with
    | some c => some c
    | none => findReg i b
  | .block _ c => findReg i c
  | .loop c => findReg i c
  | .scope c => findReg i c
  | _ => none
noncomputable def r12code : Code := ((Try.f16.body.bind (findReg 12)).getD .skip)
set_option maxRecDepth 100000 in
set_option maxHeartbeats 6400000 in
theorem r12_wp (b off : Nat) (bs : List Int) (c : Nat) (ex : Bool) (w W : World) (x1 : Int) (mk : Bool) {s1 s2 s3 s4 s5 s6 s7 s8 s11 s12 s13 s14 s15 s16 s17 s18 s19 s20 s21 s22 s23 s24 s25 s26 s27 s28 s29 s30 s31 s32 s33 s34 s35 s36 s37 s38 s39 s40 s41 s42 s43 s44 s45 s46 s47 s48 s49 s50 s51 s52 s53 s76 s77 s78 s79 s80 s81 s82 s83 s84 s85 s86 s87 s88 s89 s90 s91 s92 s93 s94 s95 s96 s97 s98 s99 s100 s101 s102 s103 s104 s105 s106 s107 s108 s109 s110 s111 s112 s113 s114 s115 s116 s117 s118 s119 s120 s121 s122 s123 s124 s125 s126 s127 s128 s129 s130 s131 s132 s133 s134 s135 s136 s137 s138 s139 s140 s141 s142 s143 s144 s145 s146 s147 s148 s149 s150 s151 s152 s153 s154 s155 s156 s157 s158 s159 s160 s161 s162 s163 s164 s165 s166 s167 s168 s169 s170 s171 s172 s173 s174 s175 s176 s177 s178 s179 s180 s181 s182 s183 s184 s185 s186 s187 s188 s189 s190 s191 s192 s193 s194 s195 s196 s197 s198 s199 s200 s201 s202 s203 s204 s205 s206 s207 s208 s209 s210 s211 s212 v10 v54 v55 v56 v57 v58 v59 v60 v61 v62 v63 v64 v65 v66 v67 v68 v69 v70 v71 v72 v73 v74 v75 : Value} {Q : Exit → Act → World → Prop}
    (hA : IntsAt w w.heap.size .u8 (some ⟨b, off, none⟩) bs) (hz : Within 0 255 bs) (hlen : 12 ≤ bs.length) (hlen2 : bs.length ≤ 100000) (hcap : bs.length ≤ c) (hx1 : x1 = bs.getD 1 0) (hmk : mk = decide (128 ≤ x1))
    (hWs : W.heap.size = w.heap.size + 2) (hUW : Bel w W) (hBW : Blk W w.heap.size 27 #[.bool false, .int .u8 0, .int .u16 0, .int .u32 0, .int .u32 0, .slice none 0 0, .bool false, .int .u16 0, .slice none 0 0, .slice none 0 0, .int .i64 0]) (hBN : Blk W (w.heap.size + 1) 27 #[.bool false, .int .u8 0, .int .u16 0, .int .u32 0, .int .u32 0, .slice none 0 0, .bool false, .int .u16 0, .slice none 0 0, .slice none 0 0, .int .i64 0])
    (h : ∀ (wx : World) (u15 u16 u17 u18 u19 u20 u21 u22 u23 u24 u25 u26 u27 u28 u29 u30 u31 u32 u33 u34 u35 u36 u37 u38 u39 u40 u41 u42 u43 u44 u45 u46 u47 u48 u49 u50 u51 u52 u53 u54 u55 u56 u57 u58 u59 u60 u61 u62 u63 u64 u65 u66 u67 u68 u69 u70 u71 u72 u73 u74 u75 : Value), Hid (QState w wx [.bool mk, .int .u8 (x1 % 128), .int .u16 (fld bs 2 2), .int .u32 (fld bs 4 4), .int .u32 (fld bs 8 4), .slice none 0 0, .bool ex, .int .u16 0, .slice none 0 0, .slice none 0 0, .int .i64 0] none [] none []) → Q .normal ⟨#[.slice (some ⟨b, off, none⟩) bs.length c, s1, s2, s3, s4, s5, s6, s7, s8, .bool ex, .pointer (some ⟨w.heap.size + 2, 0, none⟩), s11, s12, s13, s14, u15, u16, u17, u18, u19, u20, u21, u22, u23, u24, u25, u26, u27, u28, u29, u30, u31, u32, u33, u34, u35, u36, u37, u38, u39, u40, u41, u42, u43, u44, u45, u46, u47, u48, u49, u50, u51, u52, u53, u54, u55, u56, u57, u58, u59, u60, u61, u62, u63, u64, u65, u66, u67, u68, u69, u70, u71, u72, u73, u74, u75, s76, s77, s78, s79, s80, s81, s82, s83, s84, s85, s86, s87, s88, s89, s90, s91, s92, s93, s94, s95, s96, s97, s98, s99, s100, s101, s102, s103, s104, s105, s106, s107, s108, s109, s110, s111, s112, s113, s114, s115, s116, s117, s118, s119, s120, s121, s122, s123, s124, s125, s126, s127, s128, s129, s130, s131, s132, s133, s134, s135, s136, s137, s138, s139, s140, s141, s142, s143, s144, s145, s146, s147, s148, s149, s150, s151, s152, s153, s154, s155, s156, s157, s158, s159, s160, s161, s162, s163, s164, s165, s166, s167, s168, s169, s170, s171, s172, s173, s174, s175, s176, s177, s178, s179, s180, s181, s182, s183, s184, s185, s186, s187, s188, s189, s190, s191, s192, s193, s194, s195, s196, s197, s198, s199, s200, s201, s202, s203, s204, s205, s206, s207, s208, s209, s210, s211, s212], []⟩ wx) : Code.wp Try.prog r12code Q ⟨#[.slice (some ⟨b, off, none⟩) bs.length c, s1, s2, s3, s4, s5, s6, s7, s8, .bool ex, v10, s11, s12, s13, s14, s15, s16, s17, s18, s19, s20, s21, s22, s23, s24, s25, s26, s27, s28, s29, s30, s31, s32, s33, s34, s35, s36, s37, s38, s39, s40, s41, s42, s43, s44, s45, s46, s47, s48, s49, s50, s51, s52, s53, v54, v55, v56, v57, v58, v59, v60, v61, v62, v63, v64, v65, v66, v67, v68, v69, v70, v71, v72, v73, v74, v75, s76, s77, s78, s79, s80, s81, s82, s83, s84, s85, s86, s87, s88, s89, s90, s91, s92, s93, s94, s95, s96, s97, s98, s99, s100, s101, s102, s103, s104, s105, s106, s107, s108, s109, s110, s111, s112, s113, s114, s115, s116, s117, s118, s119, s120, s121, s122, s123, s124, s125, s126, s127, s128, s129, s130, s131, s132, s133, s134, s135, s136, s137, s138, s139, s140, s141, s142, s143, s144, s145, s146, s147, s148, s149, s150, s151, s152, s153, s154, s155, s156, s157, s158, s159, s160, s161, s162, s163, s164, s165, s166, s167, s168, s169, s170, s171, s172, s173, s174, s175, s176, s177, s178, s179, s180, s181, s182, s183, s184, s185, s186, s187, s188, s189, s190, s191, s192, s193, s194, s195, s196, s197, s198, s199, s200, s201, s202, s203, s204, s205, s206, s207, s208, s209, s210, s211, s212], []⟩ W := by
  obtain ⟨m1, n1⟩ := hz.at (i := 1) (by omega)
  rw [← hx1] at m1 n1
  have q1 : W.drew.cell? ⟨b, off + 1, none⟩ = some (.int .u8 x1) := by rw [hx1]; exact bytes_at hA (Bel.drew hUW) 1 (by omega)
  have km128 : x1.tmod 128 = x1 % 128 := Int.tmod_eq_emod_of_nonneg m1
  have k128 : decide (128 ≤ x1) = mk := hmk.symm
  have hl13 : (1 : Int) < (bs.length : Int) := by omega
  have hb1 : (bs.length : Int) ≤ 100000 := by omega
  have d2 : (2 : Int) ≤ (c : Int) := by omega
  have d4 : (4 : Int) ≤ (c : Int) := by omega
  have d8 : (8 : Int) ≤ (c : Int) := by omega
  have d12 : (12 : Int) ≤ (c : Int) := by omega
  have n2' : ¬c = 2 := by omega
  have n4' : ¬c = 4 := by omega
  have n8' : ¬c = 8 := by omega
  obtain ⟨u1, u2, u3, u4⟩ := fld_mod2 bs 2 hz (by omega)
  obtain ⟨u5, u6⟩ := fld_mod bs 4 hz (by omega)
  obtain ⟨u7, u8⟩ := fld_mod bs 8 hz (by omega)
  have HA := Lib.hid hA
  have HZ := Lib.hid hz
  have HWS := Lib.hid hWs
  have BW := Lib.hid hBW
  have BN := Lib.hid hBN
  have UW := Lib.hid hUW
  have HH := Lib.hid h
  have hdr : Below w.heap.size w W.drew := UW.out.drew
  have hUV : Below w.heap.size w W := UW.out
  have HL12 := Lib.hid hlen
  clear hA hz hWs hBW hBN hUW hmk hx1 h hlen hcap hlen2
  conv => arg 2; whnf
  go_region_held3 (fun w' => Below w.heap.size w w' ∧ w'.cell? ⟨b, off + 1, none⟩ = some (.int .u8 x1))
    (first | (with_reducible assumption) | ((try go_split_ands); refine ⟨by (with_reducible repeat first | assumption | refine Below.drew ?_ | refine below_new_old ?_ _), ?_⟩; (first | (with_reducible assumption) | exact cell_new_old (by assumption) _)))
    (first
      | ((go_at_call 35; with_reducible refine (rvalue_fld (HA.out.below (by (try go_split_ands); with_reducible assumption)) HZ.out 2 2 _ (by omega) (by have := HL12.out; omega)).mono ?_); rintro e w' ⟨rfl, rfl⟩)
      | ((go_at_call 35; with_reducible refine (rvalue_fld (HA.out.below (by (try go_split_ands); with_reducible assumption)) HZ.out 4 4 _ (by omega) (by have := HL12.out; omega)).mono ?_); rintro e w' ⟨rfl, rfl⟩)
      | ((go_at_call 35; with_reducible refine (rvalue_fld (HA.out.below (by (try go_split_ands); with_reducible assumption)) HZ.out 8 4 _ (by omega) (by have := HL12.out; omega)).mono ?_); rintro e w' ⟨rfl, rfl⟩))
  all_goals
    rw [HWS.out]
    exact HH.out _ _ _ _ _ _ _ _ _ _ _ _ _ _ _ _ _ _ _ _ _ _ _ _ _ _ _ _ _ _ _ _ _ _ _ _ _ _ _ _ _ _ _ _ _ _ _ _ _ _ _ _ _ _ _ _ _ _ _ _ _ _ (Lib.hid (QState.start [.bool mk, .int .u8 (x1 % 128), .int .u16 (fld bs 2 2), .int .u32 (fld bs 4 4), .int .u32 (fld bs 8 4), .slice none 0 0, .bool ex, .int .u16 0, .slice none 0 0, .slice none 0 0, .int .i64 0] HWS.out BW.out BN.out UW.out))
end Go.Proofs.Ytbpcpgmbfnmacaa
