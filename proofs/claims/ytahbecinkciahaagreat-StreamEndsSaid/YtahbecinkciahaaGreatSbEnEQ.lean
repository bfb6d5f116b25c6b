/- Layer 32: StreamEnds, what the listener plays at the end. -/
import Derived.Test.YtahbecinkciahaaGreatSs9Q
import Derived.Test.YtahbecinkciahaaGreatSbEndPQ
import Derived.Test.YtahbecinkciahaaGreatSbLives
import Derived.Test.YtahbecinkciahaaGreatSbLivRQ
set_option linter.unusedVariables false
set_option linter.unusedSimpArgs false
set_option maxRecDepth 100000
set_option maxHeartbeats 12800000
namespace Go.Proofs.YtahbecinkciahaaGreat
attribute [local go_sem ↓] zab zac
attribute [local go_sem] zaa zad
open Go.RowKit
noncomputable def enE_code : Code := ((Tryz.f6.body.bind (fromReg 43)).getD .skip)
theorem zuo {w W : World} {g5 ga gu gc M : Nat} {k ls mo trip : Int} {p u : Sb.Pt} {A1 : Option Addr} {c1 : Nat} {A2 : Option Addr} {n2 c2 : Nat} {l2 : List TW} {cv ci : Int} {WA : Option Addr} {wc : Nat} {wl : List TS} {GA : Option Addr} {gk : Nat} {gl : List TY} {i sq : Nat} {hi : Int} {f pr : Nat} {AL : Option Addr} {nL cL : Nat} (X : EV w W g5 ga gu gc M ls mo p u A1 c1 A2 n2 c2 l2 cv ci WA wc wl GA gk gl) (E : Sb.EP k ls mo trip p u (i) (sq) (hi) 0 (pr) cv ci (wl.map TS.s) (gl.map TY.s)) (i40 : i ≤ 40) (t0 : 0 ≤ trip) (t1 : trip ≤ 65535) (hc : Jb.cfg ls mo) (a : Act) (ha : Fr 325 (EF k ls trip AL nL cL g5 ga gu gc WA wl.length wc GA gl.length gk (pr : Int) (i : Int)) a) : firstWp Tryz.prog enE_code (bodyPost Tryz.prog Tryz.f6 (fun e w' => e = .returned (.bool true) ∧ Below w.heap.size w w')) a W := by
 obtain ⟨s, rfl, hs⟩ := ha
 rw [r325]
 obtain ⟨e2, e3, e5, e9, e10, e12, e13, e14, e15, e16, e17, e18, e19, _⟩ := hs
 rw [e2, e3, e5, e9, e10, e12, e13, e14, e15, e16, e17, e18, e19]
 obtain ⟨d1, d2, d3, d4, d5, d6⟩ := E.done i40 hc t0 t1
 have hN : 800 + trip + 2000 = 2800 + trip := by omega
 have hn2 : n2 ≤ 80 := by have h9 := congrArg List.length X.hq; rw [List.length_map, X.hn] at h9; omega
 have hwt : IntKind.i64.wrap trip = trip := by simp only [IntKind.wrap, IntKind.bits, IntKind.signed]; simp; omega
 have kP := fun (V : World) hV => znn u E.li.wf A2 l2 n2 c2 (PA u A2 n2 c2) rfl V X.hq X.hn (by omega) X.hc X.hm hV (fun a ha => zrp E.li.jt.sm.ok a.w (by rw [← X.hq]; exact List.mem_map_of_mem ha)) (800 + trip + 2000) (by rw [hN]; exact d1) E.ok
 obtain ⟨RU, hRU⟩ : ∃ R, R = Sb.run u (2800 + trip) := ⟨_, rfl⟩
 have hRU2 : Sb.run u (800 + trip + 2000) = RU := by rw [hN, hRU]
 have hnk0 : ∀ d ∈ RU.2, d.ks = [] := by rw [hRU]; exact fun d hd => zcg _ _ d hd
 unfold PlayV at kP
 rw [hRU2] at kP
 rw [← hRU] at d2 d3 d4 d6
 replace kP := H9 kP
 have D2 := H9 d2
 have D3 := H9 d3
 have D6 := H9 d6
 have HNK := H9 hnk0
 have hES := X.m.lt
 clear hRU hRU2 hN d1 d2 d3 d6 hnk0
 refine zct ?_
 intro _ _
 go_wp2_with (first | (refine zae rfl 48 (.tmp 12) rfl (gu) 0 rfl 48 (PL u A2 n2 c2) X.bu 48 _ Tryz.underlying48 zag (show 0 + 48 ≤ 48 by decide) (PA u A2 n2 c2) (by rfl) rfl ?_) | fail)
 refine (kP.out _ X.m.q.wts).mono ?_
 rintro e w2 ⟨A', n', c', l', SA, sc, m, ls', base, rfl, hq1, hn, hc1, hc2, hW, hls, hbs, hso, hb2⟩
 obtain rfl : ls'.length = m := hso.len
 have HSK := (hso.sks fun a ha => HNK.out a.s (by rw [← hls]; exact List.mem_map_of_mem ha)).less hbs
 replace X := X.later hb2
 have hS9 := hb2.size
 have HLS := H9 hls
 clear kP hb2 hW hq1 hn hc1 hc2 hso hls HNK
 have hb9 := (Below.refl w2.heap.size w2).alloc (Nat.le_refl _) (Obj.cells (PA Sb.Pt.zero none 0 0) 48)
 have BZ : Blk (w2.alloc (Obj.cells (PA Sb.Pt.zero none 0 0) 48)) w2.heap.size 48 (PL Sb.Pt.zero none 0 0).toArray := Blk.new _ _ _
 go_upto_region 44 with (first | (refine zaf rfl 48 (.tmp 38) (.tmp 223) rfl (w2.heap.size) 0 rfl 48 (PL Sb.Pt.zero none 0 0) BZ (PL RU.1 A' n' c') rfl zag (show 0 + 48 ≤ 48 by decide) rfl (PL RU.1 A' n' c') rfl ?_; intro WB HB3 OB) | fail)
 have hb8 := OB.below hb9 (by simp) (Nat.le_refl _)
 replace X := X.later hb8
 replace HSK := HSK.later hb8
 clear hb8 hb9 OB BZ HB3
 have hl1 : (gl ++ ls'.map TS.ty).map TY.s = gl.map TY.s ++ RU.2 := by rw [List.map_append, ty_s, HLS.out]
 have hl2 : (ls'.map TS.ty).length = ls'.length := by simp
 have hl3 : gl.length + ls'.length ≤ 80 := by have h9 := congrArg List.length hl1; rw [List.length_map] at h9; simp only [List.length_append] at h9 d4; rw [List.length_map] at h9; simp at h9 d4; omega
 have HL1 := H9 hl1
 clear hl1
 go_upto_region 47 with (at_builtin; go_loud (refine zbu rfl _ _ 54 rfl M 86 3 56 _ Tryz.underlying54 zcr rfl (by decide) GA gl.length gk _ rfl X.m.gown WB.heap.size TY.row TY.rowlen TY.one SA ls'.length sc (ls'.map TS.ty) rfl HSK.rows hl2 (by rw [hl2]; unfold maxLen; omega) (by rw [hl2]; omega) X.lt (gl.length + ls'.length) (by rw [hl2]) ?_); intro A9 c9 v1 qo hgr hat)
 have X2 := X.got (gl' := ls'.map TS.ty) hgr (by rw [hl2]; exact qo) hat (fun a ha => IntsAv.of_new (HSK.pay a ha) hES) (fun a ha => RowsAv.of_new (HSK.keys a ha) hES)
 obtain ⟨G, hG⟩ : ∃ G, G = gl ++ ls'.map TS.ty := ⟨_, rfl⟩
 have hGl : gl.length + ls'.length = G.length := by rw [hG]; simp
 rw [← hG] at X2 HL1
 rw [hGl]
 rw [hGl] at hl3
 clear hgr qo hat HSK X hG hGl d4 hl2 HLS
 refine zbp (by assumption) ?_
 have hprl := E.prl
 have hwle := E.wle
 rw [List.length_map] at hwle
 refine zum (V := v1) ⟨Owns.rows X2.m.gown rfl TY.rowlen, Owns.rows X2.m.wown rfl (fun _ => rfl), fun a ha => (X2.m.gpay a ha).1, fun a ha => (X2.m.gkey a ha).1, fun a ha => (X2.m.wpay a ha).1⟩ X2.be (by rw [HL1.out]; exact D2.out) (pr := pr) (by rw [HL1.out]; exact D3.out) hl3 (by rw [HL1.out]; exact D6.out) (by omega) (by omega) _ (Fr.mk rfl ⟨rfl, rfl, rfl, rfl, rfl, trivial⟩)
theorem wfu8 {z : Int} (h : (Lit.int .u8 z).wf = true) : 0 ≤ z ∧ z ≤ 255 := by simp [Lit.wf, IntKind.min, IntKind.max, IntKind.signed, IntKind.bits] at h; omega
theorem zup {z : Int} (h : (Lit.int .u16 z).wf = true) : 0 ≤ z ∧ z ≤ 65535 := by simp [Lit.wf, IntKind.min, IntKind.max, IntKind.signed, IntKind.bits] at h; omega
theorem zuq {w : World} {n : Nat} {A : Option Addr} {l : List TMv} (h : RowsAt w n 5 TMv.row A l) {k : Nat} {a : TMv} (ha : l[k]? = some a) : ∃ b off, A = some ⟨b, off, none⟩ ∧ b < n ∧ w.cell? ⟨b, off + k * 5, none⟩ = some (.int .u16 a.loud) ∧ w.cell? ⟨b, off + k * 5 + 1, none⟩ = some (.int .u8 a.key) ∧ w.cell? ⟨b, off + k * 5 + 2, none⟩ = some (.int .u8 a.code) ∧ w.cell? ⟨b, off + k * 5 + 3, none⟩ = some (.int .u8 a.late) ∧ w.cell? ⟨b, off + k * 5 + 4, none⟩ = some (.bool a.lost) := by
 obtain ⟨b, off, rfl, hb, hc⟩ := h (by have := (List.getElem?_eq_some_iff.1 ha).1; omega)
 exact ⟨b, off, rfl, hb, hc k a ha 0 _ rfl, hc k a ha 1 _ rfl, hc k a ha 2 _ rfl, hc k a ha 3 _ rfl, hc k a ha 4 _ rfl⟩
noncomputable def enS_code : Code := ((Tryz.f6.body.bind (fromReg 2)).getD .skip)
theorem zpk {w W : World} {g5 : Nat} {k ls mo trip : Int} {bL oL nL cL : Nat} (AL : Option Addr) (L : List TMv) (hsp : speechB k = true) (t0 : 0 ≤ trip) (t1 : trip ≤ 65535) (hRL : RowsAt w w.heap.size 5 TMv.row AL L) (hok : ∀ x ∈ L, x.ok) (B5 : Blk W g5 37 #[.int .i64 ls, .int .i64 mo]) (U : Bel w W) (hg5 : w.heap.size ≤ g5) (a : Act) (ha : Fr 325 [(2, .slice AL L.length cL), (3, .int .u16 trip), (5, .pointer (some ⟨g5, 0, none⟩)), (9, .int .u8 k)] a) : firstWp Tryz.prog enS_code (bodyPost Tryz.prog Tryz.f6 (fun e w' => e = .returned (.bool true) ∧ Below w.heap.size w w')) a W := by
 obtain ⟨s, rfl, hs⟩ := ha
 rw [r325]
 obtain ⟨e2, e3, e5, e9, _⟩ := hs
 rw [e2, e3, e5, e9]
 have hkb := Sb.sp_bd hsp
 have kN := H9 fun W => zou k 7 ls mo hkb.1 hkb.2 W
 unfold NewP at kN
 have c0 := B5.at 0 _ rfl
 have c1 := B5.at 1 _ rfl
 refine zct ?_
 intro _ _
 go_wp2_with fail
 refine (kN.out _).mono ?_
 rintro e w2 ⟨rfl, hb1⟩
 replace U := U.later hb1
 replace B5 := B5.later hb1
 clear hb1 c0 c1 kN
 obtain ⟨p0, hp0⟩ : ∃ p, p = (Sb.new k 7 ls mo).1 := ⟨_, rfl⟩
 obtain ⟨er, her⟩ : ∃ e, e = (Sb.new k 7 ls mo).2 := ⟨_, rfl⟩
 rw [← hp0, ← her]
 have HP0 := H9 hp0
 have HER := H9 her
 clear hp0 her
 have hg5w := B5.lt
 have BZ : Blk (w2.alloc (Obj.cells (PA Sb.Pt.zero none 0 0) 48)) w2.heap.size 48 (PL Sb.Pt.zero none 0 0).toArray := Blk.new _ _ _
 go_upto_region 3 with (first | (refine zaf rfl 48 (.tmp 10) (.tmp 52) rfl (w2.heap.size) 0 rfl 48 (PL Sb.Pt.zero none 0 0) BZ (PL p0 none 0 0) rfl zag (show 0 + 48 ≤ 48 by decide) rfl (PL p0 none 0 0) rfl ?_; intro WA BA OA) | fail)
 have hb8 := OA.below ((Below.refl _ w2).alloc (Nat.le_refl _) (Obj.cells (PA Sb.Pt.zero none 0 0) 48)) (by simp) (Nat.le_refl _)
 replace U := U.later hb8
 replace B5 := B5.later hb8
 clear hb8 OA BZ
 obtain ⟨ga, hga⟩ : ∃ g, g = w2.heap.size := ⟨_, rfl⟩
 rw [← hga] at BA hg5w ⊢
 clear hga
 by_cases hcv : Jb.cfg ls mo
 rotate_left
 · have he : ¬er = 0 := by rw [HER.out]; exact (Sb.new_bad (fun h => hcv h.2)).2
   clear hcv
   go_wp2_with fail
   refine (zij _).mono ?_
   rintro e wv ⟨rfl, hbv⟩
   have UF := U.later hbv
   go_wp2_with fail
   go_ret
   exact ⟨rfl, UF⟩
 have hE := Sb.EP.start (trip := trip) hsp hcv t0
 obtain ⟨_, he0⟩ := Sb.SpkI.start hsp hcv
 rw [← HP0.out] at hE
 obtain rfl : er = 0 := HER.out.trans he0
 have HE := H9 hE
 clear hE he0 HER HP0
 have hgaW := BA.lt
 have BZ : Blk (WA.alloc (Obj.cells (PA Sb.Pt.zero none 0 0) 48)) WA.heap.size 48 (PL Sb.Pt.zero none 0 0).toArray := Blk.new _ _ _
 go_upto_region 6 with (first | (refine zae rfl 48 (.tmp 10) rfl (ga) 0 rfl 48 (PL p0 none 0 0) BA 48 _ Tryz.underlying48 zag (show 0 + 48 ≤ 48 by decide) (PA p0 none 0 0) (by rfl) rfl ?_) | (refine zaf rfl 48 (.tmp 12) (.tmp 57) rfl (WA.heap.size) 0 rfl 48 (PL Sb.Pt.zero none 0 0) BZ (PL p0 none 0 0) rfl zag (show 0 + 48 ≤ 48 by decide) rfl (PL p0 none 0 0) rfl ?_; intro WB BB OB) | fail)
 have hb9 := (Below.refl _ WA).alloc (Nat.le_refl _) (Obj.cells (PA Sb.Pt.zero none 0 0) 48)
 replace U := OB.bel (U.later hb9) (Nat.le_trans U.size (Nat.le_refl _))
 replace B5 := OB.blk (B5.later hb9) (by omega)
 replace BA := OB.blk (BA.later hb9) (by omega)
 clear hb9 OB BZ
 obtain ⟨gu, hgu⟩ : ∃ g, g = WA.heap.size := ⟨_, rfl⟩
 rw [← hgu] at BB hgaW ⊢
 clear hgu
 have hguW := BB.lt
 go_upto_region 9 with fail
 have hb7 := (Below.refl _ WB).alloc (Nat.le_refl _) (.cells #[.int .i64 0, .int .i64 0] 24)
 replace U := U.later hb7
 replace B5 := B5.later hb7
 replace BA := BA.later hb7
 replace BB := BB.later hb7
 have BC := Blk.new WB 24 #[.int .i64 0, .int .i64 0]
 have hgcV := BC.lt
 clear hb7
 obtain ⟨gc, hgc⟩ : ∃ g, g = WB.heap.size := ⟨_, rfl⟩
 obtain ⟨V, hV⟩ : ∃ V, V = WB.alloc (.cells #[.int .i64 0, .int .i64 0] 24) := ⟨_, rfl⟩
 rw [← hgc, ← hV] at BC hgcV
 rw [← hV] at U B5 BA BB
 change Code.wp _ _ _ _ (WB.alloc (.cells #[.int .i64 0, .int .i64 0] 24))
 rw [← hV, ← hgc]
 rw [← hgc] at hguW
 clear hV hgc
 have X0 : EV w V g5 ga gu gc V.heap.size ls mo p0 p0 none 0 none 0 0 [] 0 0 none 0 [] none 0 [] := ⟨EM.start (by intro x hx; simp at hx; omega) (Nat.le_refl _), BA, BB, BC, B5, U, hg5, hg5w, hgaW, hguW, hgcV, Nat.zero_le _, HE.out.sp.jq.symm, rfl, Nat.le_refl _, Nat.zero_le _⟩
 obtain ⟨M, hM⟩ : ∃ M, M = V.heap.size := ⟨_, rfl⟩
 rw [← hM] at X0
 clear hM BA BB BC B5 U hg5w hgaW hguW hgcV
 have HRL := H9 hRL
 have HOK := H9 hok
 clear hRL hok
 go_wp2_with fail
 refine wp_loop_rounds (40 + 1) (zep (fun n a wr => ∃ (i sq pr : Nat) (hi : Int) (p u : Sb.Pt) (A1 : Option Addr) (c1 : Nat) (A2 : Option Addr) (n2 c2 : Nat) (l2 : List TW) (cv ci : Int) (WA : Option Addr) (wc : Nat) (wl : List TS) (GA : Option Addr) (gk : Nat) (gl : List TY), n + i = 40 ∧ i ≤ L.length ∧ EV w wr g5 ga gu gc M ls mo p u A1 c1 A2 n2 c2 l2 cv ci WA wc wl GA gk gl ∧ Sb.EP k ls mo trip p u (i) (sq) (hi) 0 (pr) cv ci (wl.map TS.s) (gl.map TY.s) ∧ Fr 325 (EF k ls trip AL L.length cL g5 ga gu gc WA wl.length wc GA gl.length gk (pr : Int) (i : Int)) a) (fun n a wr hJ => ?_) 40 _ _ ⟨0, 0, 0, 0, p0, p0, none, 0, none, 0, 0, [], 0, 0, none, 0, [], none, 0, [], rfl, Nat.zero_le _, X0, HE.out, Fr.mk rfl ⟨rfl, rfl, rfl, rfl, rfl, rfl, rfl, rfl, rfl, rfl, rfl, rfl, rfl, trivial⟩⟩)
 clear X0 HE
 obtain ⟨i, sq, pr, hi, p, u, A1, c1, A2, n2, c2, l2, cv, ci, WA, wc, wl, GA, gk, gl, hn, hiL, X, E, ha⟩ := hJ
 obtain ⟨s, rfl, hs⟩ := ha
 rw [r325]
 obtain ⟨e2, e3, e5, e9, e10, e12, e13, e14, e15, e16, e17, e18, e19, _⟩ := hs
 rw [e2, e19]
 have hi0 : (0 : Int) ≤ (i : Int) := by omega
 by_cases hk : i < L.length ∧ i < 40
 rotate_left
 · have hk3 : ¬(i : Int) < (L.length : Int) ∨ ((i : Int) < (L.length : Int) ∧ ¬(i : Int) < 40) := by omega
   rcases hk3 with hk3 | ⟨hk3, hk4⟩
   all_goals
    go_upto_region 43 with fail
    refine zbp (by assumption) ?_
    exact zuo (f := 0) X E (by omega) t0 t1 hcv _ (Fr.mk rfl ⟨rfl, rfl, rfl, rfl, rfl, rfl, rfl, rfl, rfl, rfl, rfl, rfl, rfl, trivial⟩)
 obtain ⟨hk1, hk2⟩ := hk
 obtain ⟨mv, hmv⟩ : ∃ x, L[i]? = some x := ⟨_, List.getElem?_eq_getElem hk1⟩
 obtain ⟨bL, oL, rfl, hLb, y0, y1, y2, _, _⟩ := zuq HRL.out hmv
 obtain ⟨w0, w1, w2, _⟩ := HOK.out mv (List.mem_of_getElem? hmv)
 have hq0 := zup w0
 have hq1 := wfu8 w1
 have hq2 := wfu8 w2
 have hi1 : (i : Int) < (L.length : Int) := by omega
 have hi2 : (i : Int) < 40 := by omega
 clear hmv HOK w0 w1 w2
 go_upto_region 13 with fail
 refine zcw (by assumption) (by assumption) ?_
 refine zuj (f := 0) X E hk1 hk2 t0 t1 hcv hLb mv.loud hq0.1 hq0.2 y0 mv.key mv.code hq1.1 hq2.1 y1 y2 (fun _ _ _ _ _ h => h) (fun W a p u A1 c1 A2 n2 c2 l2 cv ci WA wc wl GA gk gl sq hi pr ex hex X E ha => ?_) _ (Fr.mk rfl ⟨rfl, rfl, rfl, rfl, rfl, rfl, rfl, rfl, rfl, rfl, rfl, rfl, rfl, trivial⟩)
 obtain ⟨s, rfl, hs⟩ := ha
 rw [r325]
 obtain ⟨e2, e3, e5, e9, e10, e12, e13, e14, e15, e16, e17, e18, e19, _⟩ := hs
 rw [e2, e3, e5, e9, e10, e12, e13, e14, e15, e16, e17, e18, e19]
 rcases hex with rfl | rfl
 all_goals
  go_wp2_with fail
  exact ⟨n - 1, by omega, i + 1, sq, pr, hi, p, u, A1, c1, A2, n2, c2, l2, cv, ci, WA, wc, wl, GA, gk, gl, by omega, by omega, X, E, Fr.mk rfl ⟨rfl, rfl, rfl, rfl, rfl, rfl, rfl, rfl, rfl, rfl, rfl, rfl, by push_cast; rfl, trivial⟩⟩
theorem zpl (w : World) (wh : Int) (w0 : (Lit.int .u8 wh).wf = true) (cf : TCf) (AL : Option Addr) (L : List TMv) (cL : Nat) (hcL : L.length ≤ cL) (hmL : cL ≤ maxLen) (hRL : RowsAt w w.heap.size 5 TMv.row AL L) (hok : ∀ x ∈ L, x.ok) (trip : Int) (w3 : (Lit.int .u16 trip).wf = true) : Calls Tryz.prog 6 #[.int .u8 wh, .agg cf.row.toArray, .slice AL L.length cL, .int .u16 trip] w fun e w' => e = .returned (.bool true) ∧ Below w.heap.size w w' := by
 obtain ⟨ls, mo⟩ := cf
 change Calls Tryz.prog 6 #[.int .u8 wh, .agg #[.int .i64 ls, .int .i64 mo], .slice AL L.length cL, .int .u16 trip] w _
 obtain ⟨k0, k1⟩ := wfu8 w0
 obtain ⟨t0, t1⟩ := zup w3
 have B5 := Blk.new w 37 #[.int .i64 ls, .int .i64 mo]
 have U0 := (Bel.refl w).push (.cells #[.int .i64 ls, .int .i64 mo] 37)
 have h3 : wh % 3 = 0 ∨ wh % 3 = 1 ∨ wh % 3 = 2 := by omega
 clear w0 w3
 go_enter Tryz.func6, Tryz.ntmps6
 have i0 : ∀ W : World, (Instr.index 77 (.agg #[.int .u8 0, .int .u8 8, .int .u8 96]) (.int .u8 0)).run Tryz.prog W = .ok (.int .u8 0) W := fun W => by kernel_rfl
 have i1 : ∀ W : World, (Instr.index 77 (.agg #[.int .u8 0, .int .u8 8, .int .u8 96]) (.int .u8 1)).run Tryz.prog W = .ok (.int .u8 8) W := fun W => by kernel_rfl
 have i2 : ∀ W : World, (Instr.index 77 (.agg #[.int .u8 0, .int .u8 8, .int .u8 96]) (.int .u8 2)).run Tryz.prog W = .ok (.int .u8 96) W := fun W => by kernel_rfl
 go_upto_region 1 with fail
 rcases h3 with h3 | h3 | h3
 all_goals
  go_upto_region 2 with fail
  refine zbp (by assumption) ?_
 · exact zpk (bL := 0) (oL := 0) (nL := 0) (k := 0) (trip := trip) (cL := cL) AL L rfl t0 t1 hRL hok B5 U0 (Nat.le_refl _) _ (Fr.mk rfl ⟨rfl, rfl, rfl, rfl, trivial⟩)
 · exact zpk (bL := 0) (oL := 0) (nL := 0) (k := 8) (trip := trip) (cL := cL) AL L rfl t0 t1 hRL hok B5 U0 (Nat.le_refl _) _ (Fr.mk rfl ⟨rfl, rfl, rfl, rfl, trivial⟩)
 · exact zpk (bL := 0) (oL := 0) (nL := 0) (k := 96) (trip := trip) (cL := cL) AL L rfl t0 t1 hRL hok B5 U0 (Nat.le_refl _) _ (Fr.mk rfl ⟨rfl, rfl, rfl, rfl, trivial⟩)
end Go.Proofs.YtahbecinkciahaaGreat
