/- Layer 32, StreamKnown in plain words: a speaker with law 1 behind i quiet frames; no program in sight. -/
import Derived.Test.YtahbecinkciahaaJtPlainQ
import Derived.Test.YtahbecinkciahaaRepArrQ
import Derived.Test.YtahbecinkciahaaJtPutG1Q
import Derived.Deep.QuietTactic
import Derived.BigQuiet
import Derived.Test.YtahbecinkciahaaSbTimeQ
import Derived.Test.YtahbecinkciahaaDelUnpackQ
import Derived.RegionTactic
import Derived.Test.YtahbecinkciahaaSbSendAQ
import Derived.Test.YtahbecinkciahaaSbSamSQ
namespace Go.Proofs.Ytahbecinkciahaa.Sb
open Go.RowKit
set_option linter.unusedVariables false
/-- a port with law 1 behind i quiet frames -/
structure KnI (p : Pt) (i : Nat) : Prop where
  codec : p.codec = 0
  below : p.below = min (i : Int) 10
  cv : p.cv = 0
  ci : p.ci = 0
  tn : p.tn = Ev.Snd.zero
  jt : p.jt = (Jb.new 40 200).1
  tk : p.tk = Pk.Tr.zero
  ht : p.ht = 0
  src : 0 ≤ p.src ∧ p.src ≤ 4294967295
  seq : 0 ≤ p.seq ∧ p.seq ≤ 65535
  time : 0 ≤ p.time ∧ p.time ≤ 4294967295
  seed : 0 ≤ p.seed ∧ p.seed ≤ 4294967295
  pk : 0 ≤ p.pk ∧ p.pk ≤ 4294967295
  oc : 0 ≤ p.oc ∧ p.oc ≤ 4294967295
theorem KnI.valid {p : Pt} {i : Nat} (h : KnI p i) : p.valid = true := by
  unfold Pt.valid
  have hn : p.near := by unfold Pt.near; rw [h.tk, h.ht]; decide
  rw [h.codec, h.cv, h.ci, h.jt, h.tn, jb40.1, tn0, decide_eq_true hn]
  decide
theorem KnI.wf {p : Pt} {i : Nat} (h : KnI p i) : p.wf := by
  constructor
  · rw [h.codec]; omega
  · exact h.src
  · exact h.seq
  · exact h.time
  · rw [h.below]; omega
  · rw [h.tn]; decide
  · rw [h.tn]; decide
  · rw [h.tn]; decide
  · exact h.seed
  · exact h.pk
  · exact h.oc
theorem KnI.q {p : Pt} {i : Nat} (h : KnI p i) : p.jt.q = [] := by rw [h.jt]; exact jb40.2.1
theorem KnI.start : KnI lv0 0 := ⟨rfl, by decide, rfl, rfl, rfl, rfl, rfl, rfl, by decide, by decide, by decide, by decide, by decide, by decide⟩
theorem lev0 : Ev.lev (flatL 0) = 127 := by decide +kernel
theorem quiet0 (i : Nat) : Ev.quiet (min (i : Int) 10) (flatL 0) = min ((i : Int) + 1) 10 := by
  unfold Ev.quiet
  rw [lev0, if_neg (by decide)]
  omega
theorem mu0 : (flatL 0).map Cmp.muZ = flatL 255 := by decide +kernel
/-- a loud frame -/
theorem KnI.loud {p : Pt} {i : Nat} (h : KnI p i) : KnI (send0 p (flatL 1000)).1 0 ∧ (send0 p (flatL 1000)).2 = [⟨p.mrk, 0, p.seq, p.time, p.src, flatL 206⟩] ∧ (send0 p (flatL 1000)).1.mrk = false ∧ (send0 p (flatL 1000)).1.seq = (p.seq + 1) % 65536 ∧ (send0 p (flatL 1000)).1.time = (p.time + 160) % 4294967296 := by
  have ht : ¬(p.tn.on = true ∨ p.tn.ends ≠ 0) := by rw [h.tn]; decide
  have e : send0 p (flatL 1000) = ({ (emit { p with below := 0 } p.codec p.time p.mrk (flatL 206)).1 with mrk := false, cv := p.cv, ci := p.ci, time := later p.time }, [(emit { p with below := 0 } p.codec p.time p.mrk (flatL 206)).2]) := by
    unfold send0
    rw [if_neg ht, quiet1000, if_neg (by decide)]
    unfold enc
    rw [if_pos h.codec, mu1000]
  rw [e]
  refine ⟨⟨h.codec, rfl, h.cv, h.ci, h.tn, h.jt, h.tk, h.ht, h.src, ?_, ?_, h.seed, ?_, ?_⟩, ?_, rfl, rfl, rfl⟩
  · show 0 ≤ (p.seq + 1) % 65536 ∧ (p.seq + 1) % 65536 ≤ 65535; omega
  · show 0 ≤ (p.time + 160) % 4294967296 ∧ (p.time + 160) % 4294967296 ≤ 4294967295; omega
  · show 0 ≤ (p.pk + 1) % 4294967296 ∧ (p.pk + 1) % 4294967296 ≤ 4294967295; omega
  · show 0 ≤ (p.oc + _) % 4294967296 ∧ (p.oc + _) % 4294967296 ≤ 4294967295; omega
  · show [(⟨p.mrk, p.codec, p.seq, p.time, p.src, flatL 206⟩ : Pkt)] = _
    rw [h.codec]
/-- a quiet frame -/
theorem KnI.step {p : Pt} {i : Nat} (h : KnI p i) : KnI (send0 p (flatL 0)).1 (i + 1) ∧ (i < 9 → ∃ k, (send0 p (flatL 0)).2 = [k] ∧ k.ty = 0 ∧ k.pl = flatL 255) ∧ (i = 9 → ∃ k, (send0 p (flatL 0)).2 = [k] ∧ k.ty = 13 ∧ k.pl = [127]) ∧ (10 ≤ i → (send0 p (flatL 0)).2 = []) := by
  have ht : ¬(p.tn.on = true ∨ p.tn.ends ≠ 0) := by rw [h.tn]; decide
  have hb := h.below
  have hq : Ev.quiet p.below (flatL 0) = min ((i : Int) + 1) 10 := by rw [h.below, quiet0]
  have m1 : 0 ≤ (p.seq + 1) % 65536 ∧ (p.seq + 1) % 65536 ≤ 65535 := by omega
  have m2 : 0 ≤ (p.time + 160) % 4294967296 ∧ (p.time + 160) % 4294967296 ≤ 4294967295 := by omega
  have m3 : 0 ≤ (p.pk + 1) % 4294967296 ∧ (p.pk + 1) % 4294967296 ≤ 4294967295 := by omega
  unfold send0
  rw [if_neg ht, hq]
  by_cases h9 : i < 9
  · rw [if_neg (by omega)]
    refine ⟨⟨h.codec, ?_, ?_, ?_, h.tn, h.jt, h.tk, h.ht, h.src, m1, m2, h.seed, m3, ?_⟩, fun _ => ⟨_, rfl, h.codec, ?_⟩, fun e => by omega, fun e => by omega⟩
    · show min ((i : Int) + 1) 10 = _; omega
    · show (enc p.codec (p.cv, p.ci) (flatL 0)).2.1 = 0
      unfold enc; rw [if_pos h.codec]; exact h.cv
    · show (enc p.codec (p.cv, p.ci) (flatL 0)).2.2 = 0
      unfold enc; rw [if_pos h.codec]; exact h.ci
    · show 0 ≤ (p.oc + _) % 4294967296 ∧ (p.oc + _) % 4294967296 ≤ 4294967295; omega
    · show (enc p.codec (p.cv, p.ci) (flatL 0)).1 = _
      unfold enc; rw [if_pos h.codec]; exact mu0
  · rw [if_pos (by omega)]
    by_cases h10 : i = 9
    · rw [if_pos (by omega)]
      refine ⟨⟨h.codec, ?_, h.cv, h.ci, h.tn, h.jt, h.tk, h.ht, h.src, m1, m2, h.seed, m3, ?_⟩, fun e => by omega, fun _ => ⟨_, rfl, rfl, ?_⟩, fun e => by omega⟩
      · show min ((i : Int) + 1) 10 = _; omega
      · show 0 ≤ (p.oc + _) % 4294967296 ∧ (p.oc + _) % 4294967296 ≤ 4294967295; omega
      · show [Ev.lev (flatL 0)] = _
        rw [lev0]
    · rw [if_neg (by omega)]
      refine ⟨⟨h.codec, ?_, h.cv, h.ci, h.tn, h.jt, h.tk, h.ht, h.src, h.seq, m2, h.seed, h.pk, h.oc⟩, fun e => by omega, fun e => by omega, fun _ => rfl⟩
      show min ((i : Int) + 1) 10 = _; omega
end Go.Proofs.Ytahbecinkciahaa.Sb
/- Layer 32: StreamKnown, the regions that call Send. -/
namespace Go.Proofs.Ytahbecinkciahaa
open Go.RowKit
set_option linter.unusedVariables false
set_option linter.unusedSimpArgs false
attribute [local go_sem ↓] run_min_plain run_max_plain
attribute [local go_sem] setCell_drewN alloc_drewN
theorem step_of_yif {P : Program} {ops : Array Oper} {o : Oper} {a : Act} {w : World} {S : World → Prop} {v : Value} {K : Act → World → Prop} {Q : Exit → Act → World → Prop} {E : Prop} (hgd : o.guard = none) (hy : YieldsIf P ops S o v a) (hS : S w) (h : K (a.put o.dst v) w) : if Region.wanted o (yielded ops a.tmps) = true then Oper.wp P o a w K Q else E := by
  have hw : Region.wanted o (yielded ops a.tmps) = true := by simp [Region.wanted, hgd]
  rw [if_pos hw]
  rcases hy with ⟨_, hv⟩ | ⟨hn, _⟩
  · unfold Oper.wp
    rw [hv w hS]
    unfold Oper.upon
    exact h
  · rw [hw] at hn; cases hn
noncomputable def kn3_code : Code := ((Try.f5.body.bind (findRegS 3)).getD .skip)
set_option maxRecDepth 100000 in
set_option maxHeartbeats 12800000 in
theorem kn3_wp {s0 s1 s2 s4 s5 s6 s7 s8 s9 s10 s11 s12 s13 s14 s15 s16 s17 s18 s19 s20 s21 s22 s23 s24 s25 s26 s27 s28 s29 s30 s31 s32 s33 s34 s35 s36 s37 s38 s39 s40 s41 s42 s43 s44 s45 s46 s47 s48 s49 s50 s51 s52 s53 s54 s55 s56 s57 s58 s59 s60 s61 s62 s63 s64 s65 s66 s67 s68 s69 s70 s71 s72 s73 s74 s75 s76 s77 s78 s79 s80 s81 s82 s83 s84 s85 s86 s87 s88 s89 s90 s91 s92 s93 s94 s95 s96 s97 s98 s99 s100 s101 s102 s103 s104 s105 s106 s107 s108 s109 s110 s111 s112 s113 s114 s115 s116 s117 s118 s119 s120 s121 s122 s123 s124 s125 s126 s127 s128 s129 s130 s131 s132 s133 s134 s135 s136 s137 s138 s139 s140 s141 s142 s143 s144 s145 s146 s147 s148 s149 s150 s151 s152 s153 s154 s155 s156 s157 s158 s159 s160 s161 s162 s163 s164 s165 s166 s167 : Value} {Q : Exit → Act → World → Prop} (w : World) (g : Nat) (p q : Sb.Pt) (k0 : Sb.Pkt) (A : Option Addr) (c : Nat) (W : World) (UW : Bel w W) (hwg : w.heap.size ≤ g) (hB : PB W g p A 0 c) (hj : q.jt.q = []) (kS : ∀ (V : World) (ZA : Option Addr) (zc : Nat), IntsAt V V.heap.size .i16 ZA (Sb.flatL 1000) → Calls Try.prog 10 #[.agg (PA p A 0 c), .slice ZA 160 zc] V (SendR (q, [k0]) V)) (hQp : ∀ (ch : _) (a : Act) (d : Tmp) (u : Value) (w : World), Q (.panic ch) (a.put (some d) u) w → Q (.panic ch) a w)
    (h : ∀ (wx : World) (A' : Option Addr) (c' : Nat) (u27 u28 u29 u30 u31 u32 u33 : Value), Hid (PB wx g q A' 0 c') → c' ≤ maxLen → Hid (Bel w wx) → Q .normal ⟨#[s0, s1, s2, .pointer (some ⟨g, 0, none⟩), s4, s5, s6, s7, s8, s9, s10, s11, s12, s13, s14, s15, s16, s17, s18, s19, s20, s21, s22, s23, s24, s25, s26, u27, u28, u29, u30, u31, u32, u33, s34, s35, s36, s37, s38, s39, s40, s41, s42, s43, s44, s45, s46, s47, s48, s49, s50, s51, s52, s53, s54, s55, s56, s57, s58, s59, s60, s61, s62, s63, s64, s65, s66, s67, s68, s69, s70, s71, s72, s73, s74, s75, s76, s77, s78, s79, s80, s81, s82, s83, s84, s85, s86, s87, s88, s89, s90, s91, s92, s93, s94, s95, s96, s97, s98, s99, s100, s101, s102, s103, s104, s105, s106, s107, s108, s109, s110, s111, s112, s113, s114, s115, s116, s117, s118, s119, s120, s121, s122, s123, s124, s125, s126, s127, s128, s129, s130, s131, s132, s133, s134, s135, s136, s137, s138, s139, s140, s141, s142, s143, s144, s145, s146, s147, s148, s149, s150, s151, s152, s153, s154, s155, s156, s157, s158, s159, s160, s161, s162, s163, s164, s165, s166, s167], []⟩ wx) : kn3_code.wp Try.prog Q ⟨#[s0, s1, s2, .pointer (some ⟨g, 0, none⟩), s4, s5, s6, s7, s8, s9, s10, s11, s12, s13, s14, s15, s16, s17, s18, s19, s20, s21, s22, s23, s24, s25, s26, s27, s28, s29, s30, s31, s32, s33, s34, s35, s36, s37, s38, s39, s40, s41, s42, s43, s44, s45, s46, s47, s48, s49, s50, s51, s52, s53, s54, s55, s56, s57, s58, s59, s60, s61, s62, s63, s64, s65, s66, s67, s68, s69, s70, s71, s72, s73, s74, s75, s76, s77, s78, s79, s80, s81, s82, s83, s84, s85, s86, s87, s88, s89, s90, s91, s92, s93, s94, s95, s96, s97, s98, s99, s100, s101, s102, s103, s104, s105, s106, s107, s108, s109, s110, s111, s112, s113, s114, s115, s116, s117, s118, s119, s120, s121, s122, s123, s124, s125, s126, s127, s128, s129, s130, s131, s132, s133, s134, s135, s136, s137, s138, s139, s140, s141, s142, s143, s144, s145, s146, s147, s148, s149, s150, s151, s152, s153, s154, s155, s156, s157, s158, s159, s160, s161, s162, s163, s164, s165, s166, s167], []⟩ W := by
  have HB := Lib.hid hB
  have U := Lib.hid (Bel.drew UW)
  replace kS := Lib.hid kS
  have hq := Lib.hid h
  clear h hB UW
  conv => arg 2; whnf
  refine wp_region_held_drew (S := fun _ => True) (by kernel_rfl) trivial (fun _ => ?_)
  replace HB := Lib.hid (show PB W.drew g p A 0 c from HB.out)
  refine wpAnyH_ready (rs := [0, 1]) (by kernel_rfl) (by simp) ?_
  refine AllReadyH.cons (o := _) rfl (fun K hK => ?_) (AllReadyH.cons (o := _) rfl (fun K hK => ?_) AllReadyH.nil)
  · refine step_of_yif rfl (yif_load_part (S := fun x => x = W.drew) rfl 43 (.tmp 3) rfl g 0 rfl 43 (PL p A 0 c) (fun x hx => by rw [hx]; exact HB.out) 48 _ Try.underlying43 info_port (Nat.le_refl 48) (PA p A 0 c) (by rfl) rfl) rfl ?_
    refine hK.out _ _ trivial (fun _ => ?_)
    clear hK K
    try simp only [List.getElem_toArray, List.getElem_cons_zero, List.getElem_cons_succ, Act.put, List.setIfInBounds_toArray, List.set_cons_zero, List.set_cons_succ]
    refine wpAnyH_ready (rs := [1]) (by kernel_rfl) (by simp) ?_
    refine AllReadyH.cons (o := _) rfl (fun K hK => ?_) AllReadyH.nil
    go_simp
    refine (flat_any 1000 _).mono ?_
    rintro e w7 ⟨ZA, zc, rfl, hI, hb1⟩
    replace HB := Lib.hid (PB.later HB.out hb1)
    replace U := Lib.hid (U.out.later hb1)
    have HZ := Lib.hid hI.1
    refine hK.out _ _ trivial (fun _ => ?_)
    clear hK K hI hb1
    try simp only [List.getElem_toArray, List.getElem_cons_zero, List.getElem_cons_succ, Act.put, List.setIfInBounds_toArray, List.set_cons_zero, List.set_cons_succ]
    refine wpAnyH_ready (rs := [2]) (by kernel_rfl) (by simp) ?_
    refine AllReadyH.cons (o := _) rfl (fun K hK => ?_) AllReadyH.nil
    go_simp
    refine (kS.out _ ZA zc HZ.out).mono ?_
    rintro e w9 ⟨A', n', c', l', KA, kc, ks, rfl, hk, hq1, hn, hc1, hc2, hW, hP, hb2, hN⟩
    obtain rfl : l' = [] := List.map_eq_nil_iff.1 (hq1.trans hj)
    obtain rfl : 0 = n' := hn
    obtain ⟨a, rfl⟩ : ∃ a, ks = [a] := List.length_eq_one_iff.1 (by have hl := congrArg List.length hk; simpa using hl)
    obtain ⟨k9, B9, bc9⟩ := a
    obtain rfl : k9 = k0 := by simpa using hk
    have hgl := Blk.lt HB.out
    replace HB := Lib.hid (PB.later HB.out hb2)
    replace U := Lib.hid (U.out.later hb2)
    have HP := Lib.hid hP
    have HN := Lib.hid hN
    refine hK.out _ _ trivial (fun _ => ?_)
    clear hK K hk hq1 hc1 hW hP hN hb2 HZ
    try simp only [List.getElem_toArray, List.getElem_cons_zero, List.getElem_cons_succ, Act.put, List.setIfInBounds_toArray, List.set_cons_zero, List.set_cons_succ]
    refine tk1 (i := 3) (v := ?_) rfl (Or.inl ⟨by rfl, ?_⟩) trivial ?_ (hQ := fun _ _ _ h => hQp _ _ _ _ _ h)
    rotate_left
    · (intro w hSw; clear hSw; go_simp; try with_reducible rfl)
    try simp only [List.getElem_toArray, List.getElem_cons_zero, List.getElem_cons_succ, Act.put, List.setIfInBounds_toArray, List.set_cons_zero, List.set_cons_succ]
    refine tk1 (i := 4) (v := ?_) rfl (Or.inl ⟨by rfl, ?_⟩) trivial ?_ (hQ := fun _ _ _ h => hQp _ _ _ _ _ h)
    rotate_left
    · (intro w hSw; clear hSw; go_simp; try with_reducible rfl)
    try simp only [List.getElem_toArray, List.getElem_cons_zero, List.getElem_cons_succ, Act.put, List.setIfInBounds_toArray, List.set_cons_zero, List.set_cons_succ]
    refine tk1 (i := 5) (v := ?_) rfl (Or.inl ⟨by rfl, ?_⟩) trivial ?_ (hQ := fun _ _ _ h => hQp _ _ _ _ _ h)
    rotate_left
    · (intro w hSw; clear hSw; go_simp; try with_reducible rfl)
    try simp only [List.getElem_toArray, List.getElem_cons_zero, List.getElem_cons_succ, Act.put, List.setIfInBounds_toArray, List.set_cons_zero, List.set_cons_succ]
    refine tk1 (i := 6) (v := ?_) rfl (Or.inl ⟨by rfl, ?_⟩) trivial ?_ (hQ := fun _ _ _ h => hQp _ _ _ _ _ h)
    rotate_left
    · (intro w hSw; clear hSw; go_simp; try with_reducible rfl)
    try simp only [List.getElem_toArray, List.getElem_cons_zero, List.getElem_cons_succ, Act.put, List.setIfInBounds_toArray, List.set_cons_zero, List.set_cons_succ]
    refine wpAnyH_ready (rs := [7]) (by kernel_rfl) (by simp) ?_
    refine AllReadyH.cons (o := _) rfl (fun K hK => ?_) AllReadyH.nil
    refine step_store_part rfl 43 (.tmp 3) (.tmp 31) rfl g 0 rfl 43 _ HB.out (PL q A' 0 c') rfl info_port (Nat.le_refl 48) rfl (PL q A' 0 c') rfl ?_
    intro WF BF OF
    refine hK.out _ _ trivial (fun _ => ?_)
    clear hK K
    try simp only [List.getElem_toArray, List.getElem_cons_zero, List.getElem_cons_succ, Act.put, List.setIfInBounds_toArray, List.set_cons_zero, List.set_cons_succ]
    refine wpAnyH_done (by kernel_rfl) ?_ _
    exact hq.out WF A' c' _ _ _ _ _ _ _ (Lib.hid BF) hc2 (Lib.hid (OF.bel U.out hwg))
  · go_simp
    refine (flat_any 1000 _).mono ?_
    rintro e w7 ⟨ZA, zc, rfl, hI, hb1⟩
    replace HB := Lib.hid (PB.later HB.out hb1)
    replace U := Lib.hid (U.out.later hb1)
    have HZ := Lib.hid hI.1
    refine hK.out _ _ trivial (fun _ => ?_)
    clear hK K hI hb1
    try simp only [List.getElem_toArray, List.getElem_cons_zero, List.getElem_cons_succ, Act.put, List.setIfInBounds_toArray, List.set_cons_zero, List.set_cons_succ]
    refine wpAnyH_ready (rs := [0]) (by kernel_rfl) (by simp) ?_
    refine AllReadyH.cons (o := _) rfl (fun K hK => ?_) AllReadyH.nil
    refine step_of_yif rfl (yif_load_part (S := fun x => x = w7) rfl 43 (.tmp 3) rfl g 0 rfl 43 (PL p A 0 c) (fun x hx => by rw [hx]; exact HB.out) 48 _ Try.underlying43 info_port (Nat.le_refl 48) (PA p A 0 c) (by rfl) rfl) rfl ?_
    refine hK.out _ _ trivial (fun _ => ?_)
    clear hK K
    try simp only [List.getElem_toArray, List.getElem_cons_zero, List.getElem_cons_succ, Act.put, List.setIfInBounds_toArray, List.set_cons_zero, List.set_cons_succ]
    refine wpAnyH_ready (rs := [2]) (by kernel_rfl) (by simp) ?_
    refine AllReadyH.cons (o := _) rfl (fun K hK => ?_) AllReadyH.nil
    go_simp
    refine (kS.out _ ZA zc HZ.out).mono ?_
    rintro e w9 ⟨A', n', c', l', KA, kc, ks, rfl, hk, hq1, hn, hc1, hc2, hW, hP, hb2, hN⟩
    obtain rfl : l' = [] := List.map_eq_nil_iff.1 (hq1.trans hj)
    obtain rfl : 0 = n' := hn
    obtain ⟨a, rfl⟩ : ∃ a, ks = [a] := List.length_eq_one_iff.1 (by have hl := congrArg List.length hk; simpa using hl)
    obtain ⟨k9, B9, bc9⟩ := a
    obtain rfl : k9 = k0 := by simpa using hk
    have hgl := Blk.lt HB.out
    replace HB := Lib.hid (PB.later HB.out hb2)
    replace U := Lib.hid (U.out.later hb2)
    have HP := Lib.hid hP
    have HN := Lib.hid hN
    refine hK.out _ _ trivial (fun _ => ?_)
    clear hK K hk hq1 hc1 hW hP hN hb2 HZ
    try simp only [List.getElem_toArray, List.getElem_cons_zero, List.getElem_cons_succ, Act.put, List.setIfInBounds_toArray, List.set_cons_zero, List.set_cons_succ]
    refine tk1 (i := 3) (v := ?_) rfl (Or.inl ⟨by rfl, ?_⟩) trivial ?_ (hQ := fun _ _ _ h => hQp _ _ _ _ _ h)
    rotate_left
    · (intro w hSw; clear hSw; go_simp; try with_reducible rfl)
    try simp only [List.getElem_toArray, List.getElem_cons_zero, List.getElem_cons_succ, Act.put, List.setIfInBounds_toArray, List.set_cons_zero, List.set_cons_succ]
    refine tk1 (i := 4) (v := ?_) rfl (Or.inl ⟨by rfl, ?_⟩) trivial ?_ (hQ := fun _ _ _ h => hQp _ _ _ _ _ h)
    rotate_left
    · (intro w hSw; clear hSw; go_simp; try with_reducible rfl)
    try simp only [List.getElem_toArray, List.getElem_cons_zero, List.getElem_cons_succ, Act.put, List.setIfInBounds_toArray, List.set_cons_zero, List.set_cons_succ]
    refine tk1 (i := 5) (v := ?_) rfl (Or.inl ⟨by rfl, ?_⟩) trivial ?_ (hQ := fun _ _ _ h => hQp _ _ _ _ _ h)
    rotate_left
    · (intro w hSw; clear hSw; go_simp; try with_reducible rfl)
    try simp only [List.getElem_toArray, List.getElem_cons_zero, List.getElem_cons_succ, Act.put, List.setIfInBounds_toArray, List.set_cons_zero, List.set_cons_succ]
    refine tk1 (i := 6) (v := ?_) rfl (Or.inl ⟨by rfl, ?_⟩) trivial ?_ (hQ := fun _ _ _ h => hQp _ _ _ _ _ h)
    rotate_left
    · (intro w hSw; clear hSw; go_simp; try with_reducible rfl)
    try simp only [List.getElem_toArray, List.getElem_cons_zero, List.getElem_cons_succ, Act.put, List.setIfInBounds_toArray, List.set_cons_zero, List.set_cons_succ]
    refine wpAnyH_ready (rs := [7]) (by kernel_rfl) (by simp) ?_
    refine AllReadyH.cons (o := _) rfl (fun K hK => ?_) AllReadyH.nil
    refine step_store_part rfl 43 (.tmp 3) (.tmp 31) rfl g 0 rfl 43 _ HB.out (PL q A' 0 c') rfl info_port (Nat.le_refl 48) rfl (PL q A' 0 c') rfl ?_
    intro WF BF OF
    refine hK.out _ _ trivial (fun _ => ?_)
    clear hK K
    try simp only [List.getElem_toArray, List.getElem_cons_zero, List.getElem_cons_succ, Act.put, List.setIfInBounds_toArray, List.set_cons_zero, List.set_cons_succ]
    refine wpAnyH_done (by kernel_rfl) ?_ _
    exact hq.out WF A' c' _ _ _ _ _ _ _ (Lib.hid BF) hc2 (Lib.hid (OF.bel U.out hwg))
noncomputable def kn4_code : Code := ((Try.f5.body.bind (findRegS 4)).getD .skip)
set_option maxRecDepth 100000 in
set_option maxHeartbeats 12800000 in
theorem kn4_wp {s0 s1 s2 s4 s5 s6 s7 s8 s9 s10 s11 s12 s13 s14 s15 s16 s17 s18 s19 s20 s21 s22 s23 s24 s25 s26 s27 s28 s29 s30 s31 s32 s33 s34 s35 s36 s37 s38 s39 s40 s41 s42 s43 s44 s45 s46 s47 s48 s49 s50 s51 s52 s53 s54 s55 s56 s57 s58 s59 s60 s61 s62 s63 s64 s65 s66 s67 s68 s69 s70 s71 s72 s73 s74 s75 s76 s77 s78 s79 s80 s81 s82 s83 s84 s85 s86 s87 s88 s89 s90 s91 s92 s93 s94 s95 s96 s97 s98 s99 s100 s101 s102 s103 s104 s105 s106 s107 s108 s109 s110 s111 s112 s113 s114 s115 s116 s117 s118 s119 s120 s121 s122 s123 s124 s125 s126 s127 s128 s129 s130 s131 s132 s133 s134 s135 s136 s137 s138 s139 s140 s141 s142 s143 s144 s145 s146 s147 s148 s149 s150 s151 s152 s153 s154 s155 s156 s157 s158 s159 s160 s161 s162 s163 s164 s165 s166 s167 : Value} {Q : Exit → Act → World → Prop} (w : World) (g : Nat) (p q : Sb.Pt) (k0 : Sb.Pkt) (A : Option Addr) (c : Nat) (W : World) (UW : Bel w W) (hwg : w.heap.size ≤ g) (hB : PB W g p A 0 c) (hj : q.jt.q = []) (kS : ∀ (V : World) (ZA : Option Addr) (zc : Nat), IntsAt V V.heap.size .i16 ZA (Sb.flatL 1000) → Calls Try.prog 10 #[.agg (PA p A 0 c), .slice ZA 160 zc] V (SendR (q, [k0]) V)) (hQp : ∀ (ch : _) (a : Act) (d : Tmp) (u : Value) (w : World), Q (.panic ch) (a.put (some d) u) w → Q (.panic ch) a w)
    (h : ∀ (wx : World) (A' : Option Addr) (c' : Nat) (KA : Option Addr) (kc : Nat) (B : Option Addr) (bc : Nat) (u34 u35 u36 u37 u38 u39 u40 : Value), Hid (PB wx g q A' 0 c') → c' ≤ maxLen → Hid (Pks wx wx.heap.size KA [⟨k0, B, bc⟩]) → Hid (Bel w wx) → Q .normal ⟨#[s0, s1, s2, .pointer (some ⟨g, 0, none⟩), s4, .slice KA 1 kc, .int .u8 0, s7, s8, s9, s10, s11, s12, s13, s14, s15, s16, s17, s18, s19, s20, s21, s22, s23, s24, s25, s26, s27, s28, s29, s30, s31, s32, s33, u34, u35, u36, u37, u38, u39, u40, s41, s42, s43, s44, s45, s46, s47, s48, s49, s50, s51, s52, s53, s54, s55, s56, s57, s58, s59, s60, s61, s62, s63, s64, s65, s66, s67, s68, s69, s70, s71, s72, s73, s74, s75, s76, s77, s78, s79, s80, s81, s82, s83, s84, s85, s86, s87, s88, s89, s90, s91, s92, s93, s94, s95, s96, s97, s98, s99, s100, s101, s102, s103, s104, s105, s106, s107, s108, s109, s110, s111, s112, s113, s114, s115, s116, s117, s118, s119, s120, s121, s122, s123, s124, s125, s126, s127, s128, s129, s130, s131, s132, s133, s134, s135, s136, s137, s138, s139, s140, s141, s142, s143, s144, s145, s146, s147, s148, s149, s150, s151, s152, s153, s154, s155, s156, s157, s158, s159, s160, s161, s162, s163, s164, s165, s166, s167], []⟩ wx) : kn4_code.wp Try.prog Q ⟨#[s0, s1, s2, .pointer (some ⟨g, 0, none⟩), s4, s5, s6, s7, s8, s9, s10, s11, s12, s13, s14, s15, s16, s17, s18, s19, s20, s21, s22, s23, s24, s25, s26, s27, s28, s29, s30, s31, s32, s33, s34, s35, s36, s37, s38, s39, s40, s41, s42, s43, s44, s45, s46, s47, s48, s49, s50, s51, s52, s53, s54, s55, s56, s57, s58, s59, s60, s61, s62, s63, s64, s65, s66, s67, s68, s69, s70, s71, s72, s73, s74, s75, s76, s77, s78, s79, s80, s81, s82, s83, s84, s85, s86, s87, s88, s89, s90, s91, s92, s93, s94, s95, s96, s97, s98, s99, s100, s101, s102, s103, s104, s105, s106, s107, s108, s109, s110, s111, s112, s113, s114, s115, s116, s117, s118, s119, s120, s121, s122, s123, s124, s125, s126, s127, s128, s129, s130, s131, s132, s133, s134, s135, s136, s137, s138, s139, s140, s141, s142, s143, s144, s145, s146, s147, s148, s149, s150, s151, s152, s153, s154, s155, s156, s157, s158, s159, s160, s161, s162, s163, s164, s165, s166, s167], []⟩ W := by
  have HB := Lib.hid hB
  have U := Lib.hid (Bel.drew UW)
  replace kS := Lib.hid kS
  have hq := Lib.hid h
  clear h hB UW
  conv => arg 2; whnf
  refine wp_region_held_drew (S := fun _ => True) (by kernel_rfl) trivial (fun _ => ?_)
  replace HB := Lib.hid (show PB W.drew g p A 0 c from HB.out)
  refine wpAnyH_ready (rs := [0, 1]) (by kernel_rfl) (by simp) ?_
  refine AllReadyH.cons (o := _) rfl (fun K hK => ?_) (AllReadyH.cons (o := _) rfl (fun K hK => ?_) AllReadyH.nil)
  · refine step_of_yif rfl (yif_load_part (S := fun x => x = W.drew) rfl 43 (.tmp 3) rfl g 0 rfl 43 (PL p A 0 c) (fun x hx => by rw [hx]; exact HB.out) 48 _ Try.underlying43 info_port (Nat.le_refl 48) (PA p A 0 c) (by rfl) rfl) rfl ?_
    refine hK.out _ _ trivial (fun _ => ?_)
    clear hK K
    try simp only [List.getElem_toArray, List.getElem_cons_zero, List.getElem_cons_succ, Act.put, List.setIfInBounds_toArray, List.set_cons_zero, List.set_cons_succ]
    refine wpAnyH_ready (rs := [1]) (by kernel_rfl) (by simp) ?_
    refine AllReadyH.cons (o := _) rfl (fun K hK => ?_) AllReadyH.nil
    go_simp
    refine (flat_any 1000 _).mono ?_
    rintro e w7 ⟨ZA, zc, rfl, hI, hb1⟩
    replace HB := Lib.hid (PB.later HB.out hb1)
    replace U := Lib.hid (U.out.later hb1)
    have HZ := Lib.hid hI.1
    refine hK.out _ _ trivial (fun _ => ?_)
    clear hK K hI hb1
    try simp only [List.getElem_toArray, List.getElem_cons_zero, List.getElem_cons_succ, Act.put, List.setIfInBounds_toArray, List.set_cons_zero, List.set_cons_succ]
    refine wpAnyH_ready (rs := [2]) (by kernel_rfl) (by simp) ?_
    refine AllReadyH.cons (o := _) rfl (fun K hK => ?_) AllReadyH.nil
    go_simp
    refine (kS.out _ ZA zc HZ.out).mono ?_
    rintro e w9 ⟨A', n', c', l', KA, kc, ks, rfl, hk, hq1, hn, hc1, hc2, hW, hP, hb2, hN⟩
    obtain rfl : l' = [] := List.map_eq_nil_iff.1 (hq1.trans hj)
    obtain rfl : 0 = n' := hn
    obtain ⟨a, rfl⟩ : ∃ a, ks = [a] := List.length_eq_one_iff.1 (by have hl := congrArg List.length hk; simpa using hl)
    obtain ⟨k9, B9, bc9⟩ := a
    obtain rfl : k9 = k0 := by simpa using hk
    have hgl := Blk.lt HB.out
    replace HB := Lib.hid (PB.later HB.out hb2)
    replace U := Lib.hid (U.out.later hb2)
    have HP := Lib.hid hP
    have HN := Lib.hid hN
    refine hK.out _ _ trivial (fun _ => ?_)
    clear hK K hk hq1 hc1 hW hP hN hb2 HZ
    try simp only [List.getElem_toArray, List.getElem_cons_zero, List.getElem_cons_succ, Act.put, List.setIfInBounds_toArray, List.set_cons_zero, List.set_cons_succ]
    refine tk1 (i := 3) (v := ?_) rfl (Or.inl ⟨by rfl, ?_⟩) trivial ?_ (hQ := fun _ _ _ h => hQp _ _ _ _ _ h)
    rotate_left
    · (intro w hSw; clear hSw; go_simp; try with_reducible rfl)
    try simp only [List.getElem_toArray, List.getElem_cons_zero, List.getElem_cons_succ, Act.put, List.setIfInBounds_toArray, List.set_cons_zero, List.set_cons_succ]
    refine tk1 (i := 4) (v := ?_) rfl (Or.inl ⟨by rfl, ?_⟩) trivial ?_ (hQ := fun _ _ _ h => hQp _ _ _ _ _ h)
    rotate_left
    · (intro w hSw; clear hSw; go_simp; try with_reducible rfl)
    try simp only [List.getElem_toArray, List.getElem_cons_zero, List.getElem_cons_succ, Act.put, List.setIfInBounds_toArray, List.set_cons_zero, List.set_cons_succ]
    refine tk1 (i := 5) (v := ?_) rfl (Or.inl ⟨by rfl, ?_⟩) trivial ?_ (hQ := fun _ _ _ h => hQp _ _ _ _ _ h)
    rotate_left
    · (intro w hSw; clear hSw; go_simp; try with_reducible rfl)
    try simp only [List.getElem_toArray, List.getElem_cons_zero, List.getElem_cons_succ, Act.put, List.setIfInBounds_toArray, List.set_cons_zero, List.set_cons_succ]
    refine tk1 (i := 6) (v := ?_) rfl (Or.inl ⟨by rfl, ?_⟩) trivial ?_ (hQ := fun _ _ _ h => hQp _ _ _ _ _ h)
    rotate_left
    · (intro w hSw; clear hSw; go_simp; try with_reducible rfl)
    try simp only [List.getElem_toArray, List.getElem_cons_zero, List.getElem_cons_succ, Act.put, List.setIfInBounds_toArray, List.set_cons_zero, List.set_cons_succ]
    refine wpAnyH_ready (rs := [7]) (by kernel_rfl) (by simp) ?_
    refine AllReadyH.cons (o := _) rfl (fun K hK => ?_) AllReadyH.nil
    refine step_store_part rfl 43 (.tmp 3) (.tmp 38) rfl g 0 rfl 43 _ HB.out (PL q A' 0 c') rfl info_port (Nat.le_refl 48) rfl (PL q A' 0 c') rfl ?_
    intro WF BF OF
    refine hK.out _ _ trivial (fun _ => ?_)
    clear hK K
    try simp only [List.getElem_toArray, List.getElem_cons_zero, List.getElem_cons_succ, Act.put, List.setIfInBounds_toArray, List.set_cons_zero, List.set_cons_succ]
    refine tk1 (i := 8) (v := ?_) rfl (Or.inl ⟨by rfl, ?_⟩) trivial ?_ (hQ := fun _ _ _ h => hQp _ _ _ _ _ h)
    rotate_left
    · (intro w hSw; clear hSw; go_simp; try with_reducible rfl)
    try simp only [List.getElem_toArray, List.getElem_cons_zero, List.getElem_cons_succ, Act.put, List.setIfInBounds_toArray, List.set_cons_zero, List.set_cons_succ]
    refine tk1 (i := 9) (v := ?_) rfl (Or.inl ⟨by rfl, ?_⟩) trivial ?_ (hQ := fun _ _ _ h => hQp _ _ _ _ _ h)
    rotate_left
    · (intro w hSw; clear hSw; go_simp; try with_reducible rfl)
    try simp only [List.getElem_toArray, List.getElem_cons_zero, List.getElem_cons_succ, Act.put, List.setIfInBounds_toArray, List.set_cons_zero, List.set_cons_succ]
    refine wpAnyH_done (by kernel_rfl) ?_ _
    exact hq.out WF A' c' KA kc B9 bc9 _ _ _ _ _ _ _ (Lib.hid BF) hc2 (Lib.hid ((HP.out.onlyN HN.out OF (Or.inl hgl)).more (by rw [OF.2]; exact Nat.le_refl _))) (Lib.hid (OF.bel U.out hwg))
  · go_simp
    refine (flat_any 1000 _).mono ?_
    rintro e w7 ⟨ZA, zc, rfl, hI, hb1⟩
    replace HB := Lib.hid (PB.later HB.out hb1)
    replace U := Lib.hid (U.out.later hb1)
    have HZ := Lib.hid hI.1
    refine hK.out _ _ trivial (fun _ => ?_)
    clear hK K hI hb1
    try simp only [List.getElem_toArray, List.getElem_cons_zero, List.getElem_cons_succ, Act.put, List.setIfInBounds_toArray, List.set_cons_zero, List.set_cons_succ]
    refine wpAnyH_ready (rs := [0]) (by kernel_rfl) (by simp) ?_
    refine AllReadyH.cons (o := _) rfl (fun K hK => ?_) AllReadyH.nil
    refine step_of_yif rfl (yif_load_part (S := fun x => x = w7) rfl 43 (.tmp 3) rfl g 0 rfl 43 (PL p A 0 c) (fun x hx => by rw [hx]; exact HB.out) 48 _ Try.underlying43 info_port (Nat.le_refl 48) (PA p A 0 c) (by rfl) rfl) rfl ?_
    refine hK.out _ _ trivial (fun _ => ?_)
    clear hK K
    try simp only [List.getElem_toArray, List.getElem_cons_zero, List.getElem_cons_succ, Act.put, List.setIfInBounds_toArray, List.set_cons_zero, List.set_cons_succ]
    refine wpAnyH_ready (rs := [2]) (by kernel_rfl) (by simp) ?_
    refine AllReadyH.cons (o := _) rfl (fun K hK => ?_) AllReadyH.nil
    go_simp
    refine (kS.out _ ZA zc HZ.out).mono ?_
    rintro e w9 ⟨A', n', c', l', KA, kc, ks, rfl, hk, hq1, hn, hc1, hc2, hW, hP, hb2, hN⟩
    obtain rfl : l' = [] := List.map_eq_nil_iff.1 (hq1.trans hj)
    obtain rfl : 0 = n' := hn
    obtain ⟨a, rfl⟩ : ∃ a, ks = [a] := List.length_eq_one_iff.1 (by have hl := congrArg List.length hk; simpa using hl)
    obtain ⟨k9, B9, bc9⟩ := a
    obtain rfl : k9 = k0 := by simpa using hk
    have hgl := Blk.lt HB.out
    replace HB := Lib.hid (PB.later HB.out hb2)
    replace U := Lib.hid (U.out.later hb2)
    have HP := Lib.hid hP
    have HN := Lib.hid hN
    refine hK.out _ _ trivial (fun _ => ?_)
    clear hK K hk hq1 hc1 hW hP hN hb2 HZ
    try simp only [List.getElem_toArray, List.getElem_cons_zero, List.getElem_cons_succ, Act.put, List.setIfInBounds_toArray, List.set_cons_zero, List.set_cons_succ]
    refine tk1 (i := 3) (v := ?_) rfl (Or.inl ⟨by rfl, ?_⟩) trivial ?_ (hQ := fun _ _ _ h => hQp _ _ _ _ _ h)
    rotate_left
    · (intro w hSw; clear hSw; go_simp; try with_reducible rfl)
    try simp only [List.getElem_toArray, List.getElem_cons_zero, List.getElem_cons_succ, Act.put, List.setIfInBounds_toArray, List.set_cons_zero, List.set_cons_succ]
    refine tk1 (i := 4) (v := ?_) rfl (Or.inl ⟨by rfl, ?_⟩) trivial ?_ (hQ := fun _ _ _ h => hQp _ _ _ _ _ h)
    rotate_left
    · (intro w hSw; clear hSw; go_simp; try with_reducible rfl)
    try simp only [List.getElem_toArray, List.getElem_cons_zero, List.getElem_cons_succ, Act.put, List.setIfInBounds_toArray, List.set_cons_zero, List.set_cons_succ]
    refine tk1 (i := 5) (v := ?_) rfl (Or.inl ⟨by rfl, ?_⟩) trivial ?_ (hQ := fun _ _ _ h => hQp _ _ _ _ _ h)
    rotate_left
    · (intro w hSw; clear hSw; go_simp; try with_reducible rfl)
    try simp only [List.getElem_toArray, List.getElem_cons_zero, List.getElem_cons_succ, Act.put, List.setIfInBounds_toArray, List.set_cons_zero, List.set_cons_succ]
    refine tk1 (i := 6) (v := ?_) rfl (Or.inl ⟨by rfl, ?_⟩) trivial ?_ (hQ := fun _ _ _ h => hQp _ _ _ _ _ h)
    rotate_left
    · (intro w hSw; clear hSw; go_simp; try with_reducible rfl)
    try simp only [List.getElem_toArray, List.getElem_cons_zero, List.getElem_cons_succ, Act.put, List.setIfInBounds_toArray, List.set_cons_zero, List.set_cons_succ]
    refine wpAnyH_ready (rs := [7]) (by kernel_rfl) (by simp) ?_
    refine AllReadyH.cons (o := _) rfl (fun K hK => ?_) AllReadyH.nil
    refine step_store_part rfl 43 (.tmp 3) (.tmp 38) rfl g 0 rfl 43 _ HB.out (PL q A' 0 c') rfl info_port (Nat.le_refl 48) rfl (PL q A' 0 c') rfl ?_
    intro WF BF OF
    refine hK.out _ _ trivial (fun _ => ?_)
    clear hK K
    try simp only [List.getElem_toArray, List.getElem_cons_zero, List.getElem_cons_succ, Act.put, List.setIfInBounds_toArray, List.set_cons_zero, List.set_cons_succ]
    refine tk1 (i := 8) (v := ?_) rfl (Or.inl ⟨by rfl, ?_⟩) trivial ?_ (hQ := fun _ _ _ h => hQp _ _ _ _ _ h)
    rotate_left
    · (intro w hSw; clear hSw; go_simp; try with_reducible rfl)
    try simp only [List.getElem_toArray, List.getElem_cons_zero, List.getElem_cons_succ, Act.put, List.setIfInBounds_toArray, List.set_cons_zero, List.set_cons_succ]
    refine tk1 (i := 9) (v := ?_) rfl (Or.inl ⟨by rfl, ?_⟩) trivial ?_ (hQ := fun _ _ _ h => hQp _ _ _ _ _ h)
    rotate_left
    · (intro w hSw; clear hSw; go_simp; try with_reducible rfl)
    try simp only [List.getElem_toArray, List.getElem_cons_zero, List.getElem_cons_succ, Act.put, List.setIfInBounds_toArray, List.set_cons_zero, List.set_cons_succ]
    refine wpAnyH_done (by kernel_rfl) ?_ _
    exact hq.out WF A' c' KA kc B9 bc9 _ _ _ _ _ _ _ (Lib.hid BF) hc2 (Lib.hid ((HP.out.onlyN HN.out OF (Or.inl hgl)).more (by rw [OF.2]; exact Nat.le_refl _))) (Lib.hid (OF.bel U.out hwg))
end Go.Proofs.Ytahbecinkciahaa
/- Layer 32: StreamKnown, the region that calls Send in the loop. -/
namespace Go.Proofs.Ytahbecinkciahaa
open Go.RowKit
set_option linter.unusedVariables false
set_option linter.unusedSimpArgs false
attribute [local go_sem ↓] run_min_plain run_max_plain
attribute [local go_sem] setCell_drewN alloc_drewN
noncomputable def kn10_code : Code := ((Try.f5.body.bind (findRegS 10)).getD .skip)
set_option maxRecDepth 100000 in
set_option maxHeartbeats 12800000 in
theorem kn10_wp {s0 s1 s2 s4 s5 s6 s7 s8 s9 s10 s11 s12 s13 s14 s15 s16 s17 s18 s19 s20 s21 s22 s23 s24 s25 s26 s27 s28 s29 s30 s31 s32 s33 s34 s35 s36 s37 s38 s39 s40 s41 s42 s43 s44 s45 s46 s47 s48 s49 s50 s51 s52 s53 s54 s55 s56 s57 s58 s59 s60 s61 s62 s63 s64 s65 s66 s67 s68 s69 s70 s71 s72 s73 s74 s75 s76 s77 s78 s79 s80 s81 s82 s83 s84 s85 s86 s87 s88 s89 s90 s91 s92 s93 s94 s95 s96 s97 s98 s99 s100 s101 s102 s103 s104 s105 s106 s107 s108 s109 s110 s111 s112 s113 s114 s115 s116 s117 s118 s119 s120 s121 s122 s123 s124 s125 s126 s127 s128 s129 s130 s131 s132 s133 s134 s135 s136 s137 s138 s139 s140 s141 s142 s143 s144 s145 s146 s147 s148 s149 s150 s151 s152 s153 s154 s155 s156 s157 s158 s159 s160 s161 s162 s163 s164 s165 s166 s167 : Value} {Q : Exit → Act → World → Prop} (g : Nat) (p q : Sb.Pt) (pks : List Sb.Pkt) (A : Option Addr) (c : Nat) (W : World) (hB : PB W g p A 0 c) (hj : q.jt.q = []) (kS : ∀ (V : World) (ZA : Option Addr) (zc : Nat), IntsAt V V.heap.size .i16 ZA (Sb.flatL 0) → Calls Try.prog 10 #[.agg (PA p A 0 c), .slice ZA 160 zc] V (SendR (q, pks) V)) (hQp : ∀ (ch : _) (a : Act) (d : Tmp) (u : Value) (w : World), Q (.panic ch) (a.put (some d) u) w → Q (.panic ch) a w)
    (h : ∀ (wx : World) (g3 : Nat) (KA : Option Addr) (kc : Nat) (ks : List TK) (A' : Option Addr) (c' : Nat) (u72 u73 u74 u75 u76 u77 u78 : Value), Hid (PB wx g3 q A' 0 c') → c' ≤ maxLen → Hid (ks.map TK.k = pks) → Hid (Pks wx wx.heap.size KA ks) → Hid (Below W.heap.size W wx) → Q .normal ⟨#[s0, s1, s2, .pointer (some ⟨g, 0, none⟩), s4, s5, s6, s7, .pointer (some ⟨g3, 0, none⟩), .slice KA pks.length kc, .int .u8 0, s11, s12, s13, s14, s15, s16, s17, s18, s19, s20, s21, s22, s23, s24, s25, s26, s27, s28, s29, s30, s31, s32, s33, s34, s35, s36, s37, s38, s39, s40, s41, s42, s43, s44, s45, s46, s47, s48, s49, s50, s51, s52, s53, s54, s55, s56, s57, s58, s59, s60, s61, s62, s63, s64, s65, s66, s67, s68, s69, s70, s71, u72, u73, u74, u75, u76, u77, u78, s79, s80, s81, s82, s83, s84, s85, s86, s87, s88, s89, s90, s91, s92, s93, s94, s95, s96, s97, s98, s99, s100, s101, s102, s103, s104, s105, s106, s107, s108, s109, s110, s111, s112, s113, s114, s115, s116, s117, s118, s119, s120, s121, s122, s123, s124, s125, s126, s127, s128, s129, s130, s131, s132, s133, s134, s135, s136, s137, s138, s139, s140, s141, s142, s143, s144, s145, s146, s147, s148, s149, s150, s151, s152, s153, s154, s155, s156, s157, s158, s159, s160, s161, s162, s163, s164, s165, s166, s167], []⟩ wx) : kn10_code.wp Try.prog Q ⟨#[s0, s1, s2, .pointer (some ⟨g, 0, none⟩), s4, s5, s6, s7, s8, s9, s10, s11, s12, s13, s14, s15, s16, s17, s18, s19, s20, s21, s22, s23, s24, s25, s26, s27, s28, s29, s30, s31, s32, s33, s34, s35, s36, s37, s38, s39, s40, s41, s42, s43, s44, s45, s46, s47, s48, s49, s50, s51, s52, s53, s54, s55, s56, s57, s58, s59, s60, s61, s62, s63, s64, s65, s66, s67, s68, s69, s70, s71, s72, s73, s74, s75, s76, s77, s78, s79, s80, s81, s82, s83, s84, s85, s86, s87, s88, s89, s90, s91, s92, s93, s94, s95, s96, s97, s98, s99, s100, s101, s102, s103, s104, s105, s106, s107, s108, s109, s110, s111, s112, s113, s114, s115, s116, s117, s118, s119, s120, s121, s122, s123, s124, s125, s126, s127, s128, s129, s130, s131, s132, s133, s134, s135, s136, s137, s138, s139, s140, s141, s142, s143, s144, s145, s146, s147, s148, s149, s150, s151, s152, s153, s154, s155, s156, s157, s158, s159, s160, s161, s162, s163, s164, s165, s166, s167], []⟩ W := by
  have HB := Lib.hid hB
  replace kS := Lib.hid kS
  clear hB
  have hq := Lib.hid h
  clear h
  conv => arg 2; whnf
  refine wp_region_held_drew (S := fun w' => Below W.heap.size W w') (by kernel_rfl) (Below.drew (Below.refl _ _)) (fun hHeld => ?_)
  refine tk1 (i := 0) (v := .agg (PA p A 0 c)) rfl (yif_load_part rfl 43 (.tmp 3) rfl g 0 rfl 43 (PL p A 0 c) (fun w h => HB.out.later h) 48 _ Try.underlying43 info_port (Nat.le_refl 48) _ rfl rfl) hHeld ?_ (hQ := fun _ _ _ h => hQp _ _ _ _ _ h)
  try simp only [List.getElem_toArray, List.getElem_cons_zero, List.getElem_cons_succ, Act.put, List.setIfInBounds_toArray, List.set_cons_zero, List.set_cons_succ]
  refine wpAnyH_ready (rs := [1, 7]) (by kernel_rfl) (by simp) ?_
  refine AllReadyH.cons (o := _) rfl (fun K hK => ?_) (AllReadyH.cons (o := _) rfl (fun K hK => ?_) AllReadyH.nil)
  · go_simp
    refine (flat_any 0 _).mono ?_
    rintro e w7 ⟨ZA, zc, rfl, hI, hb1⟩
    have HZ := Lib.hid hI.1
    clear hI
    refine hK.out _ _ ?_ (fun hHeld => ?_)
    · exact below_old' hb1 hHeld
    clear hK K hb1
    try simp only [List.getElem_toArray, List.getElem_cons_zero, List.getElem_cons_succ, Act.put, List.setIfInBounds_toArray, List.set_cons_zero, List.set_cons_succ]
    refine wpAnyH_ready (rs := [2, 7]) (by kernel_rfl) (by simp) ?_
    refine AllReadyH.cons (o := _) rfl (fun K hK => ?_) (AllReadyH.cons (o := _) rfl (fun K hK => ?_) AllReadyH.nil)
    · go_simp
      refine (kS.out _ ZA zc HZ.out).mono ?_
      rintro e w9 ⟨A', n', c', l', KA, kc, ks, he, hk, hq1, hn, hc1, hc2, hW, hP, hb2, hN⟩
      have hkl : ks.length = pks.length := by have hl := congrArg List.length hk; simpa using hl
      rw [hkl] at he
      subst he
      obtain rfl : l' = [] := List.map_eq_nil_iff.1 (hq1.trans hj)
      obtain rfl : 0 = n' := hn
      have HN := Lib.hid hN
      have HP := Lib.hid hP
      have HK := Lib.hid hk
      clear hk hkl hq1 hc1 hW hP hN HZ
      refine hK.out _ _ ?_ (fun hHeld => ?_)
      · exact below_old' hb2 hHeld
      clear hK K hb2
      try simp only [List.getElem_toArray, List.getElem_cons_zero, List.getElem_cons_succ, Act.put, List.setIfInBounds_toArray, List.set_cons_zero, List.set_cons_succ]
      refine tk1 (i := 3) (v := ?_) rfl (Or.inl ⟨by rfl, ?_⟩) hHeld ?_ (hQ := fun _ _ _ h => hQp _ _ _ _ _ h)
      rotate_left
      · (intro w hSw; clear hSw; go_simp; try with_reducible rfl)
      try simp only [List.getElem_toArray, List.getElem_cons_zero, List.getElem_cons_succ, Act.put, List.setIfInBounds_toArray, List.set_cons_zero, List.set_cons_succ]
      refine tk1 (i := 4) (v := ?_) rfl (Or.inl ⟨by rfl, ?_⟩) hHeld ?_ (hQ := fun _ _ _ h => hQp _ _ _ _ _ h)
      rotate_left
      · (intro w hSw; clear hSw; go_simp; try with_reducible rfl)
      try simp only [List.getElem_toArray, List.getElem_cons_zero, List.getElem_cons_succ, Act.put, List.setIfInBounds_toArray, List.set_cons_zero, List.set_cons_succ]
      refine tk1 (i := 5) (v := ?_) rfl (Or.inl ⟨by rfl, ?_⟩) hHeld ?_ (hQ := fun _ _ _ h => hQp _ _ _ _ _ h)
      rotate_left
      · (intro w hSw; clear hSw; go_simp; try with_reducible rfl)
      try simp only [List.getElem_toArray, List.getElem_cons_zero, List.getElem_cons_succ, Act.put, List.setIfInBounds_toArray, List.set_cons_zero, List.set_cons_succ]
      refine tk1 (i := 6) (v := ?_) rfl (Or.inl ⟨by rfl, ?_⟩) hHeld ?_ (hQ := fun _ _ _ h => hQp _ _ _ _ _ h)
      rotate_left
      · (intro w hSw; clear hSw; go_simp; try with_reducible rfl)
      try simp only [List.getElem_toArray, List.getElem_cons_zero, List.getElem_cons_succ, Act.put, List.setIfInBounds_toArray, List.set_cons_zero, List.set_cons_succ]
      refine wpAnyH_ready (rs := [7]) (by kernel_rfl) (by simp) ?_
      refine AllReadyH.cons (o := _) rfl (fun K hK => ?_) AllReadyH.nil
      · go_simp
        have HD : Hid (Blk ((w9).alloc (Obj.cells #[.int .u8 0, .int .u32 0, .int .u16 0, .int .u32 0, .bool false, .int .i64 0, .int .i64 0, .int .i64 0, .bool false, .int .u8 0, .int .u8 0, .int .u32 0, .int .i64 0, .int .i64 0, .int .i64 0, .int .i64 0, .int .i64 0, .bool false, .int .i64 0, .int .i64 0, .int .i64 0, .int .i64 0, .int .i64 0, .int .i64 0, .slice none 0 0, .int .i64 0, .int .i64 0, .int .i64 0, .bool false, .int .i64 0, .int .i64 0, .int .i64 0, .bool false, .int .i64 0, .int .i64 0, .int .i64 0, .int .i64 0, .int .i64 0, .int .i64 0, .int .i64 0, .bool false, .int .u32 0, .int .u8 0, .int .i64 0, .bool false, .int .u32 0, .int .u32 0, .int .u32 0] 43)) (w9).heap.size 43 (PL Sb.Pt.zero none 0 0).toArray) := Lib.hid (by first | exact Blk.new _ _ _ | exact Blk.dr (Blk.new _ _ _))
        have hg8 : W.heap.size ≤ (w9).heap.size := hHeld.size
        obtain ⟨g8, hgg⟩ : ∃ g, g = (w9).heap.size := ⟨_, rfl⟩
        replace HP := Lib.hid (HP.out.keep (fun p hp => World.cell?_alloc_lt _ (Obj.cells #[.int .u8 0, .int .u32 0, .int .u16 0, .int .u32 0, .bool false, .int .i64 0, .int .i64 0, .int .i64 0, .bool false, .int .u8 0, .int .u8 0, .int .u32 0, .int .i64 0, .int .i64 0, .int .i64 0, .int .i64 0, .int .i64 0, .bool false, .int .i64 0, .int .i64 0, .int .i64 0, .int .i64 0, .int .i64 0, .int .i64 0, .slice none 0 0, .int .i64 0, .int .i64 0, .int .i64 0, .bool false, .int .i64 0, .int .i64 0, .int .i64 0, .bool false, .int .i64 0, .int .i64 0, .int .i64 0, .int .i64 0, .int .i64 0, .int .i64 0, .int .i64 0, .bool false, .int .u32 0, .int .u8 0, .int .i64 0, .bool false, .int .u32 0, .int .u32 0, .int .u32 0] 43) p hp))
        refine hK.out _ _ ?_ (fun hHeld => ?_)
        · exact below_new_old hHeld _
        clear hK K
        try simp only [List.getElem_toArray, List.getElem_cons_zero, List.getElem_cons_succ, Act.put, List.setIfInBounds_toArray, List.set_cons_zero, List.set_cons_succ]
        obtain ⟨V2, hV⟩ : ∃ V, V = (w9).alloc (Obj.cells #[.int .u8 0, .int .u32 0, .int .u16 0, .int .u32 0, .bool false, .int .i64 0, .int .i64 0, .int .i64 0, .bool false, .int .u8 0, .int .u8 0, .int .u32 0, .int .i64 0, .int .i64 0, .int .i64 0, .int .i64 0, .int .i64 0, .bool false, .int .i64 0, .int .i64 0, .int .i64 0, .int .i64 0, .int .i64 0, .int .i64 0, .slice none 0 0, .int .i64 0, .int .i64 0, .int .i64 0, .bool false, .int .i64 0, .int .i64 0, .int .i64 0, .bool false, .int .i64 0, .int .i64 0, .int .i64 0, .int .i64 0, .int .i64 0, .int .i64 0, .int .i64 0, .bool false, .int .u32 0, .int .u8 0, .int .i64 0, .bool false, .int .u32 0, .int .u32 0, .int .u32 0] 43) := ⟨_, rfl⟩
        rw [← hV] at HD hHeld HP ⊢
        clear hV
        rw [← hgg] at HD hg8 ⊢
        have HGG := Lib.hid hgg
        clear hgg
        refine wpAnyH_ready (rs := [8]) (by kernel_rfl) (by simp) ?_
        refine AllReadyH.cons (o := _) rfl (fun K hK => ?_) AllReadyH.nil
        refine step_store_part rfl 43 (.tmp 8) (.tmp 76) rfl (g8) 0 rfl 43 _ HD.out (PL q A' 0 c') rfl info_port (Nat.le_refl 48) rfl (PL q A' 0 c') rfl ?_
        intro WF BF OF
        have HF := OF.bel (show Bel W V2 from hHeld) (by first | exact hg8 | exact Nat.le_refl _)
        refine hK.out _ _ HF (fun hHeld => ?_)
        clear hK K
        try simp only [List.getElem_toArray, List.getElem_cons_zero, List.getElem_cons_succ, Act.put, List.setIfInBounds_toArray, List.set_cons_zero, List.set_cons_succ]
        refine tk1 (i := 9) (v := ?_) rfl (Or.inl ⟨by rfl, ?_⟩) hHeld ?_ (hQ := fun _ _ _ h => hQp _ _ _ _ _ h)
        rotate_left
        · (intro w hSw; clear hSw; go_simp; try with_reducible rfl)
        try simp only [List.getElem_toArray, List.getElem_cons_zero, List.getElem_cons_succ, Act.put, List.setIfInBounds_toArray, List.set_cons_zero, List.set_cons_succ]
        refine tk1 (i := 10) (v := ?_) rfl (Or.inl ⟨by rfl, ?_⟩) hHeld ?_ (hQ := fun _ _ _ h => hQp _ _ _ _ _ h)
        rotate_left
        · (intro w hSw; clear hSw; go_simp; try with_reducible rfl)
        try simp only [List.getElem_toArray, List.getElem_cons_zero, List.getElem_cons_succ, Act.put, List.setIfInBounds_toArray, List.set_cons_zero, List.set_cons_succ]
        refine wpAnyH_done (by kernel_rfl) ?_ _
        exact hq.out WF (g8) KA kc ks A' c' _ _ _ _ _ _ _ (Lib.hid BF) hc2 HK (Lib.hid ((HP.out.onlyN HN.out OF (by first | exact Or.inl HCS.out | exact Or.inr (by rw [HGG.out]; exact Nat.le_refl _))).more (by rw [OF.2]; first | exact Nat.le_refl _ | (have h1 := HD.out.lt; have h2 := HGG.out; omega)))) (Lib.hid HF)
    · go_simp
      have HD : Hid (Blk ((w7).alloc (Obj.cells #[.int .u8 0, .int .u32 0, .int .u16 0, .int .u32 0, .bool false, .int .i64 0, .int .i64 0, .int .i64 0, .bool false, .int .u8 0, .int .u8 0, .int .u32 0, .int .i64 0, .int .i64 0, .int .i64 0, .int .i64 0, .int .i64 0, .bool false, .int .i64 0, .int .i64 0, .int .i64 0, .int .i64 0, .int .i64 0, .int .i64 0, .slice none 0 0, .int .i64 0, .int .i64 0, .int .i64 0, .bool false, .int .i64 0, .int .i64 0, .int .i64 0, .bool false, .int .i64 0, .int .i64 0, .int .i64 0, .int .i64 0, .int .i64 0, .int .i64 0, .int .i64 0, .bool false, .int .u32 0, .int .u8 0, .int .i64 0, .bool false, .int .u32 0, .int .u32 0, .int .u32 0] 43)) (w7).heap.size 43 (PL Sb.Pt.zero none 0 0).toArray) := Lib.hid (by first | exact Blk.new _ _ _ | exact Blk.dr (Blk.new _ _ _))
      have hg8 : W.heap.size ≤ (w7).heap.size := hHeld.size
      obtain ⟨g8, hgg⟩ : ∃ g, g = (w7).heap.size := ⟨_, rfl⟩
      replace HZ := Lib.hid (HZ.out.push (Obj.cells #[.int .u8 0, .int .u32 0, .int .u16 0, .int .u32 0, .bool false, .int .i64 0, .int .i64 0, .int .i64 0, .bool false, .int .u8 0, .int .u8 0, .int .u32 0, .int .i64 0, .int .i64 0, .int .i64 0, .int .i64 0, .int .i64 0, .bool false, .int .i64 0, .int .i64 0, .int .i64 0, .int .i64 0, .int .i64 0, .int .i64 0, .slice none 0 0, .int .i64 0, .int .i64 0, .int .i64 0, .bool false, .int .i64 0, .int .i64 0, .int .i64 0, .bool false, .int .i64 0, .int .i64 0, .int .i64 0, .int .i64 0, .int .i64 0, .int .i64 0, .int .i64 0, .bool false, .int .u32 0, .int .u8 0, .int .i64 0, .bool false, .int .u32 0, .int .u32 0, .int .u32 0] 43))
      refine hK.out _ _ ?_ (fun hHeld => ?_)
      · exact below_new_old hHeld _
      clear hK K
      try simp only [List.getElem_toArray, List.getElem_cons_zero, List.getElem_cons_succ, Act.put, List.setIfInBounds_toArray, List.set_cons_zero, List.set_cons_succ]
      obtain ⟨V1, hV⟩ : ∃ V, V = (w7).alloc (Obj.cells #[.int .u8 0, .int .u32 0, .int .u16 0, .int .u32 0, .bool false, .int .i64 0, .int .i64 0, .int .i64 0, .bool false, .int .u8 0, .int .u8 0, .int .u32 0, .int .i64 0, .int .i64 0, .int .i64 0, .int .i64 0, .int .i64 0, .bool false, .int .i64 0, .int .i64 0, .int .i64 0, .int .i64 0, .int .i64 0, .int .i64 0, .slice none 0 0, .int .i64 0, .int .i64 0, .int .i64 0, .bool false, .int .i64 0, .int .i64 0, .int .i64 0, .bool false, .int .i64 0, .int .i64 0, .int .i64 0, .int .i64 0, .int .i64 0, .int .i64 0, .int .i64 0, .bool false, .int .u32 0, .int .u8 0, .int .i64 0, .bool false, .int .u32 0, .int .u32 0, .int .u32 0] 43) := ⟨_, rfl⟩
      rw [← hV] at HD hHeld HZ ⊢
      clear hV
      rw [← hgg] at HD hg8 ⊢
      have HGG := Lib.hid hgg
      clear hgg
      refine wpAnyH_ready (rs := [2]) (by kernel_rfl) (by simp) ?_
      refine AllReadyH.cons (o := _) rfl (fun K hK => ?_) AllReadyH.nil
      · go_simp
        have hgd := HD.out.lt
        refine (kS.out _ ZA zc HZ.out).mono ?_
        rintro e w9 ⟨A', n', c', l', KA, kc, ks, he, hk, hq1, hn, hc1, hc2, hW, hP, hb2, hN⟩
        have hkl : ks.length = pks.length := by have hl := congrArg List.length hk; simpa using hl
        rw [hkl] at he
        subst he
        obtain rfl : l' = [] := List.map_eq_nil_iff.1 (hq1.trans hj)
        obtain rfl : 0 = n' := hn
        have HN := Lib.hid hN
        have HP := Lib.hid hP
        have HK := Lib.hid hk
        clear hk hkl hq1 hc1 hW hP hN HZ
        replace HD := Lib.hid (HD.out.later hb2)
        have HCS := Lib.hid hgd
        clear hgd
        refine hK.out _ _ ?_ (fun hHeld => ?_)
        · exact below_old' hb2 hHeld
        clear hK K hb2
        try simp only [List.getElem_toArray, List.getElem_cons_zero, List.getElem_cons_succ, Act.put, List.setIfInBounds_toArray, List.set_cons_zero, List.set_cons_succ]
        refine tk1 (i := 3) (v := ?_) rfl (Or.inl ⟨by rfl, ?_⟩) hHeld ?_ (hQ := fun _ _ _ h => hQp _ _ _ _ _ h)
        rotate_left
        · (intro w hSw; clear hSw; go_simp; try with_reducible rfl)
        try simp only [List.getElem_toArray, List.getElem_cons_zero, List.getElem_cons_succ, Act.put, List.setIfInBounds_toArray, List.set_cons_zero, List.set_cons_succ]
        refine tk1 (i := 4) (v := ?_) rfl (Or.inl ⟨by rfl, ?_⟩) hHeld ?_ (hQ := fun _ _ _ h => hQp _ _ _ _ _ h)
        rotate_left
        · (intro w hSw; clear hSw; go_simp; try with_reducible rfl)
        try simp only [List.getElem_toArray, List.getElem_cons_zero, List.getElem_cons_succ, Act.put, List.setIfInBounds_toArray, List.set_cons_zero, List.set_cons_succ]
        refine tk1 (i := 5) (v := ?_) rfl (Or.inl ⟨by rfl, ?_⟩) hHeld ?_ (hQ := fun _ _ _ h => hQp _ _ _ _ _ h)
        rotate_left
        · (intro w hSw; clear hSw; go_simp; try with_reducible rfl)
        try simp only [List.getElem_toArray, List.getElem_cons_zero, List.getElem_cons_succ, Act.put, List.setIfInBounds_toArray, List.set_cons_zero, List.set_cons_succ]
        refine tk1 (i := 6) (v := ?_) rfl (Or.inl ⟨by rfl, ?_⟩) hHeld ?_ (hQ := fun _ _ _ h => hQp _ _ _ _ _ h)
        rotate_left
        · (intro w hSw; clear hSw; go_simp; try with_reducible rfl)
        try simp only [List.getElem_toArray, List.getElem_cons_zero, List.getElem_cons_succ, Act.put, List.setIfInBounds_toArray, List.set_cons_zero, List.set_cons_succ]
        refine wpAnyH_ready (rs := [8]) (by kernel_rfl) (by simp) ?_
        refine AllReadyH.cons (o := _) rfl (fun K hK => ?_) AllReadyH.nil
        refine step_store_part rfl 43 (.tmp 8) (.tmp 76) rfl (g8) 0 rfl 43 _ HD.out (PL q A' 0 c') rfl info_port (Nat.le_refl 48) rfl (PL q A' 0 c') rfl ?_
        intro WF BF OF
        have HF := OF.bel (show Bel W w9 from hHeld) (by first | exact hg8 | exact Nat.le_refl _)
        refine hK.out _ _ HF (fun hHeld => ?_)
        clear hK K
        try simp only [List.getElem_toArray, List.getElem_cons_zero, List.getElem_cons_succ, Act.put, List.setIfInBounds_toArray, List.set_cons_zero, List.set_cons_succ]
        refine tk1 (i := 9) (v := ?_) rfl (Or.inl ⟨by rfl, ?_⟩) hHeld ?_ (hQ := fun _ _ _ h => hQp _ _ _ _ _ h)
        rotate_left
        · (intro w hSw; clear hSw; go_simp; try with_reducible rfl)
        try simp only [List.getElem_toArray, List.getElem_cons_zero, List.getElem_cons_succ, Act.put, List.setIfInBounds_toArray, List.set_cons_zero, List.set_cons_succ]
        refine tk1 (i := 10) (v := ?_) rfl (Or.inl ⟨by rfl, ?_⟩) hHeld ?_ (hQ := fun _ _ _ h => hQp _ _ _ _ _ h)
        rotate_left
        · (intro w hSw; clear hSw; go_simp; try with_reducible rfl)
        try simp only [List.getElem_toArray, List.getElem_cons_zero, List.getElem_cons_succ, Act.put, List.setIfInBounds_toArray, List.set_cons_zero, List.set_cons_succ]
        refine wpAnyH_done (by kernel_rfl) ?_ _
        exact hq.out WF (g8) KA kc ks A' c' _ _ _ _ _ _ _ (Lib.hid BF) hc2 HK (Lib.hid ((HP.out.onlyN HN.out OF (by first | exact Or.inl HCS.out | exact Or.inr (by rw [HGG.out]; exact Nat.le_refl _))).more (by rw [OF.2]; first | exact Nat.le_refl _ | (have h1 := HD.out.lt; have h2 := HGG.out; omega)))) (Lib.hid HF)
  · go_simp
    have HD : Hid (Blk ((W.alloc (Obj.cells #[.int .u8 0, .int .u32 0, .int .u16 0, .int .u32 0, .bool false, .int .i64 0, .int .i64 0, .int .i64 0, .bool false, .int .u8 0, .int .u8 0, .int .u32 0, .int .i64 0, .int .i64 0, .int .i64 0, .int .i64 0, .int .i64 0, .bool false, .int .i64 0, .int .i64 0, .int .i64 0, .int .i64 0, .int .i64 0, .int .i64 0, .slice none 0 0, .int .i64 0, .int .i64 0, .int .i64 0, .bool false, .int .i64 0, .int .i64 0, .int .i64 0, .bool false, .int .i64 0, .int .i64 0, .int .i64 0, .int .i64 0, .int .i64 0, .int .i64 0, .int .i64 0, .bool false, .int .u32 0, .int .u8 0, .int .i64 0, .bool false, .int .u32 0, .int .u32 0, .int .u32 0] 43)).drew) (W).heap.size 43 (PL Sb.Pt.zero none 0 0).toArray) := Lib.hid (by first | exact Blk.new _ _ _ | exact Blk.dr (Blk.new _ _ _))
    have hg8 : W.heap.size ≤ (W).heap.size := hHeld.size
    obtain ⟨g8, hgg⟩ : ∃ g, g = (W).heap.size := ⟨_, rfl⟩
    refine hK.out _ _ ?_ (fun hHeld => ?_)
    · exact Below.drew (below_new_old (Below.refl _ _) _)
    clear hK K
    try simp only [List.getElem_toArray, List.getElem_cons_zero, List.getElem_cons_succ, Act.put, List.setIfInBounds_toArray, List.set_cons_zero, List.set_cons_succ]
    obtain ⟨V0, hV⟩ : ∃ V, V = (W.alloc (Obj.cells #[.int .u8 0, .int .u32 0, .int .u16 0, .int .u32 0, .bool false, .int .i64 0, .int .i64 0, .int .i64 0, .bool false, .int .u8 0, .int .u8 0, .int .u32 0, .int .i64 0, .int .i64 0, .int .i64 0, .int .i64 0, .int .i64 0, .bool false, .int .i64 0, .int .i64 0, .int .i64 0, .int .i64 0, .int .i64 0, .int .i64 0, .slice none 0 0, .int .i64 0, .int .i64 0, .int .i64 0, .bool false, .int .i64 0, .int .i64 0, .int .i64 0, .bool false, .int .i64 0, .int .i64 0, .int .i64 0, .int .i64 0, .int .i64 0, .int .i64 0, .int .i64 0, .bool false, .int .u32 0, .int .u8 0, .int .i64 0, .bool false, .int .u32 0, .int .u32 0, .int .u32 0] 43)).drew := ⟨_, rfl⟩
    rw [← hV] at HD hHeld ⊢
    clear hV
    subst hgg
    refine wpAnyH_ready (rs := [1]) (by kernel_rfl) (by simp) ?_
    refine AllReadyH.cons (o := _) rfl (fun K hK => ?_) AllReadyH.nil
    · go_simp
      have hgd := HD.out.lt
      refine (flat_any 0 _).mono ?_
      rintro e w7 ⟨ZA, zc, rfl, hI, hb1⟩
      replace HD := Lib.hid (HD.out.later hb1)
      clear hgd
      have HZ := Lib.hid hI.1
      clear hI
      refine hK.out _ _ ?_ (fun hHeld => ?_)
      · exact below_old' hb1 hHeld
      clear hK K hb1
      try simp only [List.getElem_toArray, List.getElem_cons_zero, List.getElem_cons_succ, Act.put, List.setIfInBounds_toArray, List.set_cons_zero, List.set_cons_succ]
      refine wpAnyH_ready (rs := [2]) (by kernel_rfl) (by simp) ?_
      refine AllReadyH.cons (o := _) rfl (fun K hK => ?_) AllReadyH.nil
      · go_simp
        have hgd := HD.out.lt
        refine (kS.out _ ZA zc HZ.out).mono ?_
        rintro e w9 ⟨A', n', c', l', KA, kc, ks, he, hk, hq1, hn, hc1, hc2, hW, hP, hb2, hN⟩
        have hkl : ks.length = pks.length := by have hl := congrArg List.length hk; simpa using hl
        rw [hkl] at he
        subst he
        obtain rfl : l' = [] := List.map_eq_nil_iff.1 (hq1.trans hj)
        obtain rfl : 0 = n' := hn
        have HN := Lib.hid hN
        have HP := Lib.hid hP
        have HK := Lib.hid hk
        clear hk hkl hq1 hc1 hW hP hN HZ
        replace HD := Lib.hid (HD.out.later hb2)
        have HCS := Lib.hid hgd
        clear hgd
        refine hK.out _ _ ?_ (fun hHeld => ?_)
        · exact below_old' hb2 hHeld
        clear hK K hb2
        try simp only [List.getElem_toArray, List.getElem_cons_zero, List.getElem_cons_succ, Act.put, List.setIfInBounds_toArray, List.set_cons_zero, List.set_cons_succ]
        refine tk1 (i := 3) (v := ?_) rfl (Or.inl ⟨by rfl, ?_⟩) hHeld ?_ (hQ := fun _ _ _ h => hQp _ _ _ _ _ h)
        rotate_left
        · (intro w hSw; clear hSw; go_simp; try with_reducible rfl)
        try simp only [List.getElem_toArray, List.getElem_cons_zero, List.getElem_cons_succ, Act.put, List.setIfInBounds_toArray, List.set_cons_zero, List.set_cons_succ]
        refine tk1 (i := 4) (v := ?_) rfl (Or.inl ⟨by rfl, ?_⟩) hHeld ?_ (hQ := fun _ _ _ h => hQp _ _ _ _ _ h)
        rotate_left
        · (intro w hSw; clear hSw; go_simp; try with_reducible rfl)
        try simp only [List.getElem_toArray, List.getElem_cons_zero, List.getElem_cons_succ, Act.put, List.setIfInBounds_toArray, List.set_cons_zero, List.set_cons_succ]
        refine tk1 (i := 5) (v := ?_) rfl (Or.inl ⟨by rfl, ?_⟩) hHeld ?_ (hQ := fun _ _ _ h => hQp _ _ _ _ _ h)
        rotate_left
        · (intro w hSw; clear hSw; go_simp; try with_reducible rfl)
        try simp only [List.getElem_toArray, List.getElem_cons_zero, List.getElem_cons_succ, Act.put, List.setIfInBounds_toArray, List.set_cons_zero, List.set_cons_succ]
        refine tk1 (i := 6) (v := ?_) rfl (Or.inl ⟨by rfl, ?_⟩) hHeld ?_ (hQ := fun _ _ _ h => hQp _ _ _ _ _ h)
        rotate_left
        · (intro w hSw; clear hSw; go_simp; try with_reducible rfl)
        try simp only [List.getElem_toArray, List.getElem_cons_zero, List.getElem_cons_succ, Act.put, List.setIfInBounds_toArray, List.set_cons_zero, List.set_cons_succ]
        refine wpAnyH_ready (rs := [8]) (by kernel_rfl) (by simp) ?_
        refine AllReadyH.cons (o := _) rfl (fun K hK => ?_) AllReadyH.nil
        refine step_store_part rfl 43 (.tmp 8) (.tmp 76) rfl (W.heap.size) 0 rfl 43 _ HD.out (PL q A' 0 c') rfl info_port (Nat.le_refl 48) rfl (PL q A' 0 c') rfl ?_
        intro WF BF OF
        have HF := OF.bel (show Bel W w9 from hHeld) (by first | exact hg8 | exact Nat.le_refl _)
        refine hK.out _ _ HF (fun hHeld => ?_)
        clear hK K
        try simp only [List.getElem_toArray, List.getElem_cons_zero, List.getElem_cons_succ, Act.put, List.setIfInBounds_toArray, List.set_cons_zero, List.set_cons_succ]
        refine tk1 (i := 9) (v := ?_) rfl (Or.inl ⟨by rfl, ?_⟩) hHeld ?_ (hQ := fun _ _ _ h => hQp _ _ _ _ _ h)
        rotate_left
        · (intro w hSw; clear hSw; go_simp; try with_reducible rfl)
        try simp only [List.getElem_toArray, List.getElem_cons_zero, List.getElem_cons_succ, Act.put, List.setIfInBounds_toArray, List.set_cons_zero, List.set_cons_succ]
        refine tk1 (i := 10) (v := ?_) rfl (Or.inl ⟨by rfl, ?_⟩) hHeld ?_ (hQ := fun _ _ _ h => hQp _ _ _ _ _ h)
        rotate_left
        · (intro w hSw; clear hSw; go_simp; try with_reducible rfl)
        try simp only [List.getElem_toArray, List.getElem_cons_zero, List.getElem_cons_succ, Act.put, List.setIfInBounds_toArray, List.set_cons_zero, List.set_cons_succ]
        refine wpAnyH_done (by kernel_rfl) ?_ _
        exact hq.out WF (W.heap.size) KA kc ks A' c' _ _ _ _ _ _ _ (Lib.hid BF) hc2 HK (Lib.hid ((HP.out.onlyN HN.out OF (by first | exact Or.inl HCS.out | exact Or.inr (by rw [HGG.out]; exact Nat.le_refl _))).more (by rw [OF.2]; first | exact Nat.le_refl _ | (have h1 := HD.out.lt; have h2 := HGG.out; omega)))) (Lib.hid HF)
end Go.Proofs.Ytahbecinkciahaa
/- Layer 27: what the reference's Pack, Unpack and Same return, and Pack and Unpack where they refuse. -/
namespace Go.Proofs.Ytahbecinkciahaa
open Go.RowKit
set_option linter.unusedVariables false

theorem Pack_no (n : Int) (A : Option Addr) (len cap : Nat) (w : World) (h1 : (n == 1) = false) (h2 : (n == 2) = false) :
    Calls Try.prog 68 #[.int .u8 n, .slice A len cap] w fun e w' => e = .returned (.tuple #[.slice none 0 0, .int .u8 2]) ∧ w = w' := by
  go_enter Try.func68, Try.ntmps68
  go_wp2_with (go_at_call 87; refine (find_no _ _ h1 h2).mono ?_; rintro e w' ⟨rfl, rfl⟩)
  go_ret2
  exact ⟨rfl, rfl⟩
theorem cPack_long (n : Int) (A : Option Addr) (len cap : Nat) (w : World) (hn : n = 1 ∨ n = 2) (h : 8000 < (len : Int)) :
    Calls Try.prog 68 #[.int .u8 n, .slice A len cap] w fun e w' => e = .returned (.tuple #[.slice none 0 0, .int .u8 4]) ∧ w = w' := by
  rcases hn with rfl | rfl
  · go_enter Try.func68, Try.ntmps68
    go_wp2_with (go_at_call 87; refine (find_mu _).mono ?_; rintro e w' ⟨rfl, rfl⟩)
    go_ret2
    exact ⟨rfl, rfl⟩
  · go_enter Try.func68, Try.ntmps68
    go_wp2_with (go_at_call 87; refine (find_a _).mono ?_; rintro e w' ⟨rfl, rfl⟩)
    go_ret2
    exact ⟨rfl, rfl⟩
theorem Unpack_no (n : Int) (A : Option Addr) (len cap : Nat) (w : World) (h1 : (n == 1) = false) (h2 : (n == 2) = false) :
    Calls Try.prog 70 #[.int .u8 n, .slice A len cap] w fun e w' => e = .returned (.tuple #[.slice none 0 0, .int .u8 2]) ∧ w = w' := by
  go_enter Try.func70, Try.ntmps70
  go_wp2_with (go_at_call 87; refine (find_no _ _ h1 h2).mono ?_; rintro e w' ⟨rfl, rfl⟩)
  go_ret2
  exact ⟨rfl, rfl⟩
theorem Unpack_long (n : Int) (A : Option Addr) (len cap : Nat) (w : World) (hn : n = 1 ∨ n = 2) (h : 8000 < (len : Int)) :
    Calls Try.prog 70 #[.int .u8 n, .slice A len cap] w fun e w' => e = .returned (.tuple #[.slice none 0 0, .int .u8 4]) ∧ w = w' := by
  rcases hn with rfl | rfl
  · go_enter Try.func70, Try.ntmps70
    go_wp2_with (go_at_call 87; refine (find_mu _).mono ?_; rintro e w' ⟨rfl, rfl⟩)
    go_ret2
    exact ⟨rfl, rfl⟩
  · go_enter Try.func70, Try.ntmps70
    go_wp2_with (go_at_call 87; refine (find_a _).mono ?_; rintro e w' ⟨rfl, rfl⟩)
    go_ret2
    exact ⟨rfl, rfl⟩
theorem take_map_succ (f : Int → Int) (zs : List Int) (k : Nat) (h : k < zs.length) : (zs.take (k + 1)).map f = (zs.take k).map f ++ [f (zs.getD k 0)] := by
  rw [List.take_succ_eq_append_getElem h, List.map_append, List.getD_eq_getElem?_getD, List.getElem?_eq_getElem h]
  rfl

theorem FromMu_z (x : Int) (w : World) (h0 : 0 ≤ x) (h1 : x ≤ 255) :
    Calls Try.prog 111 #[.int .u8 x] w fun e w' => e = .returned (.int .i16 (Cmp.fromMuZ x)) ∧ w = w' := by
  obtain ⟨n, rfl⟩ := Int.eq_ofNat_of_zero_le h0
  exact FromMu_any n w (by omega)
theorem FromA_z (x : Int) (w : World) (h0 : 0 ≤ x) (h1 : x ≤ 255) :
    Calls Try.prog 116 #[.int .u8 x] w fun e w' => e = .returned (.int .i16 (Cmp.fromAZ x)) ∧ w = w' := by
  obtain ⟨n, rfl⟩ := Int.eq_ofNat_of_zero_le h0
  exact FromA_any n w (by omega)
end Go.Proofs.Ytahbecinkciahaa
/- Layer 27: the reference's Same, Exponent and size, MuToA and AToMu, and the examples (lives). -/
namespace Go.Proofs.Ytahbecinkciahaa
open Go.RowKit
set_option linter.unusedVariables false

set_option maxRecDepth 100000 in
set_option maxHeartbeats 400000 in
theorem same27 (A B : Option Addr) (zs : List Int) (c d : Nat) (w : World) (hA : IntsAt w w.heap.size .i16 A zs) (hB : IntsAt w w.heap.size .i16 B zs) (h63 : zs.length ≤ 140737488355328) :
    Calls Try.prog 46 #[.slice A zs.length c, .slice B zs.length d] w fun e w' => e = .returned (.bool true) ∧ Below w.heap.size w w' := by
  go_enter Try.func46, Try.ntmps46
  go_wp2
  go_loopw [5] (fun i wr => ∃ k : Nat, k ≤ zs.length ∧ i = .int .i64 k ∧ Below w.heap.size w wr) (fun i _ => zs.length - (intOf i).toNat)
  case atStart => exact ⟨0, Nat.zero_le _, rfl, Below.refl _ _⟩
  case round =>
    obtain ⟨k, hk, rfl, hb⟩ := hrel
    by_cases hlt : k < zs.length
    · obtain ⟨b, off, rfl, hbB, hcell⟩ := hA (by omega)
      obtain ⟨b2, off2, rfl, hbB2, hcell2⟩ := hB (by omega)
      have hck : wr.cell? ⟨b, off + k, none⟩ = some (.int .i16 (zs.getD k 0)) := (hb.cell (p := ⟨b, off + k, none⟩) hbB).trans (hcell k hlt)
      have hck2 : wr.cell? ⟨b2, off2 + k, none⟩ = some (.int .i16 (zs.getD k 0)) := (hb.cell (p := ⟨b2, off2 + k, none⟩) hbB2).trans (hcell2 k hlt)
      clear hcell hcell2
      generalize zs.getD k 0 = z at hck hck2
      have hi0 : (0 : Int) ≤ (k : Int) := by omega
      have hi1 : (k : Int) < (zs.length : Int) := by omega
      go_wp2
      go_quiet (fail)
      go_wp2
      go_roundw
      case rel => exact ⟨k + 1, by omega, by go_num, below_drewN hb _⟩
      case measure => simp [intOf]; omega
    · go_wp2
      go_ret
      exact ⟨rfl, hb⟩
/-- the e of a sample's code -/
def expMu (x : Int) : Int := ((Cmp.expo (Cmp.magMu x) : Nat) : Int)
def expA (x : Int) : Int := ((Cmp.expo (Cmp.magA x) : Nat) : Int)
theorem expMu_bd (x : Int) : 0 ≤ expMu x ∧ expMu x ≤ 7 := by have := Cmp.expo_le (Cmp.magMu x); unfold expMu; omega
theorem expA_bd (x : Int) : 0 ≤ expA x ∧ expA x ≤ 7 := by have := Cmp.expo_le (Cmp.magA x); unfold expA; omega
theorem expMu_eq (x : Int) : (255 - (Cmp.mu x : Int)) / 16 % 8 = expMu x := by
  have h7 := Cmp.expo_le (Cmp.magMu x)
  unfold expMu Cmp.mu Cmp.muRaw
  have h16 : Cmp.magMu x / 2 ^ (Cmp.expo (Cmp.magMu x) + 3) % 16 < 16 := Nat.mod_lt _ (by omega)
  generalize Cmp.magMu x / 2 ^ (Cmp.expo (Cmp.magMu x) + 3) % 16 = q at h16 ⊢
  split <;> omega
theorem xor_xor (c : Nat) : c ^^^ 85 ^^^ 85 = c := by rw [Nat.xor_assoc, Nat.xor_self, Nat.xor_zero]
theorem expA_eq (x : Int) : bits .xor .u8 (Cmp.aCode x : Int) 85 / 16 % 8 = expA x := by
  rw [Cmp.xor_u8 _ (Cmp.aCode_lt x)]
  unfold Cmp.aCode
  rw [xor_xor]
  have h7 := Cmp.expo_le (Cmp.magA x)
  unfold expA Cmp.aRaw
  have h16 : Cmp.magA x / 2 ^ (if Cmp.expo (Cmp.magA x) = 0 then 4 else Cmp.expo (Cmp.magA x) + 3) % 16 < 16 := Nat.mod_lt _ (by omega)
  generalize Cmp.magA x / 2 ^ (if Cmp.expo (Cmp.magA x) = 0 then 4 else Cmp.expo (Cmp.magA x) + 3) % 16 = q at h16 ⊢
  split <;> omega
theorem kn_mu1000 : Cmp.mu 1000 = 206 := by decide +kernel
theorem kn_fromMu206 : Cmp.fromMu 206 = 988 := by decide +kernel
theorem kn_a1000 : Cmp.aCode 1000 = 250 := by decide +kernel
theorem kn_fromA250 : Cmp.fromA 250 = 1008 := by decide +kernel
/-- what Pack and Unpack return, whatever the law and the slice -/
def packOut (n : Int) (zs : List Int) : List Int := if n = 1 ∧ zs.length ≤ 8000 then zs.map Cmp.muZ else if n = 2 ∧ zs.length ≤ 8000 then zs.map Cmp.aZ else []
def unpackOut (n : Int) (zs : List Int) : List Int := if n = 1 ∧ zs.length ≤ 8000 then zs.map Cmp.fromMuZ else if n = 2 ∧ zs.length ≤ 8000 then zs.map Cmp.fromAZ else []
def packErr (n : Int) (len : Nat) : Int := if n ≠ 1 ∧ n ≠ 2 then 2 else if 8000 < len then 4 else 0
theorem packOut_len (n : Int) (zs : List Int) : (packOut n zs).length ≤ 8000 := by
  unfold packOut; (repeat' split) <;> simp_all
theorem unpackOut_len (n : Int) (zs : List Int) : (unpackOut n zs).length ≤ 8000 := by
  unfold unpackOut; (repeat' split) <;> simp_all
theorem muZ_bd (x : Int) : 0 ≤ Cmp.muZ x ∧ Cmp.muZ x ≤ 255 := by have := Cmp.mu_lt x; unfold Cmp.muZ; omega
theorem aZ_bd (x : Int) : 0 ≤ Cmp.aZ x ∧ Cmp.aZ x ≤ 255 := by have := Cmp.aCode_lt x; unfold Cmp.aZ; omega
theorem fromMuZ_bd (x : Int) (h0 : 0 ≤ x) (h1 : x ≤ 255) : -32768 ≤ Cmp.fromMuZ x ∧ Cmp.fromMuZ x ≤ 32767 := by have := Cmp.fromMu_bd x.toNat (by omega); unfold Cmp.fromMuZ; omega
theorem fromAZ_bd (x : Int) (h0 : 0 ≤ x) (h1 : x ≤ 255) : -32768 ≤ Cmp.fromAZ x ∧ Cmp.fromAZ x ≤ 32767 := by have := Cmp.fromA_bd x.toNat (by omega); unfold Cmp.fromAZ; omega
theorem within_map {lo hi lo' hi' : Int} {f : Int → Int} {zs : List Int} (h : Within lo hi zs) (hf : ∀ x, lo ≤ x → x ≤ hi → lo' ≤ f x ∧ f x ≤ hi') : Within lo' hi' (zs.map f) := fun z hz => by
  obtain ⟨x, hx, rfl⟩ := List.mem_map.1 hz
  exact hf x (h x hx).1 (h x hx).2
theorem packOut_in (n : Int) (zs : List Int) : Within 0 255 (packOut n zs) := by
  unfold packOut
  split
  · exact fun z hz => by obtain ⟨x, _, rfl⟩ := List.mem_map.1 hz; exact muZ_bd x
  · split
    · exact fun z hz => by obtain ⟨x, _, rfl⟩ := List.mem_map.1 hz; exact aZ_bd x
    · exact Within.nil _ _
theorem unpackOut_in (n : Int) (zs : List Int) (h : Within 0 255 zs) : Within (-32768) 32767 (unpackOut n zs) := by
  unfold unpackOut
  split
  · exact within_map h fromMuZ_bd
  · split
    · exact within_map h fromAZ_bd
    · exact Within.nil _ _
theorem neq_bools (n : Int) (h1 : n ≠ 1) (h2 : n ≠ 2) : (n == 1) = false ∧ (n == 2) = false ∧ (n != 1) = true ∧ (n != 2) = true := by simp [h1, h2]

theorem Pack_all (n : Int) (A : Option Addr) (zs : List Int) (cap : Nat) (w : World) (hA : IntsAt w w.heap.size .i16 A zs) (hz : Within (-32768) 32767 zs) :
    Calls Try.prog 68 #[.int .u8 n, .slice A zs.length cap] w fun e w' => ∃ (A' : Option Addr) (c' : Nat), e = .returned (.tuple #[.slice A' (packOut n zs).length c', .int .u8 (packErr n zs.length)]) ∧
      IntsAt w' w'.heap.size .u8 A' (packOut n zs) ∧ Below w.heap.size w w' := by
  by_cases h1 : n = 1
  · subst h1
    by_cases h8 : zs.length ≤ 8000
    · refine (Pack_mu A zs cap w hA hz h8).mono ?_
      rintro e w' ⟨A', rfl, h, hb⟩
      have e1 : packOut 1 zs = zs.map Cmp.muZ := by unfold packOut; rw [if_pos ⟨rfl, h8⟩]
      have e2 : packErr 1 zs.length = 0 := by unfold packErr; rw [if_neg (by simp), if_neg (by omega)]
      rw [e1, e2, List.length_map]
      exact ⟨A', zs.length, rfl, h, hb⟩
    · refine (cPack_long 1 A zs.length cap w (.inl rfl) (by omega)).mono ?_
      rintro e w' ⟨rfl, rfl⟩
      have e1 : packOut 1 zs = [] := by unfold packOut; rw [if_neg (by omega), if_neg (by omega)]
      have e2 : packErr 1 zs.length = 4 := by unfold packErr; rw [if_neg (by simp), if_pos (by omega)]
      rw [e1, e2]
      exact ⟨none, 0, rfl, IntsAt.nil, Below.refl _ _⟩
  · by_cases h2 : n = 2
    · subst h2
      by_cases h8 : zs.length ≤ 8000
      · refine (Pack_a A zs cap w hA hz h8).mono ?_
        rintro e w' ⟨A', rfl, h, hb⟩
        have e1 : packOut 2 zs = zs.map Cmp.aZ := by unfold packOut; rw [if_neg (by omega), if_pos ⟨rfl, h8⟩]
        have e2 : packErr 2 zs.length = 0 := by unfold packErr; rw [if_neg (by simp), if_neg (by omega)]
        rw [e1, e2, List.length_map]
        exact ⟨A', zs.length, rfl, h, hb⟩
      · refine (cPack_long 2 A zs.length cap w (.inr rfl) (by omega)).mono ?_
        rintro e w' ⟨rfl, rfl⟩
        have e1 : packOut 2 zs = [] := by unfold packOut; rw [if_neg (by omega), if_neg (by omega)]
        have e2 : packErr 2 zs.length = 4 := by unfold packErr; rw [if_neg (by simp), if_pos (by omega)]
        rw [e1, e2]
        exact ⟨none, 0, rfl, IntsAt.nil, Below.refl _ _⟩
    · obtain ⟨hn1, hn2, hn3, hn4⟩ := neq_bools n h1 h2
      refine (Pack_no n A zs.length cap w hn1 hn2).mono ?_
      rintro e w' ⟨rfl, rfl⟩
      have e1 : packOut n zs = [] := by unfold packOut; rw [if_neg (by omega), if_neg (by omega)]
      have e2 : packErr n zs.length = 2 := by unfold packErr; rw [if_pos ⟨h1, h2⟩]
      rw [e1, e2]
      exact ⟨none, 0, rfl, IntsAt.nil, Below.refl _ _⟩

theorem Unpack_all (n : Int) (A : Option Addr) (zs : List Int) (cap : Nat) (w : World) (hA : IntsAt w w.heap.size .u8 A zs) (hz : Within (0) 255 zs) :
    Calls Try.prog 70 #[.int .u8 n, .slice A zs.length cap] w fun e w' => ∃ (A' : Option Addr) (c' : Nat), e = .returned (.tuple #[.slice A' (unpackOut n zs).length c', .int .u8 (packErr n zs.length)]) ∧
      IntsAt w' w'.heap.size .i16 A' (unpackOut n zs) ∧ Below w.heap.size w w' := by
  by_cases h1 : n = 1
  · subst h1
    by_cases h8 : zs.length ≤ 8000
    · refine (Unpack_mu A zs cap w hA hz h8).mono ?_
      rintro e w' ⟨A', rfl, h, hb⟩
      have e1 : unpackOut 1 zs = zs.map Cmp.fromMuZ := by unfold unpackOut; rw [if_pos ⟨rfl, h8⟩]
      have e2 : packErr 1 zs.length = 0 := by unfold packErr; rw [if_neg (by simp), if_neg (by omega)]
      rw [e1, e2, List.length_map]
      exact ⟨A', zs.length, rfl, h, hb⟩
    · refine (Unpack_long 1 A zs.length cap w (.inl rfl) (by omega)).mono ?_
      rintro e w' ⟨rfl, rfl⟩
      have e1 : unpackOut 1 zs = [] := by unfold unpackOut; rw [if_neg (by omega), if_neg (by omega)]
      have e2 : packErr 1 zs.length = 4 := by unfold packErr; rw [if_neg (by simp), if_pos (by omega)]
      rw [e1, e2]
      exact ⟨none, 0, rfl, IntsAt.nil, Below.refl _ _⟩
  · by_cases h2 : n = 2
    · subst h2
      by_cases h8 : zs.length ≤ 8000
      · refine (Unpack_a A zs cap w hA hz h8).mono ?_
        rintro e w' ⟨A', rfl, h, hb⟩
        have e1 : unpackOut 2 zs = zs.map Cmp.fromAZ := by unfold unpackOut; rw [if_neg (by omega), if_pos ⟨rfl, h8⟩]
        have e2 : packErr 2 zs.length = 0 := by unfold packErr; rw [if_neg (by simp), if_neg (by omega)]
        rw [e1, e2, List.length_map]
        exact ⟨A', zs.length, rfl, h, hb⟩
      · refine (Unpack_long 2 A zs.length cap w (.inr rfl) (by omega)).mono ?_
        rintro e w' ⟨rfl, rfl⟩
        have e1 : unpackOut 2 zs = [] := by unfold unpackOut; rw [if_neg (by omega), if_neg (by omega)]
        have e2 : packErr 2 zs.length = 4 := by unfold packErr; rw [if_neg (by simp), if_pos (by omega)]
        rw [e1, e2]
        exact ⟨none, 0, rfl, IntsAt.nil, Below.refl _ _⟩
    · obtain ⟨hn1, hn2, hn3, hn4⟩ := neq_bools n h1 h2
      refine (Unpack_no n A zs.length cap w hn1 hn2).mono ?_
      rintro e w' ⟨rfl, rfl⟩
      have e1 : unpackOut n zs = [] := by unfold unpackOut; rw [if_neg (by omega), if_neg (by omega)]
      have e2 : packErr n zs.length = 2 := by unfold packErr; rw [if_pos ⟨h1, h2⟩]
      rw [e1, e2]
      exact ⟨none, 0, rfl, IntsAt.nil, Below.refl _ _⟩

end Go.Proofs.Ytahbecinkciahaa
/- Layer 32, Transcode in plain words; no program in sight. -/
namespace Go.Proofs.Ytahbecinkciahaa.Sb
open Go.RowKit
set_option linter.unusedVariables false
/-- the samples of a payload, and the error -/
def decE (c : Int) (bs : List Int) (n : Int) : List Int × Int :=
  if c = 0 then (bs.map Cmp.fromMuZ, 0) else if c = 8 then (bs.map Cmp.fromAZ, 0) else ((Dlt.unpR bs n).1, (Dlt.unpR bs n).2.2.2)
/-- the bytes of samples, the coder behind them, and the error -/
def encE (c v i : Int) (zs : List Int) : List Int × (Int × Int) × Int :=
  if c = 0 then (zs.map Cmp.muZ, (v, i), 0) else if c = 8 then (zs.map Cmp.aZ, (v, i), 0) else ((Dlt.packR v i zs).1, ((Dlt.packR v i zs).2.1, (Dlt.packR v i zs).2.2.1), (Dlt.packR v i zs).2.2.2)
def tran (a b : Int) (bs : List Int) (v i : Int) : List Int × (Int × Int) × Int :=
  if speechB a = false ∨ speechB b = false then ([], (0, 0), 15) else if a = 96 ∧ bs.length < 4 then ([], (0, 0), 6) else
    if (decE a bs (2 * ((bs.length : Int) - 4))).2 ≠ 0 then ([], (0, 0), (decE a bs (2 * ((bs.length : Int) - 4))).2) else
      if (encE b v i (decE a bs (2 * ((bs.length : Int) - 4))).1).2.2 ≠ 0 then ([], (0, 0), (encE b v i (decE a bs (2 * ((bs.length : Int) - 4))).1).2.2) else encE b v i (decE a bs (2 * ((bs.length : Int) - 4))).1
theorem tran_a (bs : List Int) (v i : Int) (hz : Within 0 255 bs) : tran 8 8 bs v i = (bs, (v, i), 0) := by
  have e : (bs.map Cmp.fromAZ).map Cmp.aZ = bs := by
    rw [List.map_map]
    have h : ∀ z ∈ bs, (Cmp.aZ ∘ Cmp.fromAZ) z = z := fun z hz' => by
      obtain ⟨h0, h1⟩ := hz z hz'
      obtain ⟨k, rfl⟩ := Int.eq_ofNat_of_zero_le h0
      exact (Cmp.byte_all (p := fun k => Cmp.aZ (Cmp.fromAZ (k : Int)) = (k : Int)) (by decide +kernel)) k (by omega)
    rw [List.map_congr_left h, List.map_id']
  have h1 : decE 8 bs (2 * ((bs.length : Int) - 4)) = (bs.map Cmp.fromAZ, 0) := by unfold decE; rw [if_neg (by decide), if_pos rfl]
  have h2 : encE 8 v i (bs.map Cmp.fromAZ) = ((bs.map Cmp.fromAZ).map Cmp.aZ, (v, i), 0) := by unfold encE; rw [if_neg (by decide), if_pos rfl]
  unfold tran
  rw [if_neg (by decide), if_neg (fun h => absurd h.1 (by decide)), h1, if_neg (by simp), h2, if_neg (by simp), e]
/-- what law 1 makes of a byte -/
def muB (z : Int) : Int := Cmp.muZ (Cmp.fromMuZ z)
theorem muB_t (z : Int) (h0 : 0 ≤ z) (h1 : z ≤ 255) : (muB z = z ∨ (z = 127 ∧ muB z = 255)) ∧ muB z ≠ 127 := by
  obtain ⟨k, rfl⟩ := Int.eq_ofNat_of_zero_le h0
  exact (Cmp.byte_all (p := fun k => (Cmp.muZ (Cmp.fromMuZ (k : Int)) = (k : Int) ∨ ((k : Int) = 127 ∧ Cmp.muZ (Cmp.fromMuZ (k : Int)) = 255)) ∧ Cmp.muZ (Cmp.fromMuZ (k : Int)) ≠ 127) (by decide +kernel)) k (by omega)
theorem tran_mu (bs : List Int) (v i : Int) : tran 0 0 bs v i = (bs.map muB, (v, i), 0) := by
  have h1 : decE 0 bs (2 * ((bs.length : Int) - 4)) = (bs.map Cmp.fromMuZ, 0) := by unfold decE; rw [if_pos rfl]
  have h2 : encE 0 v i (bs.map Cmp.fromMuZ) = ((bs.map Cmp.fromMuZ).map Cmp.muZ, (v, i), 0) := by unfold encE; rw [if_pos rfl]
  unfold tran
  rw [if_neg (by decide), if_neg (fun h => absurd h.1 (by decide)), h1, if_neg (by simp), h2, if_neg (by simp), List.map_map]
  rfl
end Go.Proofs.Ytahbecinkciahaa.Sb
/- Layer 32: Transcode. -/
namespace Go.Proofs.Ytahbecinkciahaa
open Go.RowKit
set_option linter.unusedVariables false
set_option linter.unusedSimpArgs false
attribute [local go_sem ↓] run_min_plain run_max_plain
attribute [local go_sem] setCell_drewN alloc_drewN
/-- what Transcode leaves -/
def TranR (T : List Int × (Int × Int) × Int) (w : World) (e : Ending) (w' : World) : Prop := ∃ (A' : Option Addr) (c' : Nat), e = .returned (.tuple #[.slice A' T.1.length c', .agg #[.int .i64 T.2.1.1, .int .i64 T.2.1.2], .int .u8 T.2.2]) ∧ IntsAt w' w'.heap.size .u8 A' T.1 ∧ Below w.heap.size w w'
theorem unpR_len (bs : List Int) (n : Int) : (Dlt.unpR bs n).1.length ≤ 8000 := by
  unfold Dlt.unpR
  split
  · simp
  · split
    · simp
    · split
      · simp only [Dlt.unpackL_len]; omega
      · simp
theorem unpR_in (bs : List Int) (n : Int) (hz : Within 0 255 bs) : Within (-32768) 32767 (Dlt.unpR bs n).1 := by
  unfold Dlt.unpR
  split
  · intro z h; cases h
  · split
    · intro z h; cases h
    · split
      · rename_i hk
        intro z h
        obtain ⟨j, _, rfl⟩ := List.mem_map.1 h
        have h1 := Dlt.dAt_valid (Dlt.headS bs) (Dlt.headS_valid bs n.toNat hk hz) bs (j + 1)
        simp [Dlt.valid] at h1
        omega
      · intro z h; cases h
theorem field0_law (g : Nat) (w : World) : (Instr.field 96 (cLaw g) 0).run Try.prog w = .ok (.func (.func 67) #[] #[.pointer (some ⟨g, 0, none⟩)]) w := by kernel_rfl
set_option maxRecDepth 100000 in
set_option maxHeartbeats 12800000 in
theorem tr_no1 (k : Int) (h0 : 0 ≤ k) (h1 : k ≤ 255) (hs : ¬(k = 0 ∨ k = 8 ∨ k = 96)) (y : Int) (y0 : 0 ≤ y) (y1 : y ≤ 255) (A : Option Addr) (bs : List Int) (c : Nat) (v i : Int) (w : World) (hA : IntsAt w w.heap.size .u8 A bs) (hz : Within 0 255 bs) (h8 : bs.length ≤ 5000) (hc : bs.length ≤ c) : Calls Try.prog 15 #[.int .u8 k, .int .u8 y, .slice A bs.length c, .agg #[.int .i64 v, .int .i64 i]] w (TranR ([], (0, 0), 15) w) := by
  have HA := Lib.hid ((hA.push (.cells #[.int .i64 v, .int .i64 i] 28)).push (.cells #[.int .i64 0, .int .i64 0] 28))
  have B0 := Lib.hid ((Blk.new w 28 #[.int .i64 v, .int .i64 i]).push (.cells #[.int .i64 0, .int .i64 0] 28))
  have B1 := Lib.hid (Blk.new1 w (.cells #[.int .i64 v, .int .i64 i] 28) 28 #[.int .i64 0, .int .i64 0])
  have U := Lib.hid (((Bel.refl w).push (.cells #[.int .i64 v, .int .i64 i] 28)).push (.cells #[.int .i64 0, .int .i64 0] 28))
  clear hA
  go_enter Try.func15, Try.ntmps15
  go_upto_region 1 with fail
  change Code.wp _ _ _ _ ((w.alloc (Obj.cells #[.int .i64 v, .int .i64 i] 28)).alloc (Obj.cells #[.int .i64 0, .int .i64 0] 28))
  obtain ⟨W, hW⟩ : ∃ W, W = (w.alloc (Obj.cells #[.int .i64 v, .int .i64 i] 28)).alloc (Obj.cells #[.int .i64 0, .int .i64 0] 28) := ⟨_, rfl⟩
  rw [← hW] at HA B0 B1 U ⊢
  clear hW
  go_wp2_with fail
  refine (codecs_any _).mono ?_
  rintro e w1 ⟨m1, a1, d1, rfl, C, hb⟩
  have kl1 := (look_codec C k (by omega) (by omega)).2
  rw [show cAt a1 d1 k = cNil by unfold cAt; rw [if_neg (by omega), if_neg (by omega), if_neg (by omega)], speechB_f hs] at kl1
  simp only [cNil] at kl1
  replace HA := Lib.hid ((HA.out.later hb).push (.cells #[.nilFunc, .nilFunc] 96))
  replace B0 := Lib.hid ((B0.out.later hb).push (.cells #[.nilFunc, .nilFunc] 96))
  replace B1 := Lib.hid ((B1.out.later hb).push (.cells #[.nilFunc, .nilFunc] 96))
  replace U := Lib.hid ((U.out.later hb).push (.cells #[.nilFunc, .nilFunc] 96))
  have BC1 := Lib.hid (Blk.new w1 96 #[.nilFunc, .nilFunc])
  clear C hb
  go_wp2_with fail
  refine (codecs_any _).mono ?_
  rintro e w2 ⟨m2, a2, d2, rfl, C, hb⟩
  have kl2 := (look_codec C y y0 y1).2
  replace B0 := Lib.hid (B0.out.later hb)
  replace B1 := Lib.hid (B1.out.later hb)
  replace U := Lib.hid (U.out.later hb)
  clear C hb
  rcases cAt_cases a2 d2 y with hh | hh | hh | hh
  · rw [hh] at kl2
    simp only [cLaw, cDel, cNil] at kl2
    clear hh
    replace B0 := Lib.hid (B0.out.push (.cells #[.func (.func 67) #[] #[.pointer (some ⟨a2, 0, none⟩)], .func (.func 69) #[] #[.pointer (some ⟨a2, 0, none⟩)]] 96))
    replace B1 := Lib.hid (B1.out.push (.cells #[.func (.func 67) #[] #[.pointer (some ⟨a2, 0, none⟩)], .func (.func 69) #[] #[.pointer (some ⟨a2, 0, none⟩)]] 96))
    replace U := Lib.hid (U.out.push (.cells #[.func (.func 67) #[] #[.pointer (some ⟨a2, 0, none⟩)], .func (.func 69) #[] #[.pointer (some ⟨a2, 0, none⟩)]] 96))
    have y0 := B1.out.at 0 _ rfl
    have y1 := B1.out.at 1 _ rfl
    have yz := B1.out.frozen
    go_wp2_with fail
    have Y1 := (B1.out.set_ 0 (.int .i64 0)).set_ 1 (.int .i64 0)
    refine bodyPost_ret (v := .tuple #[.slice none 0 0, .agg #[.int .i64 0, .int .i64 0], .int .u8 15]) (res_tct Try.results15 rfl rfl (run_loadVar_row (P := Try.prog) _ _ _ _ _ _ _ Y1 Try.underlying28 rfl (by kernel_rfl)) rfl) rfl ⟨none, 0, rfl, IntsAt.nil, below_set_old (below_set_old U.out (by simp) _) (by simp) _⟩
  · rw [hh] at kl2
    simp only [cLaw, cDel, cNil] at kl2
    clear hh
    replace B0 := Lib.hid (B0.out.push (.cells #[.func (.func 67) #[] #[.pointer (some ⟨d2, 0, none⟩)], .func (.func 69) #[] #[.pointer (some ⟨d2, 0, none⟩)]] 96))
    replace B1 := Lib.hid (B1.out.push (.cells #[.func (.func 67) #[] #[.pointer (some ⟨d2, 0, none⟩)], .func (.func 69) #[] #[.pointer (some ⟨d2, 0, none⟩)]] 96))
    replace U := Lib.hid (U.out.push (.cells #[.func (.func 67) #[] #[.pointer (some ⟨d2, 0, none⟩)], .func (.func 69) #[] #[.pointer (some ⟨d2, 0, none⟩)]] 96))
    have y0 := B1.out.at 0 _ rfl
    have y1 := B1.out.at 1 _ rfl
    have yz := B1.out.frozen
    go_wp2_with fail
    have Y1 := (B1.out.set_ 0 (.int .i64 0)).set_ 1 (.int .i64 0)
    refine bodyPost_ret (v := .tuple #[.slice none 0 0, .agg #[.int .i64 0, .int .i64 0], .int .u8 15]) (res_tct Try.results15 rfl rfl (run_loadVar_row (P := Try.prog) _ _ _ _ _ _ _ Y1 Try.underlying28 rfl (by kernel_rfl)) rfl) rfl ⟨none, 0, rfl, IntsAt.nil, below_set_old (below_set_old U.out (by simp) _) (by simp) _⟩
  · rw [hh] at kl2
    simp only [cLaw, cDel, cNil] at kl2
    clear hh
    replace B0 := Lib.hid (B0.out.push (.cells #[.func (.func 43) #[] #[], .func (.func 44) #[] #[]] 96))
    replace B1 := Lib.hid (B1.out.push (.cells #[.func (.func 43) #[] #[], .func (.func 44) #[] #[]] 96))
    replace U := Lib.hid (U.out.push (.cells #[.func (.func 43) #[] #[], .func (.func 44) #[] #[]] 96))
    have y0 := B1.out.at 0 _ rfl
    have y1 := B1.out.at 1 _ rfl
    have yz := B1.out.frozen
    go_wp2_with fail
    have Y1 := (B1.out.set_ 0 (.int .i64 0)).set_ 1 (.int .i64 0)
    refine bodyPost_ret (v := .tuple #[.slice none 0 0, .agg #[.int .i64 0, .int .i64 0], .int .u8 15]) (res_tct Try.results15 rfl rfl (run_loadVar_row (P := Try.prog) _ _ _ _ _ _ _ Y1 Try.underlying28 rfl (by kernel_rfl)) rfl) rfl ⟨none, 0, rfl, IntsAt.nil, below_set_old (below_set_old U.out (by simp) _) (by simp) _⟩
  · rw [hh] at kl2
    simp only [cLaw, cDel, cNil] at kl2
    clear hh
    replace B0 := Lib.hid (B0.out.push (.cells #[.nilFunc, .nilFunc] 96))
    replace B1 := Lib.hid (B1.out.push (.cells #[.nilFunc, .nilFunc] 96))
    replace U := Lib.hid (U.out.push (.cells #[.nilFunc, .nilFunc] 96))
    have y0 := B1.out.at 0 _ rfl
    have y1 := B1.out.at 1 _ rfl
    have yz := B1.out.frozen
    go_wp2_with fail
    have Y1 := (B1.out.set_ 0 (.int .i64 0)).set_ 1 (.int .i64 0)
    refine bodyPost_ret (v := .tuple #[.slice none 0 0, .agg #[.int .i64 0, .int .i64 0], .int .u8 15]) (res_tct Try.results15 rfl rfl (run_loadVar_row (P := Try.prog) _ _ _ _ _ _ _ Y1 Try.underlying28 rfl (by kernel_rfl)) rfl) rfl ⟨none, 0, rfl, IntsAt.nil, below_set_old (below_set_old U.out (by simp) _) (by simp) _⟩
set_option maxRecDepth 100000 in
set_option maxHeartbeats 12800000 in
theorem tr_no2_0 (k : Int) (h0 : 0 ≤ k) (h1 : k ≤ 255) (hs : ¬(k = 0 ∨ k = 8 ∨ k = 96)) (A : Option Addr) (bs : List Int) (c : Nat) (v i : Int) (w : World) (hA : IntsAt w w.heap.size .u8 A bs) (hz : Within 0 255 bs) (h8 : bs.length ≤ 5000) (hc : bs.length ≤ c) : Calls Try.prog 15 #[.int .u8 0, .int .u8 k, .slice A bs.length c, .agg #[.int .i64 v, .int .i64 i]] w (TranR ([], (0, 0), 15) w) := by
  have HA := Lib.hid ((hA.push (.cells #[.int .i64 v, .int .i64 i] 28)).push (.cells #[.int .i64 0, .int .i64 0] 28))
  have B0 := Lib.hid ((Blk.new w 28 #[.int .i64 v, .int .i64 i]).push (.cells #[.int .i64 0, .int .i64 0] 28))
  have B1 := Lib.hid (Blk.new1 w (.cells #[.int .i64 v, .int .i64 i] 28) 28 #[.int .i64 0, .int .i64 0])
  have U := Lib.hid (((Bel.refl w).push (.cells #[.int .i64 v, .int .i64 i] 28)).push (.cells #[.int .i64 0, .int .i64 0] 28))
  clear hA
  go_enter Try.func15, Try.ntmps15
  go_upto_region 1 with fail
  change Code.wp _ _ _ _ ((w.alloc (Obj.cells #[.int .i64 v, .int .i64 i] 28)).alloc (Obj.cells #[.int .i64 0, .int .i64 0] 28))
  obtain ⟨W, hW⟩ : ∃ W, W = (w.alloc (Obj.cells #[.int .i64 v, .int .i64 i] 28)).alloc (Obj.cells #[.int .i64 0, .int .i64 0] 28) := ⟨_, rfl⟩
  rw [← hW] at HA B0 B1 U ⊢
  clear hW
  go_wp2_with fail
  refine (codecs_any _).mono ?_
  rintro e w1 ⟨m1, a1, d1, rfl, C, hb⟩
  have kl1 := (look_codec C 0 (by omega) (by omega)).2
  rw [show cAt a1 d1 0 = cLaw a1 from rfl, show speechB 0 = true from rfl] at kl1
  simp only [cLaw, cDel] at kl1
  have HL1 := Lib.hid (C.l1.push (.cells #[.func (.func 67) #[] #[.pointer (some ⟨a1, 0, none⟩)], .func (.func 69) #[] #[.pointer (some ⟨a1, 0, none⟩)]] 96))
  replace HA := Lib.hid ((HA.out.later hb).push (.cells #[.func (.func 67) #[] #[.pointer (some ⟨a1, 0, none⟩)], .func (.func 69) #[] #[.pointer (some ⟨a1, 0, none⟩)]] 96))
  replace B0 := Lib.hid ((B0.out.later hb).push (.cells #[.func (.func 67) #[] #[.pointer (some ⟨a1, 0, none⟩)], .func (.func 69) #[] #[.pointer (some ⟨a1, 0, none⟩)]] 96))
  replace B1 := Lib.hid ((B1.out.later hb).push (.cells #[.func (.func 67) #[] #[.pointer (some ⟨a1, 0, none⟩)], .func (.func 69) #[] #[.pointer (some ⟨a1, 0, none⟩)]] 96))
  replace U := Lib.hid ((U.out.later hb).push (.cells #[.func (.func 67) #[] #[.pointer (some ⟨a1, 0, none⟩)], .func (.func 69) #[] #[.pointer (some ⟨a1, 0, none⟩)]] 96))
  have BC1 := Lib.hid (Blk.new w1 96 #[.func (.func 67) #[] #[.pointer (some ⟨a1, 0, none⟩)], .func (.func 69) #[] #[.pointer (some ⟨a1, 0, none⟩)]])
  clear C hb
  go_wp2_with fail
  refine (codecs_any _).mono ?_
  rintro e w2 ⟨m2, a2, d2, rfl, C, hb⟩
  have kl2 := (look_codec C k (by omega) (by omega)).2
  rw [show cAt a2 d2 k = cNil by unfold cAt; rw [if_neg (by omega), if_neg (by omega), if_neg (by omega)], speechB_f hs] at kl2
  simp only [cNil] at kl2
  replace HA := Lib.hid ((HA.out.later hb).push (.cells #[.nilFunc, .nilFunc] 96))
  replace B0 := Lib.hid ((B0.out.later hb).push (.cells #[.nilFunc, .nilFunc] 96))
  replace B1 := Lib.hid ((B1.out.later hb).push (.cells #[.nilFunc, .nilFunc] 96))
  replace U := Lib.hid ((U.out.later hb).push (.cells #[.nilFunc, .nilFunc] 96))
  replace BC1 := Lib.hid ((BC1.out.later hb).push (.cells #[.nilFunc, .nilFunc] 96))
  have BC2 := Lib.hid (Blk.new w2 96 #[.nilFunc, .nilFunc])
  clear C hb
  have y0 := B1.out.at 0 _ rfl
  have y1 := B1.out.at 1 _ rfl
  have yz := B1.out.frozen
  go_wp2_with fail
  have Y1 := (B1.out.set_ 0 (.int .i64 0)).set_ 1 (.int .i64 0)
  refine bodyPost_ret (v := .tuple #[.slice none 0 0, .agg #[.int .i64 0, .int .i64 0], .int .u8 15]) (res_tct Try.results15 rfl rfl (run_loadVar_row (P := Try.prog) _ _ _ _ _ _ _ Y1 Try.underlying28 rfl (by kernel_rfl)) rfl) rfl ⟨none, 0, rfl, IntsAt.nil, below_set_old (below_set_old U.out (by simp) _) (by simp) _⟩
set_option maxRecDepth 100000 in
set_option maxHeartbeats 12800000 in
theorem tr_no2_8 (k : Int) (h0 : 0 ≤ k) (h1 : k ≤ 255) (hs : ¬(k = 0 ∨ k = 8 ∨ k = 96)) (A : Option Addr) (bs : List Int) (c : Nat) (v i : Int) (w : World) (hA : IntsAt w w.heap.size .u8 A bs) (hz : Within 0 255 bs) (h8 : bs.length ≤ 5000) (hc : bs.length ≤ c) : Calls Try.prog 15 #[.int .u8 8, .int .u8 k, .slice A bs.length c, .agg #[.int .i64 v, .int .i64 i]] w (TranR ([], (0, 0), 15) w) := by
  have HA := Lib.hid ((hA.push (.cells #[.int .i64 v, .int .i64 i] 28)).push (.cells #[.int .i64 0, .int .i64 0] 28))
  have B0 := Lib.hid ((Blk.new w 28 #[.int .i64 v, .int .i64 i]).push (.cells #[.int .i64 0, .int .i64 0] 28))
  have B1 := Lib.hid (Blk.new1 w (.cells #[.int .i64 v, .int .i64 i] 28) 28 #[.int .i64 0, .int .i64 0])
  have U := Lib.hid (((Bel.refl w).push (.cells #[.int .i64 v, .int .i64 i] 28)).push (.cells #[.int .i64 0, .int .i64 0] 28))
  clear hA
  go_enter Try.func15, Try.ntmps15
  go_upto_region 1 with fail
  change Code.wp _ _ _ _ ((w.alloc (Obj.cells #[.int .i64 v, .int .i64 i] 28)).alloc (Obj.cells #[.int .i64 0, .int .i64 0] 28))
  obtain ⟨W, hW⟩ : ∃ W, W = (w.alloc (Obj.cells #[.int .i64 v, .int .i64 i] 28)).alloc (Obj.cells #[.int .i64 0, .int .i64 0] 28) := ⟨_, rfl⟩
  rw [← hW] at HA B0 B1 U ⊢
  clear hW
  go_wp2_with fail
  refine (codecs_any _).mono ?_
  rintro e w1 ⟨m1, a1, d1, rfl, C, hb⟩
  have kl1 := (look_codec C 8 (by omega) (by omega)).2
  rw [show cAt a1 d1 8 = cLaw d1 from rfl, show speechB 8 = true from rfl] at kl1
  simp only [cLaw, cDel] at kl1
  have HL1 := Lib.hid (C.l2.push (.cells #[.func (.func 67) #[] #[.pointer (some ⟨d1, 0, none⟩)], .func (.func 69) #[] #[.pointer (some ⟨d1, 0, none⟩)]] 96))
  replace HA := Lib.hid ((HA.out.later hb).push (.cells #[.func (.func 67) #[] #[.pointer (some ⟨d1, 0, none⟩)], .func (.func 69) #[] #[.pointer (some ⟨d1, 0, none⟩)]] 96))
  replace B0 := Lib.hid ((B0.out.later hb).push (.cells #[.func (.func 67) #[] #[.pointer (some ⟨d1, 0, none⟩)], .func (.func 69) #[] #[.pointer (some ⟨d1, 0, none⟩)]] 96))
  replace B1 := Lib.hid ((B1.out.later hb).push (.cells #[.func (.func 67) #[] #[.pointer (some ⟨d1, 0, none⟩)], .func (.func 69) #[] #[.pointer (some ⟨d1, 0, none⟩)]] 96))
  replace U := Lib.hid ((U.out.later hb).push (.cells #[.func (.func 67) #[] #[.pointer (some ⟨d1, 0, none⟩)], .func (.func 69) #[] #[.pointer (some ⟨d1, 0, none⟩)]] 96))
  have BC1 := Lib.hid (Blk.new w1 96 #[.func (.func 67) #[] #[.pointer (some ⟨d1, 0, none⟩)], .func (.func 69) #[] #[.pointer (some ⟨d1, 0, none⟩)]])
  clear C hb
  go_wp2_with fail
  refine (codecs_any _).mono ?_
  rintro e w2 ⟨m2, a2, d2, rfl, C, hb⟩
  have kl2 := (look_codec C k (by omega) (by omega)).2
  rw [show cAt a2 d2 k = cNil by unfold cAt; rw [if_neg (by omega), if_neg (by omega), if_neg (by omega)], speechB_f hs] at kl2
  simp only [cNil] at kl2
  replace HA := Lib.hid ((HA.out.later hb).push (.cells #[.nilFunc, .nilFunc] 96))
  replace B0 := Lib.hid ((B0.out.later hb).push (.cells #[.nilFunc, .nilFunc] 96))
  replace B1 := Lib.hid ((B1.out.later hb).push (.cells #[.nilFunc, .nilFunc] 96))
  replace U := Lib.hid ((U.out.later hb).push (.cells #[.nilFunc, .nilFunc] 96))
  replace BC1 := Lib.hid ((BC1.out.later hb).push (.cells #[.nilFunc, .nilFunc] 96))
  have BC2 := Lib.hid (Blk.new w2 96 #[.nilFunc, .nilFunc])
  clear C hb
  have y0 := B1.out.at 0 _ rfl
  have y1 := B1.out.at 1 _ rfl
  have yz := B1.out.frozen
  go_wp2_with fail
  have Y1 := (B1.out.set_ 0 (.int .i64 0)).set_ 1 (.int .i64 0)
  refine bodyPost_ret (v := .tuple #[.slice none 0 0, .agg #[.int .i64 0, .int .i64 0], .int .u8 15]) (res_tct Try.results15 rfl rfl (run_loadVar_row (P := Try.prog) _ _ _ _ _ _ _ Y1 Try.underlying28 rfl (by kernel_rfl)) rfl) rfl ⟨none, 0, rfl, IntsAt.nil, below_set_old (below_set_old U.out (by simp) _) (by simp) _⟩
set_option maxRecDepth 100000 in
set_option maxHeartbeats 12800000 in
theorem tr_no2_96 (k : Int) (h0 : 0 ≤ k) (h1 : k ≤ 255) (hs : ¬(k = 0 ∨ k = 8 ∨ k = 96)) (A : Option Addr) (bs : List Int) (c : Nat) (v i : Int) (w : World) (hA : IntsAt w w.heap.size .u8 A bs) (hz : Within 0 255 bs) (h8 : bs.length ≤ 5000) (hc : bs.length ≤ c) : Calls Try.prog 15 #[.int .u8 96, .int .u8 k, .slice A bs.length c, .agg #[.int .i64 v, .int .i64 i]] w (TranR ([], (0, 0), 15) w) := by
  have HA := Lib.hid ((hA.push (.cells #[.int .i64 v, .int .i64 i] 28)).push (.cells #[.int .i64 0, .int .i64 0] 28))
  have B0 := Lib.hid ((Blk.new w 28 #[.int .i64 v, .int .i64 i]).push (.cells #[.int .i64 0, .int .i64 0] 28))
  have B1 := Lib.hid (Blk.new1 w (.cells #[.int .i64 v, .int .i64 i] 28) 28 #[.int .i64 0, .int .i64 0])
  have U := Lib.hid (((Bel.refl w).push (.cells #[.int .i64 v, .int .i64 i] 28)).push (.cells #[.int .i64 0, .int .i64 0] 28))
  clear hA
  go_enter Try.func15, Try.ntmps15
  go_upto_region 1 with fail
  change Code.wp _ _ _ _ ((w.alloc (Obj.cells #[.int .i64 v, .int .i64 i] 28)).alloc (Obj.cells #[.int .i64 0, .int .i64 0] 28))
  obtain ⟨W, hW⟩ : ∃ W, W = (w.alloc (Obj.cells #[.int .i64 v, .int .i64 i] 28)).alloc (Obj.cells #[.int .i64 0, .int .i64 0] 28) := ⟨_, rfl⟩
  rw [← hW] at HA B0 B1 U ⊢
  clear hW
  go_wp2_with fail
  refine (codecs_any _).mono ?_
  rintro e w1 ⟨m1, a1, d1, rfl, C, hb⟩
  have kl1 := (look_codec C 96 (by omega) (by omega)).2
  rw [show cAt a1 d1 96 = cDel from rfl, show speechB 96 = true from rfl] at kl1
  simp only [cLaw, cDel] at kl1
  replace HA := Lib.hid ((HA.out.later hb).push (.cells #[.func (.func 43) #[] #[], .func (.func 44) #[] #[]] 96))
  replace B0 := Lib.hid ((B0.out.later hb).push (.cells #[.func (.func 43) #[] #[], .func (.func 44) #[] #[]] 96))
  replace B1 := Lib.hid ((B1.out.later hb).push (.cells #[.func (.func 43) #[] #[], .func (.func 44) #[] #[]] 96))
  replace U := Lib.hid ((U.out.later hb).push (.cells #[.func (.func 43) #[] #[], .func (.func 44) #[] #[]] 96))
  have BC1 := Lib.hid (Blk.new w1 96 #[.func (.func 43) #[] #[], .func (.func 44) #[] #[]])
  clear C hb
  go_wp2_with fail
  refine (codecs_any _).mono ?_
  rintro e w2 ⟨m2, a2, d2, rfl, C, hb⟩
  have kl2 := (look_codec C k (by omega) (by omega)).2
  rw [show cAt a2 d2 k = cNil by unfold cAt; rw [if_neg (by omega), if_neg (by omega), if_neg (by omega)], speechB_f hs] at kl2
  simp only [cNil] at kl2
  replace HA := Lib.hid ((HA.out.later hb).push (.cells #[.nilFunc, .nilFunc] 96))
  replace B0 := Lib.hid ((B0.out.later hb).push (.cells #[.nilFunc, .nilFunc] 96))
  replace B1 := Lib.hid ((B1.out.later hb).push (.cells #[.nilFunc, .nilFunc] 96))
  replace U := Lib.hid ((U.out.later hb).push (.cells #[.nilFunc, .nilFunc] 96))
  replace BC1 := Lib.hid ((BC1.out.later hb).push (.cells #[.nilFunc, .nilFunc] 96))
  have BC2 := Lib.hid (Blk.new w2 96 #[.nilFunc, .nilFunc])
  clear C hb
  have y0 := B1.out.at 0 _ rfl
  have y1 := B1.out.at 1 _ rfl
  have yz := B1.out.frozen
  go_wp2_with fail
  have Y1 := (B1.out.set_ 0 (.int .i64 0)).set_ 1 (.int .i64 0)
  refine bodyPost_ret (v := .tuple #[.slice none 0 0, .agg #[.int .i64 0, .int .i64 0], .int .u8 15]) (res_tct Try.results15 rfl rfl (run_loadVar_row (P := Try.prog) _ _ _ _ _ _ _ Y1 Try.underlying28 rfl (by kernel_rfl)) rfl) rfl ⟨none, 0, rfl, IntsAt.nil, below_set_old (below_set_old U.out (by simp) _) (by simp) _⟩
set_option maxRecDepth 100000 in
set_option maxHeartbeats 12800000 in
theorem tr_short_0 (A : Option Addr) (bs : List Int) (c : Nat) (v i : Int) (w : World) (hA : IntsAt w w.heap.size .u8 A bs) (hz : Within 0 255 bs) (h8 : bs.length ≤ 5000) (hc : bs.length ≤ c) (h4 : bs.length < 4) : Calls Try.prog 15 #[.int .u8 96, .int .u8 0, .slice A bs.length c, .agg #[.int .i64 v, .int .i64 i]] w (TranR ([], (0, 0), 6) w) := by
  have h4i : (bs.length : Int) < 4 := by omega
  have HA := Lib.hid ((hA.push (.cells #[.int .i64 v, .int .i64 i] 28)).push (.cells #[.int .i64 0, .int .i64 0] 28))
  have B0 := Lib.hid ((Blk.new w 28 #[.int .i64 v, .int .i64 i]).push (.cells #[.int .i64 0, .int .i64 0] 28))
  have B1 := Lib.hid (Blk.new1 w (.cells #[.int .i64 v, .int .i64 i] 28) 28 #[.int .i64 0, .int .i64 0])
  have U := Lib.hid (((Bel.refl w).push (.cells #[.int .i64 v, .int .i64 i] 28)).push (.cells #[.int .i64 0, .int .i64 0] 28))
  clear hA
  go_enter Try.func15, Try.ntmps15
  go_upto_region 1 with fail
  change Code.wp _ _ _ _ ((w.alloc (Obj.cells #[.int .i64 v, .int .i64 i] 28)).alloc (Obj.cells #[.int .i64 0, .int .i64 0] 28))
  obtain ⟨W, hW⟩ : ∃ W, W = (w.alloc (Obj.cells #[.int .i64 v, .int .i64 i] 28)).alloc (Obj.cells #[.int .i64 0, .int .i64 0] 28) := ⟨_, rfl⟩
  rw [← hW] at HA B0 B1 U ⊢
  clear hW
  go_wp2_with fail
  refine (codecs_any _).mono ?_
  rintro e w1 ⟨m1, a1, d1, rfl, C, hb⟩
  have kl1 := (look_codec C 96 (by omega) (by omega)).2
  rw [show cAt a1 d1 96 = cDel from rfl, show speechB 96 = true from rfl] at kl1
  simp only [cLaw, cDel] at kl1
  replace HA := Lib.hid ((HA.out.later hb).push (.cells #[.func (.func 43) #[] #[], .func (.func 44) #[] #[]] 96))
  replace B0 := Lib.hid ((B0.out.later hb).push (.cells #[.func (.func 43) #[] #[], .func (.func 44) #[] #[]] 96))
  replace B1 := Lib.hid ((B1.out.later hb).push (.cells #[.func (.func 43) #[] #[], .func (.func 44) #[] #[]] 96))
  replace U := Lib.hid ((U.out.later hb).push (.cells #[.func (.func 43) #[] #[], .func (.func 44) #[] #[]] 96))
  have BC1 := Lib.hid (Blk.new w1 96 #[.func (.func 43) #[] #[], .func (.func 44) #[] #[]])
  clear C hb
  go_wp2_with fail
  refine (codecs_any _).mono ?_
  rintro e w2 ⟨m2, a2, d2, rfl, C, hb⟩
  have kl2 := (look_codec C 0 (by omega) (by omega)).2
  rw [show cAt a2 d2 0 = cLaw a2 from rfl, show speechB 0 = true from rfl] at kl2
  simp only [cLaw, cDel] at kl2
  have HL2 := Lib.hid (C.l1.push (.cells #[.func (.func 67) #[] #[.pointer (some ⟨a2, 0, none⟩)], .func (.func 69) #[] #[.pointer (some ⟨a2, 0, none⟩)]] 96))
  replace HA := Lib.hid ((HA.out.later hb).push (.cells #[.func (.func 67) #[] #[.pointer (some ⟨a2, 0, none⟩)], .func (.func 69) #[] #[.pointer (some ⟨a2, 0, none⟩)]] 96))
  replace B0 := Lib.hid ((B0.out.later hb).push (.cells #[.func (.func 67) #[] #[.pointer (some ⟨a2, 0, none⟩)], .func (.func 69) #[] #[.pointer (some ⟨a2, 0, none⟩)]] 96))
  replace B1 := Lib.hid ((B1.out.later hb).push (.cells #[.func (.func 67) #[] #[.pointer (some ⟨a2, 0, none⟩)], .func (.func 69) #[] #[.pointer (some ⟨a2, 0, none⟩)]] 96))
  replace U := Lib.hid ((U.out.later hb).push (.cells #[.func (.func 67) #[] #[.pointer (some ⟨a2, 0, none⟩)], .func (.func 69) #[] #[.pointer (some ⟨a2, 0, none⟩)]] 96))
  replace BC1 := Lib.hid ((BC1.out.later hb).push (.cells #[.func (.func 67) #[] #[.pointer (some ⟨a2, 0, none⟩)], .func (.func 69) #[] #[.pointer (some ⟨a2, 0, none⟩)]] 96))
  have BC2 := Lib.hid (Blk.new w2 96 #[.func (.func 67) #[] #[.pointer (some ⟨a2, 0, none⟩)], .func (.func 69) #[] #[.pointer (some ⟨a2, 0, none⟩)]])
  clear C hb
  have y0 := B1.out.at 0 _ rfl
  have y1 := B1.out.at 1 _ rfl
  have yz := B1.out.frozen
  go_wp2_with fail
  have Y1 := (B1.out.set_ 0 (.int .i64 0)).set_ 1 (.int .i64 0)
  refine bodyPost_ret (v := .tuple #[.slice none 0 0, .agg #[.int .i64 0, .int .i64 0], .int .u8 6]) (res_tct Try.results15 rfl rfl (run_loadVar_row (P := Try.prog) _ _ _ _ _ _ _ Y1 Try.underlying28 rfl (by kernel_rfl)) rfl) rfl ⟨none, 0, rfl, IntsAt.nil, below_set_old (below_set_old U.out (by simp) _) (by simp) _⟩
set_option maxRecDepth 100000 in
set_option maxHeartbeats 12800000 in
theorem tr_short_8 (A : Option Addr) (bs : List Int) (c : Nat) (v i : Int) (w : World) (hA : IntsAt w w.heap.size .u8 A bs) (hz : Within 0 255 bs) (h8 : bs.length ≤ 5000) (hc : bs.length ≤ c) (h4 : bs.length < 4) : Calls Try.prog 15 #[.int .u8 96, .int .u8 8, .slice A bs.length c, .agg #[.int .i64 v, .int .i64 i]] w (TranR ([], (0, 0), 6) w) := by
  have h4i : (bs.length : Int) < 4 := by omega
  have HA := Lib.hid ((hA.push (.cells #[.int .i64 v, .int .i64 i] 28)).push (.cells #[.int .i64 0, .int .i64 0] 28))
  have B0 := Lib.hid ((Blk.new w 28 #[.int .i64 v, .int .i64 i]).push (.cells #[.int .i64 0, .int .i64 0] 28))
  have B1 := Lib.hid (Blk.new1 w (.cells #[.int .i64 v, .int .i64 i] 28) 28 #[.int .i64 0, .int .i64 0])
  have U := Lib.hid (((Bel.refl w).push (.cells #[.int .i64 v, .int .i64 i] 28)).push (.cells #[.int .i64 0, .int .i64 0] 28))
  clear hA
  go_enter Try.func15, Try.ntmps15
  go_upto_region 1 with fail
  change Code.wp _ _ _ _ ((w.alloc (Obj.cells #[.int .i64 v, .int .i64 i] 28)).alloc (Obj.cells #[.int .i64 0, .int .i64 0] 28))
  obtain ⟨W, hW⟩ : ∃ W, W = (w.alloc (Obj.cells #[.int .i64 v, .int .i64 i] 28)).alloc (Obj.cells #[.int .i64 0, .int .i64 0] 28) := ⟨_, rfl⟩
  rw [← hW] at HA B0 B1 U ⊢
  clear hW
  go_wp2_with fail
  refine (codecs_any _).mono ?_
  rintro e w1 ⟨m1, a1, d1, rfl, C, hb⟩
  have kl1 := (look_codec C 96 (by omega) (by omega)).2
  rw [show cAt a1 d1 96 = cDel from rfl, show speechB 96 = true from rfl] at kl1
  simp only [cLaw, cDel] at kl1
  replace HA := Lib.hid ((HA.out.later hb).push (.cells #[.func (.func 43) #[] #[], .func (.func 44) #[] #[]] 96))
  replace B0 := Lib.hid ((B0.out.later hb).push (.cells #[.func (.func 43) #[] #[], .func (.func 44) #[] #[]] 96))
  replace B1 := Lib.hid ((B1.out.later hb).push (.cells #[.func (.func 43) #[] #[], .func (.func 44) #[] #[]] 96))
  replace U := Lib.hid ((U.out.later hb).push (.cells #[.func (.func 43) #[] #[], .func (.func 44) #[] #[]] 96))
  have BC1 := Lib.hid (Blk.new w1 96 #[.func (.func 43) #[] #[], .func (.func 44) #[] #[]])
  clear C hb
  go_wp2_with fail
  refine (codecs_any _).mono ?_
  rintro e w2 ⟨m2, a2, d2, rfl, C, hb⟩
  have kl2 := (look_codec C 8 (by omega) (by omega)).2
  rw [show cAt a2 d2 8 = cLaw d2 from rfl, show speechB 8 = true from rfl] at kl2
  simp only [cLaw, cDel] at kl2
  have HL2 := Lib.hid (C.l2.push (.cells #[.func (.func 67) #[] #[.pointer (some ⟨d2, 0, none⟩)], .func (.func 69) #[] #[.pointer (some ⟨d2, 0, none⟩)]] 96))
  replace HA := Lib.hid ((HA.out.later hb).push (.cells #[.func (.func 67) #[] #[.pointer (some ⟨d2, 0, none⟩)], .func (.func 69) #[] #[.pointer (some ⟨d2, 0, none⟩)]] 96))
  replace B0 := Lib.hid ((B0.out.later hb).push (.cells #[.func (.func 67) #[] #[.pointer (some ⟨d2, 0, none⟩)], .func (.func 69) #[] #[.pointer (some ⟨d2, 0, none⟩)]] 96))
  replace B1 := Lib.hid ((B1.out.later hb).push (.cells #[.func (.func 67) #[] #[.pointer (some ⟨d2, 0, none⟩)], .func (.func 69) #[] #[.pointer (some ⟨d2, 0, none⟩)]] 96))
  replace U := Lib.hid ((U.out.later hb).push (.cells #[.func (.func 67) #[] #[.pointer (some ⟨d2, 0, none⟩)], .func (.func 69) #[] #[.pointer (some ⟨d2, 0, none⟩)]] 96))
  replace BC1 := Lib.hid ((BC1.out.later hb).push (.cells #[.func (.func 67) #[] #[.pointer (some ⟨d2, 0, none⟩)], .func (.func 69) #[] #[.pointer (some ⟨d2, 0, none⟩)]] 96))
  have BC2 := Lib.hid (Blk.new w2 96 #[.func (.func 67) #[] #[.pointer (some ⟨d2, 0, none⟩)], .func (.func 69) #[] #[.pointer (some ⟨d2, 0, none⟩)]])
  clear C hb
  have y0 := B1.out.at 0 _ rfl
  have y1 := B1.out.at 1 _ rfl
  have yz := B1.out.frozen
  go_wp2_with fail
  have Y1 := (B1.out.set_ 0 (.int .i64 0)).set_ 1 (.int .i64 0)
  refine bodyPost_ret (v := .tuple #[.slice none 0 0, .agg #[.int .i64 0, .int .i64 0], .int .u8 6]) (res_tct Try.results15 rfl rfl (run_loadVar_row (P := Try.prog) _ _ _ _ _ _ _ Y1 Try.underlying28 rfl (by kernel_rfl)) rfl) rfl ⟨none, 0, rfl, IntsAt.nil, below_set_old (below_set_old U.out (by simp) _) (by simp) _⟩
set_option maxRecDepth 100000 in
set_option maxHeartbeats 12800000 in
theorem tr_short_96 (A : Option Addr) (bs : List Int) (c : Nat) (v i : Int) (w : World) (hA : IntsAt w w.heap.size .u8 A bs) (hz : Within 0 255 bs) (h8 : bs.length ≤ 5000) (hc : bs.length ≤ c) (h4 : bs.length < 4) : Calls Try.prog 15 #[.int .u8 96, .int .u8 96, .slice A bs.length c, .agg #[.int .i64 v, .int .i64 i]] w (TranR ([], (0, 0), 6) w) := by
  have h4i : (bs.length : Int) < 4 := by omega
  have HA := Lib.hid ((hA.push (.cells #[.int .i64 v, .int .i64 i] 28)).push (.cells #[.int .i64 0, .int .i64 0] 28))
  have B0 := Lib.hid ((Blk.new w 28 #[.int .i64 v, .int .i64 i]).push (.cells #[.int .i64 0, .int .i64 0] 28))
  have B1 := Lib.hid (Blk.new1 w (.cells #[.int .i64 v, .int .i64 i] 28) 28 #[.int .i64 0, .int .i64 0])
  have U := Lib.hid (((Bel.refl w).push (.cells #[.int .i64 v, .int .i64 i] 28)).push (.cells #[.int .i64 0, .int .i64 0] 28))
  clear hA
  go_enter Try.func15, Try.ntmps15
  go_upto_region 1 with fail
  change Code.wp _ _ _ _ ((w.alloc (Obj.cells #[.int .i64 v, .int .i64 i] 28)).alloc (Obj.cells #[.int .i64 0, .int .i64 0] 28))
  obtain ⟨W, hW⟩ : ∃ W, W = (w.alloc (Obj.cells #[.int .i64 v, .int .i64 i] 28)).alloc (Obj.cells #[.int .i64 0, .int .i64 0] 28) := ⟨_, rfl⟩
  rw [← hW] at HA B0 B1 U ⊢
  clear hW
  go_wp2_with fail
  refine (codecs_any _).mono ?_
  rintro e w1 ⟨m1, a1, d1, rfl, C, hb⟩
  have kl1 := (look_codec C 96 (by omega) (by omega)).2
  rw [show cAt a1 d1 96 = cDel from rfl, show speechB 96 = true from rfl] at kl1
  simp only [cLaw, cDel] at kl1
  replace HA := Lib.hid ((HA.out.later hb).push (.cells #[.func (.func 43) #[] #[], .func (.func 44) #[] #[]] 96))
  replace B0 := Lib.hid ((B0.out.later hb).push (.cells #[.func (.func 43) #[] #[], .func (.func 44) #[] #[]] 96))
  replace B1 := Lib.hid ((B1.out.later hb).push (.cells #[.func (.func 43) #[] #[], .func (.func 44) #[] #[]] 96))
  replace U := Lib.hid ((U.out.later hb).push (.cells #[.func (.func 43) #[] #[], .func (.func 44) #[] #[]] 96))
  have BC1 := Lib.hid (Blk.new w1 96 #[.func (.func 43) #[] #[], .func (.func 44) #[] #[]])
  clear C hb
  go_wp2_with fail
  refine (codecs_any _).mono ?_
  rintro e w2 ⟨m2, a2, d2, rfl, C, hb⟩
  have kl2 := (look_codec C 96 (by omega) (by omega)).2
  rw [show cAt a2 d2 96 = cDel from rfl, show speechB 96 = true from rfl] at kl2
  simp only [cLaw, cDel] at kl2
  replace HA := Lib.hid ((HA.out.later hb).push (.cells #[.func (.func 43) #[] #[], .func (.func 44) #[] #[]] 96))
  replace B0 := Lib.hid ((B0.out.later hb).push (.cells #[.func (.func 43) #[] #[], .func (.func 44) #[] #[]] 96))
  replace B1 := Lib.hid ((B1.out.later hb).push (.cells #[.func (.func 43) #[] #[], .func (.func 44) #[] #[]] 96))
  replace U := Lib.hid ((U.out.later hb).push (.cells #[.func (.func 43) #[] #[], .func (.func 44) #[] #[]] 96))
  replace BC1 := Lib.hid ((BC1.out.later hb).push (.cells #[.func (.func 43) #[] #[], .func (.func 44) #[] #[]] 96))
  have BC2 := Lib.hid (Blk.new w2 96 #[.func (.func 43) #[] #[], .func (.func 44) #[] #[]])
  clear C hb
  have y0 := B1.out.at 0 _ rfl
  have y1 := B1.out.at 1 _ rfl
  have yz := B1.out.frozen
  go_wp2_with fail
  have Y1 := (B1.out.set_ 0 (.int .i64 0)).set_ 1 (.int .i64 0)
  refine bodyPost_ret (v := .tuple #[.slice none 0 0, .agg #[.int .i64 0, .int .i64 0], .int .u8 6]) (res_tct Try.results15 rfl rfl (run_loadVar_row (P := Try.prog) _ _ _ _ _ _ _ Y1 Try.underlying28 rfl (by kernel_rfl)) rfl) rfl ⟨none, 0, rfl, IntsAt.nil, below_set_old (below_set_old U.out (by simp) _) (by simp) _⟩
set_option maxRecDepth 100000 in
set_option maxHeartbeats 12800000 in
theorem tr_0_0 (A : Option Addr) (bs : List Int) (c : Nat) (v i : Int) (w : World) (hA : IntsAt w w.heap.size .u8 A bs) (hz : Within 0 255 bs) (h8 : bs.length ≤ 5000) (hc : bs.length ≤ c) : Calls Try.prog 15 #[.int .u8 0, .int .u8 0, .slice A bs.length c, .agg #[.int .i64 v, .int .i64 i]] w (TranR (Sb.tran 0 0 bs v i) w) := by
  obtain ⟨TT, hTT⟩ : ∃ T, T = Sb.tran 0 0 bs v i := ⟨_, rfl⟩
  rw [← hTT]
  obtain ⟨ZL, hZL⟩ : ∃ Z, Z = bs.map Cmp.fromMuZ := ⟨_, rfl⟩
  have hzi : Within (-32768) 32767 ZL := by rw [hZL]; exact within_map hz fromMuZ_bd
  have hl8 : ZL.length ≤ 8000 := by rw [hZL, List.length_map]; omega
  have kD := Lib.hid fun (b : Nat) (W : World) hW hB => dec_mu (2 * ((bs.length : Int) - 4)) A bs c b W hW hz (by omega) hB
  unfold DecR at kD
  rw [← hZL] at kD
  have e1 : Sb.decE 0 bs (2 * ((bs.length : Int) - 4)) = (ZL, 0) := by unfold Sb.decE; rw [if_pos rfl, hZL]
  obtain ⟨EL, hEL⟩ : ∃ Z, Z = ZL.map Cmp.muZ := ⟨_, rfl⟩
  have kE := Lib.hid fun (A3 : Option Addr) (c3 b : Nat) (W : World) hW hB => enc_mu v i A3 ZL c3 b W hW hzi hl8 hB
  unfold EncR at kE
  rw [← hEL] at kE
  have e2 : Sb.encE 0 v i ZL = (EL, (v, i), 0) := by unfold Sb.encE; rw [if_pos rfl, hEL]
  have HT : Hid (TT = (EL, (v, i), 0)) := Lib.hid (by
    rw [hTT]; unfold Sb.tran
    rw [if_neg (by decide), if_neg (fun h => absurd h.1 (by decide)), e1]
    dsimp only
    rw [if_neg (by simp)]
    rw [e2]
    rw [if_neg (by simp)])
  have hnw : wrap64 (2 * ((bs.length : Int) - 4)) = 2 * ((bs.length : Int) - 4) := IntWalk.wrap64_in _ ⟨by omega, by omega⟩
  clear hz hTT e1 e2 hZL hEL hzi hl8
  have HA := Lib.hid ((hA.push (.cells #[.int .i64 v, .int .i64 i] 28)).push (.cells #[.int .i64 0, .int .i64 0] 28))
  have B0 := Lib.hid ((Blk.new w 28 #[.int .i64 v, .int .i64 i]).push (.cells #[.int .i64 0, .int .i64 0] 28))
  have B1 := Lib.hid (Blk.new1 w (.cells #[.int .i64 v, .int .i64 i] 28) 28 #[.int .i64 0, .int .i64 0])
  have U := Lib.hid (((Bel.refl w).push (.cells #[.int .i64 v, .int .i64 i] 28)).push (.cells #[.int .i64 0, .int .i64 0] 28))
  clear hA
  go_enter Try.func15, Try.ntmps15
  go_upto_region 1 with fail
  change Code.wp _ _ _ _ ((w.alloc (Obj.cells #[.int .i64 v, .int .i64 i] 28)).alloc (Obj.cells #[.int .i64 0, .int .i64 0] 28))
  obtain ⟨W, hW⟩ : ∃ W, W = (w.alloc (Obj.cells #[.int .i64 v, .int .i64 i] 28)).alloc (Obj.cells #[.int .i64 0, .int .i64 0] 28) := ⟨_, rfl⟩
  rw [← hW] at HA B0 B1 U ⊢
  clear hW
  go_wp2_with fail
  refine (codecs_any _).mono ?_
  rintro e w1 ⟨m1, a1, d1, rfl, C, hb⟩
  have kl1 := (look_codec C 0 (by omega) (by omega)).2
  rw [show cAt a1 d1 0 = cLaw a1 from rfl, show speechB 0 = true from rfl] at kl1
  simp only [cLaw, cDel] at kl1
  have HL1 := Lib.hid (C.l1.push (.cells #[.func (.func 67) #[] #[.pointer (some ⟨a1, 0, none⟩)], .func (.func 69) #[] #[.pointer (some ⟨a1, 0, none⟩)]] 96))
  replace HA := Lib.hid ((HA.out.later hb).push (.cells #[.func (.func 67) #[] #[.pointer (some ⟨a1, 0, none⟩)], .func (.func 69) #[] #[.pointer (some ⟨a1, 0, none⟩)]] 96))
  replace B0 := Lib.hid ((B0.out.later hb).push (.cells #[.func (.func 67) #[] #[.pointer (some ⟨a1, 0, none⟩)], .func (.func 69) #[] #[.pointer (some ⟨a1, 0, none⟩)]] 96))
  replace B1 := Lib.hid ((B1.out.later hb).push (.cells #[.func (.func 67) #[] #[.pointer (some ⟨a1, 0, none⟩)], .func (.func 69) #[] #[.pointer (some ⟨a1, 0, none⟩)]] 96))
  replace U := Lib.hid ((U.out.later hb).push (.cells #[.func (.func 67) #[] #[.pointer (some ⟨a1, 0, none⟩)], .func (.func 69) #[] #[.pointer (some ⟨a1, 0, none⟩)]] 96))
  have BC1 := Lib.hid (Blk.new w1 96 #[.func (.func 67) #[] #[.pointer (some ⟨a1, 0, none⟩)], .func (.func 69) #[] #[.pointer (some ⟨a1, 0, none⟩)]])
  clear C hb
  go_wp2_with fail
  refine (codecs_any _).mono ?_
  rintro e w2 ⟨m2, a2, d2, rfl, C, hb⟩
  have kl2 := (look_codec C 0 (by omega) (by omega)).2
  rw [show cAt a2 d2 0 = cLaw a2 from rfl, show speechB 0 = true from rfl] at kl2
  simp only [cLaw, cDel] at kl2
  have HL2 := Lib.hid (C.l1.push (.cells #[.func (.func 67) #[] #[.pointer (some ⟨a2, 0, none⟩)], .func (.func 69) #[] #[.pointer (some ⟨a2, 0, none⟩)]] 96))
  replace HA := Lib.hid ((HA.out.later hb).push (.cells #[.func (.func 67) #[] #[.pointer (some ⟨a2, 0, none⟩)], .func (.func 69) #[] #[.pointer (some ⟨a2, 0, none⟩)]] 96))
  replace B0 := Lib.hid ((B0.out.later hb).push (.cells #[.func (.func 67) #[] #[.pointer (some ⟨a2, 0, none⟩)], .func (.func 69) #[] #[.pointer (some ⟨a2, 0, none⟩)]] 96))
  replace B1 := Lib.hid ((B1.out.later hb).push (.cells #[.func (.func 67) #[] #[.pointer (some ⟨a2, 0, none⟩)], .func (.func 69) #[] #[.pointer (some ⟨a2, 0, none⟩)]] 96))
  replace U := Lib.hid ((U.out.later hb).push (.cells #[.func (.func 67) #[] #[.pointer (some ⟨a2, 0, none⟩)], .func (.func 69) #[] #[.pointer (some ⟨a2, 0, none⟩)]] 96))
  replace BC1 := Lib.hid ((BC1.out.later hb).push (.cells #[.func (.func 67) #[] #[.pointer (some ⟨a2, 0, none⟩)], .func (.func 69) #[] #[.pointer (some ⟨a2, 0, none⟩)]] 96))
  replace HL1 := Lib.hid ((HL1.out.later hb).push (.cells #[.func (.func 67) #[] #[.pointer (some ⟨a2, 0, none⟩)], .func (.func 69) #[] #[.pointer (some ⟨a2, 0, none⟩)]] 96))
  have BC2 := Lib.hid (Blk.new w2 96 #[.func (.func 67) #[] #[.pointer (some ⟨a2, 0, none⟩)], .func (.func 69) #[] #[.pointer (some ⟨a2, 0, none⟩)]])
  clear C hb
  have bc := BC1.out.at 1 _ rfl
  go_wp2_with fail
  refine (kD.out a1 _ HA.out HL1.out).mono ?_
  rintro e w3 ⟨A3, c3, rfl, hI, hb⟩
  have HI := Lib.hid hI.1
  replace B0 := Lib.hid (B0.out.later hb)
  replace B1 := Lib.hid (B1.out.later hb)
  replace U := Lib.hid (U.out.later hb)
  replace BC2 := Lib.hid (BC2.out.later hb)
  replace HL2 := Lib.hid (HL2.out.later hb)
  clear hI hb HA bc BC1 kD hnw HL1
  have bc0 := BC2.out.at 0 _ rfl
  have s0 := B0.out.at 0 _ rfl
  have s1 := B0.out.at 1 _ rfl
  go_wp2_with fail
  refine (kE.out A3 c3 a2 _ HI.out HL2.out).mono ?_
  rintro e w4 ⟨A4, c4, rfl, hE, hb⟩
  have HE := Lib.hid hE.1
  replace B1 := Lib.hid ((B1.out.later hb).push (.cells #[.int .i64 v, .int .i64 i] 28))
  replace U := Lib.hid ((U.out.later hb).push (.cells #[.int .i64 v, .int .i64 i] 28))
  replace HE := Lib.hid (HE.out.push (.cells #[.int .i64 v, .int .i64 i] 28))
  have BD := Lib.hid (Blk.new w4 28 #[.int .i64 v, .int .i64 i])
  clear hE hb bc0 s0 s1 B0 BC2 kE HI HL2
  have c0 := BD.out.at 0 _ rfl
  have c1 := BD.out.at 1 _ rfl
  have r0 := B1.out.at 0 _ rfl
  have r1 := B1.out.at 1 _ rfl
  have rz := B1.out.frozen
  go_upto_region 13 with fail
  go_region
  have RF := B1.out.set_ 0 (.int .i64 v)
  have RG := RF.set_ 1 (.int .i64 i)
  have q1 := RF.at 1 _ rfl
  have RE := (HE.out.set_ne r0 (by intro z e; cases e) (.int .i64 v)).set_ne q1 (by intro z e; cases e) (.int .i64 i)
  have UF := below_set_old (below_set_old U.out (by simp) (.int .i64 v) (p := ⟨w.heap.size + 1, 0, none⟩)) (by simp) (.int .i64 i) (p := ⟨w.heap.size + 1, 1, none⟩)
  go_wp2_with fail
  rw [HT.out]
  refine bodyPost_ret (v := .tuple #[.slice A4 EL.length c4, .agg #[.int .i64 v, .int .i64 i], .int .u8 0]) (res_tct Try.results15 rfl rfl (run_loadVar_row (P := Try.prog) _ _ _ _ _ _ _ RG.drew Try.underlying28 rfl (by kernel_rfl)) rfl) rfl ⟨A4, c4, rfl, ?_, UF.drew⟩
  exact RE.more (by simp [World.setCell])
set_option maxRecDepth 100000 in
set_option maxHeartbeats 12800000 in
theorem tr_0_8 (A : Option Addr) (bs : List Int) (c : Nat) (v i : Int) (w : World) (hA : IntsAt w w.heap.size .u8 A bs) (hz : Within 0 255 bs) (h8 : bs.length ≤ 5000) (hc : bs.length ≤ c) : Calls Try.prog 15 #[.int .u8 0, .int .u8 8, .slice A bs.length c, .agg #[.int .i64 v, .int .i64 i]] w (TranR (Sb.tran 0 8 bs v i) w) := by
  obtain ⟨TT, hTT⟩ : ∃ T, T = Sb.tran 0 8 bs v i := ⟨_, rfl⟩
  rw [← hTT]
  obtain ⟨ZL, hZL⟩ : ∃ Z, Z = bs.map Cmp.fromMuZ := ⟨_, rfl⟩
  have hzi : Within (-32768) 32767 ZL := by rw [hZL]; exact within_map hz fromMuZ_bd
  have hl8 : ZL.length ≤ 8000 := by rw [hZL, List.length_map]; omega
  have kD := Lib.hid fun (b : Nat) (W : World) hW hB => dec_mu (2 * ((bs.length : Int) - 4)) A bs c b W hW hz (by omega) hB
  unfold DecR at kD
  rw [← hZL] at kD
  have e1 : Sb.decE 0 bs (2 * ((bs.length : Int) - 4)) = (ZL, 0) := by unfold Sb.decE; rw [if_pos rfl, hZL]
  obtain ⟨EL, hEL⟩ : ∃ Z, Z = ZL.map Cmp.aZ := ⟨_, rfl⟩
  have kE := Lib.hid fun (A3 : Option Addr) (c3 b : Nat) (W : World) hW hB => enc_a v i A3 ZL c3 b W hW hzi hl8 hB
  unfold EncR at kE
  rw [← hEL] at kE
  have e2 : Sb.encE 8 v i ZL = (EL, (v, i), 0) := by unfold Sb.encE; rw [if_neg (by decide), if_pos rfl, hEL]
  have HT : Hid (TT = (EL, (v, i), 0)) := Lib.hid (by
    rw [hTT]; unfold Sb.tran
    rw [if_neg (by decide), if_neg (fun h => absurd h.1 (by decide)), e1]
    dsimp only
    rw [if_neg (by simp)]
    rw [e2]
    rw [if_neg (by simp)])
  have hnw : wrap64 (2 * ((bs.length : Int) - 4)) = 2 * ((bs.length : Int) - 4) := IntWalk.wrap64_in _ ⟨by omega, by omega⟩
  clear hz hTT e1 e2 hZL hEL hzi hl8
  have HA := Lib.hid ((hA.push (.cells #[.int .i64 v, .int .i64 i] 28)).push (.cells #[.int .i64 0, .int .i64 0] 28))
  have B0 := Lib.hid ((Blk.new w 28 #[.int .i64 v, .int .i64 i]).push (.cells #[.int .i64 0, .int .i64 0] 28))
  have B1 := Lib.hid (Blk.new1 w (.cells #[.int .i64 v, .int .i64 i] 28) 28 #[.int .i64 0, .int .i64 0])
  have U := Lib.hid (((Bel.refl w).push (.cells #[.int .i64 v, .int .i64 i] 28)).push (.cells #[.int .i64 0, .int .i64 0] 28))
  clear hA
  go_enter Try.func15, Try.ntmps15
  go_upto_region 1 with fail
  change Code.wp _ _ _ _ ((w.alloc (Obj.cells #[.int .i64 v, .int .i64 i] 28)).alloc (Obj.cells #[.int .i64 0, .int .i64 0] 28))
  obtain ⟨W, hW⟩ : ∃ W, W = (w.alloc (Obj.cells #[.int .i64 v, .int .i64 i] 28)).alloc (Obj.cells #[.int .i64 0, .int .i64 0] 28) := ⟨_, rfl⟩
  rw [← hW] at HA B0 B1 U ⊢
  clear hW
  go_wp2_with fail
  refine (codecs_any _).mono ?_
  rintro e w1 ⟨m1, a1, d1, rfl, C, hb⟩
  have kl1 := (look_codec C 0 (by omega) (by omega)).2
  rw [show cAt a1 d1 0 = cLaw a1 from rfl, show speechB 0 = true from rfl] at kl1
  simp only [cLaw, cDel] at kl1
  have HL1 := Lib.hid (C.l1.push (.cells #[.func (.func 67) #[] #[.pointer (some ⟨a1, 0, none⟩)], .func (.func 69) #[] #[.pointer (some ⟨a1, 0, none⟩)]] 96))
  replace HA := Lib.hid ((HA.out.later hb).push (.cells #[.func (.func 67) #[] #[.pointer (some ⟨a1, 0, none⟩)], .func (.func 69) #[] #[.pointer (some ⟨a1, 0, none⟩)]] 96))
  replace B0 := Lib.hid ((B0.out.later hb).push (.cells #[.func (.func 67) #[] #[.pointer (some ⟨a1, 0, none⟩)], .func (.func 69) #[] #[.pointer (some ⟨a1, 0, none⟩)]] 96))
  replace B1 := Lib.hid ((B1.out.later hb).push (.cells #[.func (.func 67) #[] #[.pointer (some ⟨a1, 0, none⟩)], .func (.func 69) #[] #[.pointer (some ⟨a1, 0, none⟩)]] 96))
  replace U := Lib.hid ((U.out.later hb).push (.cells #[.func (.func 67) #[] #[.pointer (some ⟨a1, 0, none⟩)], .func (.func 69) #[] #[.pointer (some ⟨a1, 0, none⟩)]] 96))
  have BC1 := Lib.hid (Blk.new w1 96 #[.func (.func 67) #[] #[.pointer (some ⟨a1, 0, none⟩)], .func (.func 69) #[] #[.pointer (some ⟨a1, 0, none⟩)]])
  clear C hb
  go_wp2_with fail
  refine (codecs_any _).mono ?_
  rintro e w2 ⟨m2, a2, d2, rfl, C, hb⟩
  have kl2 := (look_codec C 8 (by omega) (by omega)).2
  rw [show cAt a2 d2 8 = cLaw d2 from rfl, show speechB 8 = true from rfl] at kl2
  simp only [cLaw, cDel] at kl2
  have HL2 := Lib.hid (C.l2.push (.cells #[.func (.func 67) #[] #[.pointer (some ⟨d2, 0, none⟩)], .func (.func 69) #[] #[.pointer (some ⟨d2, 0, none⟩)]] 96))
  replace HA := Lib.hid ((HA.out.later hb).push (.cells #[.func (.func 67) #[] #[.pointer (some ⟨d2, 0, none⟩)], .func (.func 69) #[] #[.pointer (some ⟨d2, 0, none⟩)]] 96))
  replace B0 := Lib.hid ((B0.out.later hb).push (.cells #[.func (.func 67) #[] #[.pointer (some ⟨d2, 0, none⟩)], .func (.func 69) #[] #[.pointer (some ⟨d2, 0, none⟩)]] 96))
  replace B1 := Lib.hid ((B1.out.later hb).push (.cells #[.func (.func 67) #[] #[.pointer (some ⟨d2, 0, none⟩)], .func (.func 69) #[] #[.pointer (some ⟨d2, 0, none⟩)]] 96))
  replace U := Lib.hid ((U.out.later hb).push (.cells #[.func (.func 67) #[] #[.pointer (some ⟨d2, 0, none⟩)], .func (.func 69) #[] #[.pointer (some ⟨d2, 0, none⟩)]] 96))
  replace BC1 := Lib.hid ((BC1.out.later hb).push (.cells #[.func (.func 67) #[] #[.pointer (some ⟨d2, 0, none⟩)], .func (.func 69) #[] #[.pointer (some ⟨d2, 0, none⟩)]] 96))
  replace HL1 := Lib.hid ((HL1.out.later hb).push (.cells #[.func (.func 67) #[] #[.pointer (some ⟨d2, 0, none⟩)], .func (.func 69) #[] #[.pointer (some ⟨d2, 0, none⟩)]] 96))
  have BC2 := Lib.hid (Blk.new w2 96 #[.func (.func 67) #[] #[.pointer (some ⟨d2, 0, none⟩)], .func (.func 69) #[] #[.pointer (some ⟨d2, 0, none⟩)]])
  clear C hb
  have bc := BC1.out.at 1 _ rfl
  go_wp2_with fail
  refine (kD.out a1 _ HA.out HL1.out).mono ?_
  rintro e w3 ⟨A3, c3, rfl, hI, hb⟩
  have HI := Lib.hid hI.1
  replace B0 := Lib.hid (B0.out.later hb)
  replace B1 := Lib.hid (B1.out.later hb)
  replace U := Lib.hid (U.out.later hb)
  replace BC2 := Lib.hid (BC2.out.later hb)
  replace HL2 := Lib.hid (HL2.out.later hb)
  clear hI hb HA bc BC1 kD hnw HL1
  have bc0 := BC2.out.at 0 _ rfl
  have s0 := B0.out.at 0 _ rfl
  have s1 := B0.out.at 1 _ rfl
  go_wp2_with fail
  refine (kE.out A3 c3 d2 _ HI.out HL2.out).mono ?_
  rintro e w4 ⟨A4, c4, rfl, hE, hb⟩
  have HE := Lib.hid hE.1
  replace B1 := Lib.hid ((B1.out.later hb).push (.cells #[.int .i64 v, .int .i64 i] 28))
  replace U := Lib.hid ((U.out.later hb).push (.cells #[.int .i64 v, .int .i64 i] 28))
  replace HE := Lib.hid (HE.out.push (.cells #[.int .i64 v, .int .i64 i] 28))
  have BD := Lib.hid (Blk.new w4 28 #[.int .i64 v, .int .i64 i])
  clear hE hb bc0 s0 s1 B0 BC2 kE HI HL2
  have c0 := BD.out.at 0 _ rfl
  have c1 := BD.out.at 1 _ rfl
  have r0 := B1.out.at 0 _ rfl
  have r1 := B1.out.at 1 _ rfl
  have rz := B1.out.frozen
  go_upto_region 13 with fail
  go_region
  have RF := B1.out.set_ 0 (.int .i64 v)
  have RG := RF.set_ 1 (.int .i64 i)
  have q1 := RF.at 1 _ rfl
  have RE := (HE.out.set_ne r0 (by intro z e; cases e) (.int .i64 v)).set_ne q1 (by intro z e; cases e) (.int .i64 i)
  have UF := below_set_old (below_set_old U.out (by simp) (.int .i64 v) (p := ⟨w.heap.size + 1, 0, none⟩)) (by simp) (.int .i64 i) (p := ⟨w.heap.size + 1, 1, none⟩)
  go_wp2_with fail
  rw [HT.out]
  refine bodyPost_ret (v := .tuple #[.slice A4 EL.length c4, .agg #[.int .i64 v, .int .i64 i], .int .u8 0]) (res_tct Try.results15 rfl rfl (run_loadVar_row (P := Try.prog) _ _ _ _ _ _ _ RG.drew Try.underlying28 rfl (by kernel_rfl)) rfl) rfl ⟨A4, c4, rfl, ?_, UF.drew⟩
  exact RE.more (by simp [World.setCell])
set_option maxRecDepth 100000 in
set_option maxHeartbeats 12800000 in
theorem tr_0_96 (A : Option Addr) (bs : List Int) (c : Nat) (v i : Int) (w : World) (hA : IntsAt w w.heap.size .u8 A bs) (hz : Within 0 255 bs) (h8 : bs.length ≤ 5000) (hc : bs.length ≤ c) : Calls Try.prog 15 #[.int .u8 0, .int .u8 96, .slice A bs.length c, .agg #[.int .i64 v, .int .i64 i]] w (TranR (Sb.tran 0 96 bs v i) w) := by
  obtain ⟨TT, hTT⟩ : ∃ T, T = Sb.tran 0 96 bs v i := ⟨_, rfl⟩
  rw [← hTT]
  obtain ⟨ZL, hZL⟩ : ∃ Z, Z = bs.map Cmp.fromMuZ := ⟨_, rfl⟩
  have hzi : Within (-32768) 32767 ZL := by rw [hZL]; exact within_map hz fromMuZ_bd
  have hl8 : ZL.length ≤ 8000 := by rw [hZL, List.length_map]; omega
  have kD := Lib.hid fun (b : Nat) (W : World) hW hB => dec_mu (2 * ((bs.length : Int) - 4)) A bs c b W hW hz (by omega) hB
  unfold DecR at kD
  rw [← hZL] at kD
  have e1 : Sb.decE 0 bs (2 * ((bs.length : Int) - 4)) = (ZL, 0) := by unfold Sb.decE; rw [if_pos rfl, hZL]
  have kE := Lib.hid fun (A3 : Option Addr) (c3 : Nat) (W : World) hW => Pack_any v i W A3 ZL c3 hW hzi
  obtain ⟨P, hP⟩ : ∃ P, P = Dlt.packR v i ZL := ⟨_, rfl⟩
  rw [← hP] at kE
  have HP := Lib.hid hP
  clear hP
  obtain ⟨EL, P2, P3, P4⟩ := P
  dsimp only at kE
  have e2 : Sb.encE 96 v i ZL = (EL, (P2, P3), P4) := by unfold Sb.encE; rw [if_neg (by decide), if_neg (by decide), ← HP.out]
  have HT : Hid (TT = if P4 ≠ 0 then ([], (0, 0), P4) else (EL, (P2, P3), P4)) := Lib.hid (by
    rw [hTT]; unfold Sb.tran
    rw [if_neg (by decide), if_neg (fun h => absurd h.1 (by decide)), e1]
    dsimp only
    rw [if_neg (by simp)]
    rw [e2])
  have hnw : wrap64 (2 * ((bs.length : Int) - 4)) = 2 * ((bs.length : Int) - 4) := IntWalk.wrap64_in _ ⟨by omega, by omega⟩
  clear hz hTT e1 e2 hZL hzi hl8
  have HA := Lib.hid ((hA.push (.cells #[.int .i64 v, .int .i64 i] 28)).push (.cells #[.int .i64 0, .int .i64 0] 28))
  have B0 := Lib.hid ((Blk.new w 28 #[.int .i64 v, .int .i64 i]).push (.cells #[.int .i64 0, .int .i64 0] 28))
  have B1 := Lib.hid (Blk.new1 w (.cells #[.int .i64 v, .int .i64 i] 28) 28 #[.int .i64 0, .int .i64 0])
  have U := Lib.hid (((Bel.refl w).push (.cells #[.int .i64 v, .int .i64 i] 28)).push (.cells #[.int .i64 0, .int .i64 0] 28))
  clear hA
  go_enter Try.func15, Try.ntmps15
  go_upto_region 1 with fail
  change Code.wp _ _ _ _ ((w.alloc (Obj.cells #[.int .i64 v, .int .i64 i] 28)).alloc (Obj.cells #[.int .i64 0, .int .i64 0] 28))
  obtain ⟨W, hW⟩ : ∃ W, W = (w.alloc (Obj.cells #[.int .i64 v, .int .i64 i] 28)).alloc (Obj.cells #[.int .i64 0, .int .i64 0] 28) := ⟨_, rfl⟩
  rw [← hW] at HA B0 B1 U ⊢
  clear hW
  go_wp2_with fail
  refine (codecs_any _).mono ?_
  rintro e w1 ⟨m1, a1, d1, rfl, C, hb⟩
  have kl1 := (look_codec C 0 (by omega) (by omega)).2
  rw [show cAt a1 d1 0 = cLaw a1 from rfl, show speechB 0 = true from rfl] at kl1
  simp only [cLaw, cDel] at kl1
  have HL1 := Lib.hid (C.l1.push (.cells #[.func (.func 67) #[] #[.pointer (some ⟨a1, 0, none⟩)], .func (.func 69) #[] #[.pointer (some ⟨a1, 0, none⟩)]] 96))
  replace HA := Lib.hid ((HA.out.later hb).push (.cells #[.func (.func 67) #[] #[.pointer (some ⟨a1, 0, none⟩)], .func (.func 69) #[] #[.pointer (some ⟨a1, 0, none⟩)]] 96))
  replace B0 := Lib.hid ((B0.out.later hb).push (.cells #[.func (.func 67) #[] #[.pointer (some ⟨a1, 0, none⟩)], .func (.func 69) #[] #[.pointer (some ⟨a1, 0, none⟩)]] 96))
  replace B1 := Lib.hid ((B1.out.later hb).push (.cells #[.func (.func 67) #[] #[.pointer (some ⟨a1, 0, none⟩)], .func (.func 69) #[] #[.pointer (some ⟨a1, 0, none⟩)]] 96))
  replace U := Lib.hid ((U.out.later hb).push (.cells #[.func (.func 67) #[] #[.pointer (some ⟨a1, 0, none⟩)], .func (.func 69) #[] #[.pointer (some ⟨a1, 0, none⟩)]] 96))
  have BC1 := Lib.hid (Blk.new w1 96 #[.func (.func 67) #[] #[.pointer (some ⟨a1, 0, none⟩)], .func (.func 69) #[] #[.pointer (some ⟨a1, 0, none⟩)]])
  clear C hb
  go_wp2_with fail
  refine (codecs_any _).mono ?_
  rintro e w2 ⟨m2, a2, d2, rfl, C, hb⟩
  have kl2 := (look_codec C 96 (by omega) (by omega)).2
  rw [show cAt a2 d2 96 = cDel from rfl, show speechB 96 = true from rfl] at kl2
  simp only [cLaw, cDel] at kl2
  replace HA := Lib.hid ((HA.out.later hb).push (.cells #[.func (.func 43) #[] #[], .func (.func 44) #[] #[]] 96))
  replace B0 := Lib.hid ((B0.out.later hb).push (.cells #[.func (.func 43) #[] #[], .func (.func 44) #[] #[]] 96))
  replace B1 := Lib.hid ((B1.out.later hb).push (.cells #[.func (.func 43) #[] #[], .func (.func 44) #[] #[]] 96))
  replace U := Lib.hid ((U.out.later hb).push (.cells #[.func (.func 43) #[] #[], .func (.func 44) #[] #[]] 96))
  replace BC1 := Lib.hid ((BC1.out.later hb).push (.cells #[.func (.func 43) #[] #[], .func (.func 44) #[] #[]] 96))
  replace HL1 := Lib.hid ((HL1.out.later hb).push (.cells #[.func (.func 43) #[] #[], .func (.func 44) #[] #[]] 96))
  have BC2 := Lib.hid (Blk.new w2 96 #[.func (.func 43) #[] #[], .func (.func 44) #[] #[]])
  clear C hb
  have bc := BC1.out.at 1 _ rfl
  go_wp2_with fail
  refine (kD.out a1 _ HA.out HL1.out).mono ?_
  rintro e w3 ⟨A3, c3, rfl, hI, hb⟩
  have HI := Lib.hid hI.1
  replace B0 := Lib.hid (B0.out.later hb)
  replace B1 := Lib.hid (B1.out.later hb)
  replace U := Lib.hid (U.out.later hb)
  replace BC2 := Lib.hid (BC2.out.later hb)
  clear hI hb HA bc BC1 kD hnw HL1
  have bc0 := BC2.out.at 0 _ rfl
  have s0 := B0.out.at 0 _ rfl
  have s1 := B0.out.at 1 _ rfl
  go_wp2_with fail
  refine (kE.out A3 c3 _ HI.out).mono ?_
  rintro e w4 ⟨A4, c4, rfl, hE, hb⟩
  have HE := Lib.hid hE
  replace B1 := Lib.hid ((B1.out.later hb).push (.cells #[.int .i64 P2, .int .i64 P3] 28))
  replace U := Lib.hid ((U.out.later hb).push (.cells #[.int .i64 P2, .int .i64 P3] 28))
  replace HE := Lib.hid (HE.out.push (.cells #[.int .i64 P2, .int .i64 P3] 28))
  have BD := Lib.hid (Blk.new w4 28 #[.int .i64 P2, .int .i64 P3])
  clear hE hb bc0 s0 s1 B0 BC2 kE HI
  by_cases hp4 : P4 = 0
  rotate_left
  · have e3 := HT.out
    rw [if_pos hp4] at e3
    subst e3
    clear HT
    have y0 := B1.out.at 0 _ rfl
    have y1 := B1.out.at 1 _ rfl
    have yz := B1.out.frozen
    go_wp2_with fail
    have Y1 := (B1.out.set_ 0 (.int .i64 0)).set_ 1 (.int .i64 0)
    refine bodyPost_ret (v := .tuple #[.slice none 0 0, .agg #[.int .i64 0, .int .i64 0], .int .u8 P4]) (res_tct Try.results15 rfl rfl (run_loadVar_row (P := Try.prog) _ _ _ _ _ _ _ Y1 Try.underlying28 rfl (by kernel_rfl)) rfl) rfl ⟨none, 0, rfl, IntsAt.nil, below_set_old (below_set_old U.out (by simp) _) (by simp) _⟩
  subst hp4
  replace HT := Lib.hid (HT.out.trans (if_neg (by simp)))
  have c0 := BD.out.at 0 _ rfl
  have c1 := BD.out.at 1 _ rfl
  have r0 := B1.out.at 0 _ rfl
  have r1 := B1.out.at 1 _ rfl
  have rz := B1.out.frozen
  go_upto_region 13 with fail
  go_region
  have RF := B1.out.set_ 0 (.int .i64 P2)
  have RG := RF.set_ 1 (.int .i64 P3)
  have q1 := RF.at 1 _ rfl
  have RE := (HE.out.set_ne r0 (by intro z e; cases e) (.int .i64 P2)).set_ne q1 (by intro z e; cases e) (.int .i64 P3)
  have UF := below_set_old (below_set_old U.out (by simp) (.int .i64 P2) (p := ⟨w.heap.size + 1, 0, none⟩)) (by simp) (.int .i64 P3) (p := ⟨w.heap.size + 1, 1, none⟩)
  go_wp2_with fail
  rw [HT.out]
  refine bodyPost_ret (v := .tuple #[.slice A4 EL.length c4, .agg #[.int .i64 P2, .int .i64 P3], .int .u8 0]) (res_tct Try.results15 rfl rfl (run_loadVar_row (P := Try.prog) _ _ _ _ _ _ _ RG.drew Try.underlying28 rfl (by kernel_rfl)) rfl) rfl ⟨A4, c4, rfl, ?_, UF.drew⟩
  exact RE.more (by simp [World.setCell])
set_option maxRecDepth 100000 in
set_option maxHeartbeats 12800000 in
theorem tr_8_0 (A : Option Addr) (bs : List Int) (c : Nat) (v i : Int) (w : World) (hA : IntsAt w w.heap.size .u8 A bs) (hz : Within 0 255 bs) (h8 : bs.length ≤ 5000) (hc : bs.length ≤ c) : Calls Try.prog 15 #[.int .u8 8, .int .u8 0, .slice A bs.length c, .agg #[.int .i64 v, .int .i64 i]] w (TranR (Sb.tran 8 0 bs v i) w) := by
  obtain ⟨TT, hTT⟩ : ∃ T, T = Sb.tran 8 0 bs v i := ⟨_, rfl⟩
  rw [← hTT]
  obtain ⟨ZL, hZL⟩ : ∃ Z, Z = bs.map Cmp.fromAZ := ⟨_, rfl⟩
  have hzi : Within (-32768) 32767 ZL := by rw [hZL]; exact within_map hz fromAZ_bd
  have hl8 : ZL.length ≤ 8000 := by rw [hZL, List.length_map]; omega
  have kD := Lib.hid fun (b : Nat) (W : World) hW hB => dec_a (2 * ((bs.length : Int) - 4)) A bs c b W hW hz (by omega) hB
  unfold DecR at kD
  rw [← hZL] at kD
  have e1 : Sb.decE 8 bs (2 * ((bs.length : Int) - 4)) = (ZL, 0) := by unfold Sb.decE; rw [if_neg (by decide), if_pos rfl, hZL]
  obtain ⟨EL, hEL⟩ : ∃ Z, Z = ZL.map Cmp.muZ := ⟨_, rfl⟩
  have kE := Lib.hid fun (A3 : Option Addr) (c3 b : Nat) (W : World) hW hB => enc_mu v i A3 ZL c3 b W hW hzi hl8 hB
  unfold EncR at kE
  rw [← hEL] at kE
  have e2 : Sb.encE 0 v i ZL = (EL, (v, i), 0) := by unfold Sb.encE; rw [if_pos rfl, hEL]
  have HT : Hid (TT = (EL, (v, i), 0)) := Lib.hid (by
    rw [hTT]; unfold Sb.tran
    rw [if_neg (by decide), if_neg (fun h => absurd h.1 (by decide)), e1]
    dsimp only
    rw [if_neg (by simp)]
    rw [e2]
    rw [if_neg (by simp)])
  have hnw : wrap64 (2 * ((bs.length : Int) - 4)) = 2 * ((bs.length : Int) - 4) := IntWalk.wrap64_in _ ⟨by omega, by omega⟩
  clear hz hTT e1 e2 hZL hEL hzi hl8
  have HA := Lib.hid ((hA.push (.cells #[.int .i64 v, .int .i64 i] 28)).push (.cells #[.int .i64 0, .int .i64 0] 28))
  have B0 := Lib.hid ((Blk.new w 28 #[.int .i64 v, .int .i64 i]).push (.cells #[.int .i64 0, .int .i64 0] 28))
  have B1 := Lib.hid (Blk.new1 w (.cells #[.int .i64 v, .int .i64 i] 28) 28 #[.int .i64 0, .int .i64 0])
  have U := Lib.hid (((Bel.refl w).push (.cells #[.int .i64 v, .int .i64 i] 28)).push (.cells #[.int .i64 0, .int .i64 0] 28))
  clear hA
  go_enter Try.func15, Try.ntmps15
  go_upto_region 1 with fail
  change Code.wp _ _ _ _ ((w.alloc (Obj.cells #[.int .i64 v, .int .i64 i] 28)).alloc (Obj.cells #[.int .i64 0, .int .i64 0] 28))
  obtain ⟨W, hW⟩ : ∃ W, W = (w.alloc (Obj.cells #[.int .i64 v, .int .i64 i] 28)).alloc (Obj.cells #[.int .i64 0, .int .i64 0] 28) := ⟨_, rfl⟩
  rw [← hW] at HA B0 B1 U ⊢
  clear hW
  go_wp2_with fail
  refine (codecs_any _).mono ?_
  rintro e w1 ⟨m1, a1, d1, rfl, C, hb⟩
  have kl1 := (look_codec C 8 (by omega) (by omega)).2
  rw [show cAt a1 d1 8 = cLaw d1 from rfl, show speechB 8 = true from rfl] at kl1
  simp only [cLaw, cDel] at kl1
  have HL1 := Lib.hid (C.l2.push (.cells #[.func (.func 67) #[] #[.pointer (some ⟨d1, 0, none⟩)], .func (.func 69) #[] #[.pointer (some ⟨d1, 0, none⟩)]] 96))
  replace HA := Lib.hid ((HA.out.later hb).push (.cells #[.func (.func 67) #[] #[.pointer (some ⟨d1, 0, none⟩)], .func (.func 69) #[] #[.pointer (some ⟨d1, 0, none⟩)]] 96))
  replace B0 := Lib.hid ((B0.out.later hb).push (.cells #[.func (.func 67) #[] #[.pointer (some ⟨d1, 0, none⟩)], .func (.func 69) #[] #[.pointer (some ⟨d1, 0, none⟩)]] 96))
  replace B1 := Lib.hid ((B1.out.later hb).push (.cells #[.func (.func 67) #[] #[.pointer (some ⟨d1, 0, none⟩)], .func (.func 69) #[] #[.pointer (some ⟨d1, 0, none⟩)]] 96))
  replace U := Lib.hid ((U.out.later hb).push (.cells #[.func (.func 67) #[] #[.pointer (some ⟨d1, 0, none⟩)], .func (.func 69) #[] #[.pointer (some ⟨d1, 0, none⟩)]] 96))
  have BC1 := Lib.hid (Blk.new w1 96 #[.func (.func 67) #[] #[.pointer (some ⟨d1, 0, none⟩)], .func (.func 69) #[] #[.pointer (some ⟨d1, 0, none⟩)]])
  clear C hb
  go_wp2_with fail
  refine (codecs_any _).mono ?_
  rintro e w2 ⟨m2, a2, d2, rfl, C, hb⟩
  have kl2 := (look_codec C 0 (by omega) (by omega)).2
  rw [show cAt a2 d2 0 = cLaw a2 from rfl, show speechB 0 = true from rfl] at kl2
  simp only [cLaw, cDel] at kl2
  have HL2 := Lib.hid (C.l1.push (.cells #[.func (.func 67) #[] #[.pointer (some ⟨a2, 0, none⟩)], .func (.func 69) #[] #[.pointer (some ⟨a2, 0, none⟩)]] 96))
  replace HA := Lib.hid ((HA.out.later hb).push (.cells #[.func (.func 67) #[] #[.pointer (some ⟨a2, 0, none⟩)], .func (.func 69) #[] #[.pointer (some ⟨a2, 0, none⟩)]] 96))
  replace B0 := Lib.hid ((B0.out.later hb).push (.cells #[.func (.func 67) #[] #[.pointer (some ⟨a2, 0, none⟩)], .func (.func 69) #[] #[.pointer (some ⟨a2, 0, none⟩)]] 96))
  replace B1 := Lib.hid ((B1.out.later hb).push (.cells #[.func (.func 67) #[] #[.pointer (some ⟨a2, 0, none⟩)], .func (.func 69) #[] #[.pointer (some ⟨a2, 0, none⟩)]] 96))
  replace U := Lib.hid ((U.out.later hb).push (.cells #[.func (.func 67) #[] #[.pointer (some ⟨a2, 0, none⟩)], .func (.func 69) #[] #[.pointer (some ⟨a2, 0, none⟩)]] 96))
  replace BC1 := Lib.hid ((BC1.out.later hb).push (.cells #[.func (.func 67) #[] #[.pointer (some ⟨a2, 0, none⟩)], .func (.func 69) #[] #[.pointer (some ⟨a2, 0, none⟩)]] 96))
  replace HL1 := Lib.hid ((HL1.out.later hb).push (.cells #[.func (.func 67) #[] #[.pointer (some ⟨a2, 0, none⟩)], .func (.func 69) #[] #[.pointer (some ⟨a2, 0, none⟩)]] 96))
  have BC2 := Lib.hid (Blk.new w2 96 #[.func (.func 67) #[] #[.pointer (some ⟨a2, 0, none⟩)], .func (.func 69) #[] #[.pointer (some ⟨a2, 0, none⟩)]])
  clear C hb
  have bc := BC1.out.at 1 _ rfl
  go_wp2_with fail
  refine (kD.out d1 _ HA.out HL1.out).mono ?_
  rintro e w3 ⟨A3, c3, rfl, hI, hb⟩
  have HI := Lib.hid hI.1
  replace B0 := Lib.hid (B0.out.later hb)
  replace B1 := Lib.hid (B1.out.later hb)
  replace U := Lib.hid (U.out.later hb)
  replace BC2 := Lib.hid (BC2.out.later hb)
  replace HL2 := Lib.hid (HL2.out.later hb)
  clear hI hb HA bc BC1 kD hnw HL1
  have bc0 := BC2.out.at 0 _ rfl
  have s0 := B0.out.at 0 _ rfl
  have s1 := B0.out.at 1 _ rfl
  go_wp2_with fail
  refine (kE.out A3 c3 a2 _ HI.out HL2.out).mono ?_
  rintro e w4 ⟨A4, c4, rfl, hE, hb⟩
  have HE := Lib.hid hE.1
  replace B1 := Lib.hid ((B1.out.later hb).push (.cells #[.int .i64 v, .int .i64 i] 28))
  replace U := Lib.hid ((U.out.later hb).push (.cells #[.int .i64 v, .int .i64 i] 28))
  replace HE := Lib.hid (HE.out.push (.cells #[.int .i64 v, .int .i64 i] 28))
  have BD := Lib.hid (Blk.new w4 28 #[.int .i64 v, .int .i64 i])
  clear hE hb bc0 s0 s1 B0 BC2 kE HI HL2
  have c0 := BD.out.at 0 _ rfl
  have c1 := BD.out.at 1 _ rfl
  have r0 := B1.out.at 0 _ rfl
  have r1 := B1.out.at 1 _ rfl
  have rz := B1.out.frozen
  go_upto_region 13 with fail
  go_region
  have RF := B1.out.set_ 0 (.int .i64 v)
  have RG := RF.set_ 1 (.int .i64 i)
  have q1 := RF.at 1 _ rfl
  have RE := (HE.out.set_ne r0 (by intro z e; cases e) (.int .i64 v)).set_ne q1 (by intro z e; cases e) (.int .i64 i)
  have UF := below_set_old (below_set_old U.out (by simp) (.int .i64 v) (p := ⟨w.heap.size + 1, 0, none⟩)) (by simp) (.int .i64 i) (p := ⟨w.heap.size + 1, 1, none⟩)
  go_wp2_with fail
  rw [HT.out]
  refine bodyPost_ret (v := .tuple #[.slice A4 EL.length c4, .agg #[.int .i64 v, .int .i64 i], .int .u8 0]) (res_tct Try.results15 rfl rfl (run_loadVar_row (P := Try.prog) _ _ _ _ _ _ _ RG.drew Try.underlying28 rfl (by kernel_rfl)) rfl) rfl ⟨A4, c4, rfl, ?_, UF.drew⟩
  exact RE.more (by simp [World.setCell])
set_option maxRecDepth 100000 in
set_option maxHeartbeats 12800000 in
theorem tr_8_8 (A : Option Addr) (bs : List Int) (c : Nat) (v i : Int) (w : World) (hA : IntsAt w w.heap.size .u8 A bs) (hz : Within 0 255 bs) (h8 : bs.length ≤ 5000) (hc : bs.length ≤ c) : Calls Try.prog 15 #[.int .u8 8, .int .u8 8, .slice A bs.length c, .agg #[.int .i64 v, .int .i64 i]] w (TranR (Sb.tran 8 8 bs v i) w) := by
  obtain ⟨TT, hTT⟩ : ∃ T, T = Sb.tran 8 8 bs v i := ⟨_, rfl⟩
  rw [← hTT]
  obtain ⟨ZL, hZL⟩ : ∃ Z, Z = bs.map Cmp.fromAZ := ⟨_, rfl⟩
  have hzi : Within (-32768) 32767 ZL := by rw [hZL]; exact within_map hz fromAZ_bd
  have hl8 : ZL.length ≤ 8000 := by rw [hZL, List.length_map]; omega
  have kD := Lib.hid fun (b : Nat) (W : World) hW hB => dec_a (2 * ((bs.length : Int) - 4)) A bs c b W hW hz (by omega) hB
  unfold DecR at kD
  rw [← hZL] at kD
  have e1 : Sb.decE 8 bs (2 * ((bs.length : Int) - 4)) = (ZL, 0) := by unfold Sb.decE; rw [if_neg (by decide), if_pos rfl, hZL]
  obtain ⟨EL, hEL⟩ : ∃ Z, Z = ZL.map Cmp.aZ := ⟨_, rfl⟩
  have kE := Lib.hid fun (A3 : Option Addr) (c3 b : Nat) (W : World) hW hB => enc_a v i A3 ZL c3 b W hW hzi hl8 hB
  unfold EncR at kE
  rw [← hEL] at kE
  have e2 : Sb.encE 8 v i ZL = (EL, (v, i), 0) := by unfold Sb.encE; rw [if_neg (by decide), if_pos rfl, hEL]
  have HT : Hid (TT = (EL, (v, i), 0)) := Lib.hid (by
    rw [hTT]; unfold Sb.tran
    rw [if_neg (by decide), if_neg (fun h => absurd h.1 (by decide)), e1]
    dsimp only
    rw [if_neg (by simp)]
    rw [e2]
    rw [if_neg (by simp)])
  have hnw : wrap64 (2 * ((bs.length : Int) - 4)) = 2 * ((bs.length : Int) - 4) := IntWalk.wrap64_in _ ⟨by omega, by omega⟩
  clear hz hTT e1 e2 hZL hEL hzi hl8
  have HA := Lib.hid ((hA.push (.cells #[.int .i64 v, .int .i64 i] 28)).push (.cells #[.int .i64 0, .int .i64 0] 28))
  have B0 := Lib.hid ((Blk.new w 28 #[.int .i64 v, .int .i64 i]).push (.cells #[.int .i64 0, .int .i64 0] 28))
  have B1 := Lib.hid (Blk.new1 w (.cells #[.int .i64 v, .int .i64 i] 28) 28 #[.int .i64 0, .int .i64 0])
  have U := Lib.hid (((Bel.refl w).push (.cells #[.int .i64 v, .int .i64 i] 28)).push (.cells #[.int .i64 0, .int .i64 0] 28))
  clear hA
  go_enter Try.func15, Try.ntmps15
  go_upto_region 1 with fail
  change Code.wp _ _ _ _ ((w.alloc (Obj.cells #[.int .i64 v, .int .i64 i] 28)).alloc (Obj.cells #[.int .i64 0, .int .i64 0] 28))
  obtain ⟨W, hW⟩ : ∃ W, W = (w.alloc (Obj.cells #[.int .i64 v, .int .i64 i] 28)).alloc (Obj.cells #[.int .i64 0, .int .i64 0] 28) := ⟨_, rfl⟩
  rw [← hW] at HA B0 B1 U ⊢
  clear hW
  go_wp2_with fail
  refine (codecs_any _).mono ?_
  rintro e w1 ⟨m1, a1, d1, rfl, C, hb⟩
  have kl1 := (look_codec C 8 (by omega) (by omega)).2
  rw [show cAt a1 d1 8 = cLaw d1 from rfl, show speechB 8 = true from rfl] at kl1
  simp only [cLaw, cDel] at kl1
  have HL1 := Lib.hid (C.l2.push (.cells #[.func (.func 67) #[] #[.pointer (some ⟨d1, 0, none⟩)], .func (.func 69) #[] #[.pointer (some ⟨d1, 0, none⟩)]] 96))
  replace HA := Lib.hid ((HA.out.later hb).push (.cells #[.func (.func 67) #[] #[.pointer (some ⟨d1, 0, none⟩)], .func (.func 69) #[] #[.pointer (some ⟨d1, 0, none⟩)]] 96))
  replace B0 := Lib.hid ((B0.out.later hb).push (.cells #[.func (.func 67) #[] #[.pointer (some ⟨d1, 0, none⟩)], .func (.func 69) #[] #[.pointer (some ⟨d1, 0, none⟩)]] 96))
  replace B1 := Lib.hid ((B1.out.later hb).push (.cells #[.func (.func 67) #[] #[.pointer (some ⟨d1, 0, none⟩)], .func (.func 69) #[] #[.pointer (some ⟨d1, 0, none⟩)]] 96))
  replace U := Lib.hid ((U.out.later hb).push (.cells #[.func (.func 67) #[] #[.pointer (some ⟨d1, 0, none⟩)], .func (.func 69) #[] #[.pointer (some ⟨d1, 0, none⟩)]] 96))
  have BC1 := Lib.hid (Blk.new w1 96 #[.func (.func 67) #[] #[.pointer (some ⟨d1, 0, none⟩)], .func (.func 69) #[] #[.pointer (some ⟨d1, 0, none⟩)]])
  clear C hb
  go_wp2_with fail
  refine (codecs_any _).mono ?_
  rintro e w2 ⟨m2, a2, d2, rfl, C, hb⟩
  have kl2 := (look_codec C 8 (by omega) (by omega)).2
  rw [show cAt a2 d2 8 = cLaw d2 from rfl, show speechB 8 = true from rfl] at kl2
  simp only [cLaw, cDel] at kl2
  have HL2 := Lib.hid (C.l2.push (.cells #[.func (.func 67) #[] #[.pointer (some ⟨d2, 0, none⟩)], .func (.func 69) #[] #[.pointer (some ⟨d2, 0, none⟩)]] 96))
  replace HA := Lib.hid ((HA.out.later hb).push (.cells #[.func (.func 67) #[] #[.pointer (some ⟨d2, 0, none⟩)], .func (.func 69) #[] #[.pointer (some ⟨d2, 0, none⟩)]] 96))
  replace B0 := Lib.hid ((B0.out.later hb).push (.cells #[.func (.func 67) #[] #[.pointer (some ⟨d2, 0, none⟩)], .func (.func 69) #[] #[.pointer (some ⟨d2, 0, none⟩)]] 96))
  replace B1 := Lib.hid ((B1.out.later hb).push (.cells #[.func (.func 67) #[] #[.pointer (some ⟨d2, 0, none⟩)], .func (.func 69) #[] #[.pointer (some ⟨d2, 0, none⟩)]] 96))
  replace U := Lib.hid ((U.out.later hb).push (.cells #[.func (.func 67) #[] #[.pointer (some ⟨d2, 0, none⟩)], .func (.func 69) #[] #[.pointer (some ⟨d2, 0, none⟩)]] 96))
  replace BC1 := Lib.hid ((BC1.out.later hb).push (.cells #[.func (.func 67) #[] #[.pointer (some ⟨d2, 0, none⟩)], .func (.func 69) #[] #[.pointer (some ⟨d2, 0, none⟩)]] 96))
  replace HL1 := Lib.hid ((HL1.out.later hb).push (.cells #[.func (.func 67) #[] #[.pointer (some ⟨d2, 0, none⟩)], .func (.func 69) #[] #[.pointer (some ⟨d2, 0, none⟩)]] 96))
  have BC2 := Lib.hid (Blk.new w2 96 #[.func (.func 67) #[] #[.pointer (some ⟨d2, 0, none⟩)], .func (.func 69) #[] #[.pointer (some ⟨d2, 0, none⟩)]])
  clear C hb
  have bc := BC1.out.at 1 _ rfl
  go_wp2_with fail
  refine (kD.out d1 _ HA.out HL1.out).mono ?_
  rintro e w3 ⟨A3, c3, rfl, hI, hb⟩
  have HI := Lib.hid hI.1
  replace B0 := Lib.hid (B0.out.later hb)
  replace B1 := Lib.hid (B1.out.later hb)
  replace U := Lib.hid (U.out.later hb)
  replace BC2 := Lib.hid (BC2.out.later hb)
  replace HL2 := Lib.hid (HL2.out.later hb)
  clear hI hb HA bc BC1 kD hnw HL1
  have bc0 := BC2.out.at 0 _ rfl
  have s0 := B0.out.at 0 _ rfl
  have s1 := B0.out.at 1 _ rfl
  go_wp2_with fail
  refine (kE.out A3 c3 d2 _ HI.out HL2.out).mono ?_
  rintro e w4 ⟨A4, c4, rfl, hE, hb⟩
  have HE := Lib.hid hE.1
  replace B1 := Lib.hid ((B1.out.later hb).push (.cells #[.int .i64 v, .int .i64 i] 28))
  replace U := Lib.hid ((U.out.later hb).push (.cells #[.int .i64 v, .int .i64 i] 28))
  replace HE := Lib.hid (HE.out.push (.cells #[.int .i64 v, .int .i64 i] 28))
  have BD := Lib.hid (Blk.new w4 28 #[.int .i64 v, .int .i64 i])
  clear hE hb bc0 s0 s1 B0 BC2 kE HI HL2
  have c0 := BD.out.at 0 _ rfl
  have c1 := BD.out.at 1 _ rfl
  have r0 := B1.out.at 0 _ rfl
  have r1 := B1.out.at 1 _ rfl
  have rz := B1.out.frozen
  go_upto_region 13 with fail
  go_region
  have RF := B1.out.set_ 0 (.int .i64 v)
  have RG := RF.set_ 1 (.int .i64 i)
  have q1 := RF.at 1 _ rfl
  have RE := (HE.out.set_ne r0 (by intro z e; cases e) (.int .i64 v)).set_ne q1 (by intro z e; cases e) (.int .i64 i)
  have UF := below_set_old (below_set_old U.out (by simp) (.int .i64 v) (p := ⟨w.heap.size + 1, 0, none⟩)) (by simp) (.int .i64 i) (p := ⟨w.heap.size + 1, 1, none⟩)
  go_wp2_with fail
  rw [HT.out]
  refine bodyPost_ret (v := .tuple #[.slice A4 EL.length c4, .agg #[.int .i64 v, .int .i64 i], .int .u8 0]) (res_tct Try.results15 rfl rfl (run_loadVar_row (P := Try.prog) _ _ _ _ _ _ _ RG.drew Try.underlying28 rfl (by kernel_rfl)) rfl) rfl ⟨A4, c4, rfl, ?_, UF.drew⟩
  exact RE.more (by simp [World.setCell])
set_option maxRecDepth 100000 in
set_option maxHeartbeats 12800000 in
theorem tr_8_96 (A : Option Addr) (bs : List Int) (c : Nat) (v i : Int) (w : World) (hA : IntsAt w w.heap.size .u8 A bs) (hz : Within 0 255 bs) (h8 : bs.length ≤ 5000) (hc : bs.length ≤ c) : Calls Try.prog 15 #[.int .u8 8, .int .u8 96, .slice A bs.length c, .agg #[.int .i64 v, .int .i64 i]] w (TranR (Sb.tran 8 96 bs v i) w) := by
  obtain ⟨TT, hTT⟩ : ∃ T, T = Sb.tran 8 96 bs v i := ⟨_, rfl⟩
  rw [← hTT]
  obtain ⟨ZL, hZL⟩ : ∃ Z, Z = bs.map Cmp.fromAZ := ⟨_, rfl⟩
  have hzi : Within (-32768) 32767 ZL := by rw [hZL]; exact within_map hz fromAZ_bd
  have hl8 : ZL.length ≤ 8000 := by rw [hZL, List.length_map]; omega
  have kD := Lib.hid fun (b : Nat) (W : World) hW hB => dec_a (2 * ((bs.length : Int) - 4)) A bs c b W hW hz (by omega) hB
  unfold DecR at kD
  rw [← hZL] at kD
  have e1 : Sb.decE 8 bs (2 * ((bs.length : Int) - 4)) = (ZL, 0) := by unfold Sb.decE; rw [if_neg (by decide), if_pos rfl, hZL]
  have kE := Lib.hid fun (A3 : Option Addr) (c3 : Nat) (W : World) hW => Pack_any v i W A3 ZL c3 hW hzi
  obtain ⟨P, hP⟩ : ∃ P, P = Dlt.packR v i ZL := ⟨_, rfl⟩
  rw [← hP] at kE
  have HP := Lib.hid hP
  clear hP
  obtain ⟨EL, P2, P3, P4⟩ := P
  dsimp only at kE
  have e2 : Sb.encE 96 v i ZL = (EL, (P2, P3), P4) := by unfold Sb.encE; rw [if_neg (by decide), if_neg (by decide), ← HP.out]
  have HT : Hid (TT = if P4 ≠ 0 then ([], (0, 0), P4) else (EL, (P2, P3), P4)) := Lib.hid (by
    rw [hTT]; unfold Sb.tran
    rw [if_neg (by decide), if_neg (fun h => absurd h.1 (by decide)), e1]
    dsimp only
    rw [if_neg (by simp)]
    rw [e2])
  have hnw : wrap64 (2 * ((bs.length : Int) - 4)) = 2 * ((bs.length : Int) - 4) := IntWalk.wrap64_in _ ⟨by omega, by omega⟩
  clear hz hTT e1 e2 hZL hzi hl8
  have HA := Lib.hid ((hA.push (.cells #[.int .i64 v, .int .i64 i] 28)).push (.cells #[.int .i64 0, .int .i64 0] 28))
  have B0 := Lib.hid ((Blk.new w 28 #[.int .i64 v, .int .i64 i]).push (.cells #[.int .i64 0, .int .i64 0] 28))
  have B1 := Lib.hid (Blk.new1 w (.cells #[.int .i64 v, .int .i64 i] 28) 28 #[.int .i64 0, .int .i64 0])
  have U := Lib.hid (((Bel.refl w).push (.cells #[.int .i64 v, .int .i64 i] 28)).push (.cells #[.int .i64 0, .int .i64 0] 28))
  clear hA
  go_enter Try.func15, Try.ntmps15
  go_upto_region 1 with fail
  change Code.wp _ _ _ _ ((w.alloc (Obj.cells #[.int .i64 v, .int .i64 i] 28)).alloc (Obj.cells #[.int .i64 0, .int .i64 0] 28))
  obtain ⟨W, hW⟩ : ∃ W, W = (w.alloc (Obj.cells #[.int .i64 v, .int .i64 i] 28)).alloc (Obj.cells #[.int .i64 0, .int .i64 0] 28) := ⟨_, rfl⟩
  rw [← hW] at HA B0 B1 U ⊢
  clear hW
  go_wp2_with fail
  refine (codecs_any _).mono ?_
  rintro e w1 ⟨m1, a1, d1, rfl, C, hb⟩
  have kl1 := (look_codec C 8 (by omega) (by omega)).2
  rw [show cAt a1 d1 8 = cLaw d1 from rfl, show speechB 8 = true from rfl] at kl1
  simp only [cLaw, cDel] at kl1
  have HL1 := Lib.hid (C.l2.push (.cells #[.func (.func 67) #[] #[.pointer (some ⟨d1, 0, none⟩)], .func (.func 69) #[] #[.pointer (some ⟨d1, 0, none⟩)]] 96))
  replace HA := Lib.hid ((HA.out.later hb).push (.cells #[.func (.func 67) #[] #[.pointer (some ⟨d1, 0, none⟩)], .func (.func 69) #[] #[.pointer (some ⟨d1, 0, none⟩)]] 96))
  replace B0 := Lib.hid ((B0.out.later hb).push (.cells #[.func (.func 67) #[] #[.pointer (some ⟨d1, 0, none⟩)], .func (.func 69) #[] #[.pointer (some ⟨d1, 0, none⟩)]] 96))
  replace B1 := Lib.hid ((B1.out.later hb).push (.cells #[.func (.func 67) #[] #[.pointer (some ⟨d1, 0, none⟩)], .func (.func 69) #[] #[.pointer (some ⟨d1, 0, none⟩)]] 96))
  replace U := Lib.hid ((U.out.later hb).push (.cells #[.func (.func 67) #[] #[.pointer (some ⟨d1, 0, none⟩)], .func (.func 69) #[] #[.pointer (some ⟨d1, 0, none⟩)]] 96))
  have BC1 := Lib.hid (Blk.new w1 96 #[.func (.func 67) #[] #[.pointer (some ⟨d1, 0, none⟩)], .func (.func 69) #[] #[.pointer (some ⟨d1, 0, none⟩)]])
  clear C hb
  go_wp2_with fail
  refine (codecs_any _).mono ?_
  rintro e w2 ⟨m2, a2, d2, rfl, C, hb⟩
  have kl2 := (look_codec C 96 (by omega) (by omega)).2
  rw [show cAt a2 d2 96 = cDel from rfl, show speechB 96 = true from rfl] at kl2
  simp only [cLaw, cDel] at kl2
  replace HA := Lib.hid ((HA.out.later hb).push (.cells #[.func (.func 43) #[] #[], .func (.func 44) #[] #[]] 96))
  replace B0 := Lib.hid ((B0.out.later hb).push (.cells #[.func (.func 43) #[] #[], .func (.func 44) #[] #[]] 96))
  replace B1 := Lib.hid ((B1.out.later hb).push (.cells #[.func (.func 43) #[] #[], .func (.func 44) #[] #[]] 96))
  replace U := Lib.hid ((U.out.later hb).push (.cells #[.func (.func 43) #[] #[], .func (.func 44) #[] #[]] 96))
  replace BC1 := Lib.hid ((BC1.out.later hb).push (.cells #[.func (.func 43) #[] #[], .func (.func 44) #[] #[]] 96))
  replace HL1 := Lib.hid ((HL1.out.later hb).push (.cells #[.func (.func 43) #[] #[], .func (.func 44) #[] #[]] 96))
  have BC2 := Lib.hid (Blk.new w2 96 #[.func (.func 43) #[] #[], .func (.func 44) #[] #[]])
  clear C hb
  have bc := BC1.out.at 1 _ rfl
  go_wp2_with fail
  refine (kD.out d1 _ HA.out HL1.out).mono ?_
  rintro e w3 ⟨A3, c3, rfl, hI, hb⟩
  have HI := Lib.hid hI.1
  replace B0 := Lib.hid (B0.out.later hb)
  replace B1 := Lib.hid (B1.out.later hb)
  replace U := Lib.hid (U.out.later hb)
  replace BC2 := Lib.hid (BC2.out.later hb)
  clear hI hb HA bc BC1 kD hnw HL1
  have bc0 := BC2.out.at 0 _ rfl
  have s0 := B0.out.at 0 _ rfl
  have s1 := B0.out.at 1 _ rfl
  go_wp2_with fail
  refine (kE.out A3 c3 _ HI.out).mono ?_
  rintro e w4 ⟨A4, c4, rfl, hE, hb⟩
  have HE := Lib.hid hE
  replace B1 := Lib.hid ((B1.out.later hb).push (.cells #[.int .i64 P2, .int .i64 P3] 28))
  replace U := Lib.hid ((U.out.later hb).push (.cells #[.int .i64 P2, .int .i64 P3] 28))
  replace HE := Lib.hid (HE.out.push (.cells #[.int .i64 P2, .int .i64 P3] 28))
  have BD := Lib.hid (Blk.new w4 28 #[.int .i64 P2, .int .i64 P3])
  clear hE hb bc0 s0 s1 B0 BC2 kE HI
  by_cases hp4 : P4 = 0
  rotate_left
  · have e3 := HT.out
    rw [if_pos hp4] at e3
    subst e3
    clear HT
    have y0 := B1.out.at 0 _ rfl
    have y1 := B1.out.at 1 _ rfl
    have yz := B1.out.frozen
    go_wp2_with fail
    have Y1 := (B1.out.set_ 0 (.int .i64 0)).set_ 1 (.int .i64 0)
    refine bodyPost_ret (v := .tuple #[.slice none 0 0, .agg #[.int .i64 0, .int .i64 0], .int .u8 P4]) (res_tct Try.results15 rfl rfl (run_loadVar_row (P := Try.prog) _ _ _ _ _ _ _ Y1 Try.underlying28 rfl (by kernel_rfl)) rfl) rfl ⟨none, 0, rfl, IntsAt.nil, below_set_old (below_set_old U.out (by simp) _) (by simp) _⟩
  subst hp4
  replace HT := Lib.hid (HT.out.trans (if_neg (by simp)))
  have c0 := BD.out.at 0 _ rfl
  have c1 := BD.out.at 1 _ rfl
  have r0 := B1.out.at 0 _ rfl
  have r1 := B1.out.at 1 _ rfl
  have rz := B1.out.frozen
  go_upto_region 13 with fail
  go_region
  have RF := B1.out.set_ 0 (.int .i64 P2)
  have RG := RF.set_ 1 (.int .i64 P3)
  have q1 := RF.at 1 _ rfl
  have RE := (HE.out.set_ne r0 (by intro z e; cases e) (.int .i64 P2)).set_ne q1 (by intro z e; cases e) (.int .i64 P3)
  have UF := below_set_old (below_set_old U.out (by simp) (.int .i64 P2) (p := ⟨w.heap.size + 1, 0, none⟩)) (by simp) (.int .i64 P3) (p := ⟨w.heap.size + 1, 1, none⟩)
  go_wp2_with fail
  rw [HT.out]
  refine bodyPost_ret (v := .tuple #[.slice A4 EL.length c4, .agg #[.int .i64 P2, .int .i64 P3], .int .u8 0]) (res_tct Try.results15 rfl rfl (run_loadVar_row (P := Try.prog) _ _ _ _ _ _ _ RG.drew Try.underlying28 rfl (by kernel_rfl)) rfl) rfl ⟨A4, c4, rfl, ?_, UF.drew⟩
  exact RE.more (by simp [World.setCell])
set_option maxRecDepth 100000 in
set_option maxHeartbeats 12800000 in
theorem tr_96_0 (A : Option Addr) (bs : List Int) (c : Nat) (v i : Int) (w : World) (hA : IntsAt w w.heap.size .u8 A bs) (hz : Within 0 255 bs) (h8 : bs.length ≤ 5000) (hc : bs.length ≤ c) (h4 : ¬bs.length < 4) : Calls Try.prog 15 #[.int .u8 96, .int .u8 0, .slice A bs.length c, .agg #[.int .i64 v, .int .i64 i]] w (TranR (Sb.tran 96 0 bs v i) w) := by
  obtain ⟨TT, hTT⟩ : ∃ T, T = Sb.tran 96 0 bs v i := ⟨_, rfl⟩
  rw [← hTT]
  have hm : bs.length ≤ maxLen := by unfold maxLen; omega
  have hzi := unpR_in bs (2 * ((bs.length : Int) - 4)) hz
  have hl8 := unpR_len bs (2 * ((bs.length : Int) - 4))
  have kD := Lib.hid fun (W : World) hW => dec_del (2 * ((bs.length : Int) - 4)) A bs c W hW hz hc hm
  unfold DecR at kD
  obtain ⟨R, hR⟩ : ∃ R, R = Dlt.unpR bs (2 * ((bs.length : Int) - 4)) := ⟨_, rfl⟩
  rw [← hR] at hzi hl8 kD
  have HR := Lib.hid hR
  clear hR
  obtain ⟨ZL, R2, R3, R4⟩ := R
  dsimp only at hzi hl8 kD
  have e1 : Sb.decE 96 bs (2 * ((bs.length : Int) - 4)) = (ZL, R4) := by unfold Sb.decE; rw [if_neg (by decide), if_neg (by decide), ← HR.out]
  obtain ⟨EL, hEL⟩ : ∃ Z, Z = ZL.map Cmp.muZ := ⟨_, rfl⟩
  have kE := Lib.hid fun (A3 : Option Addr) (c3 b : Nat) (W : World) hW hB => enc_mu v i A3 ZL c3 b W hW hzi hl8 hB
  unfold EncR at kE
  rw [← hEL] at kE
  have e2 : Sb.encE 0 v i ZL = (EL, (v, i), 0) := by unfold Sb.encE; rw [if_pos rfl, hEL]
  have HT : Hid (TT = if R4 ≠ 0 then ([], (0, 0), R4) else (EL, (v, i), 0)) := Lib.hid (by
    rw [hTT]; unfold Sb.tran
    rw [if_neg (by decide), if_neg (fun h => h4 h.2), e1]
    dsimp only
    rw [e2]
    simp only [ne_eq, not_true_eq_false, if_false])
  have hnw : wrap64 (2 * ((bs.length : Int) - 4)) = 2 * ((bs.length : Int) - 4) := IntWalk.wrap64_in _ ⟨by omega, by omega⟩
  have h4i : ¬(bs.length : Int) < 4 := by omega
  clear hz hTT e1 e2 hEL hzi hl8
  have HA := Lib.hid ((hA.push (.cells #[.int .i64 v, .int .i64 i] 28)).push (.cells #[.int .i64 0, .int .i64 0] 28))
  have B0 := Lib.hid ((Blk.new w 28 #[.int .i64 v, .int .i64 i]).push (.cells #[.int .i64 0, .int .i64 0] 28))
  have B1 := Lib.hid (Blk.new1 w (.cells #[.int .i64 v, .int .i64 i] 28) 28 #[.int .i64 0, .int .i64 0])
  have U := Lib.hid (((Bel.refl w).push (.cells #[.int .i64 v, .int .i64 i] 28)).push (.cells #[.int .i64 0, .int .i64 0] 28))
  clear hA
  go_enter Try.func15, Try.ntmps15
  go_upto_region 1 with fail
  change Code.wp _ _ _ _ ((w.alloc (Obj.cells #[.int .i64 v, .int .i64 i] 28)).alloc (Obj.cells #[.int .i64 0, .int .i64 0] 28))
  obtain ⟨W, hW⟩ : ∃ W, W = (w.alloc (Obj.cells #[.int .i64 v, .int .i64 i] 28)).alloc (Obj.cells #[.int .i64 0, .int .i64 0] 28) := ⟨_, rfl⟩
  rw [← hW] at HA B0 B1 U ⊢
  clear hW
  go_wp2_with fail
  refine (codecs_any _).mono ?_
  rintro e w1 ⟨m1, a1, d1, rfl, C, hb⟩
  have kl1 := (look_codec C 96 (by omega) (by omega)).2
  rw [show cAt a1 d1 96 = cDel from rfl, show speechB 96 = true from rfl] at kl1
  simp only [cLaw, cDel] at kl1
  replace HA := Lib.hid ((HA.out.later hb).push (.cells #[.func (.func 43) #[] #[], .func (.func 44) #[] #[]] 96))
  replace B0 := Lib.hid ((B0.out.later hb).push (.cells #[.func (.func 43) #[] #[], .func (.func 44) #[] #[]] 96))
  replace B1 := Lib.hid ((B1.out.later hb).push (.cells #[.func (.func 43) #[] #[], .func (.func 44) #[] #[]] 96))
  replace U := Lib.hid ((U.out.later hb).push (.cells #[.func (.func 43) #[] #[], .func (.func 44) #[] #[]] 96))
  have BC1 := Lib.hid (Blk.new w1 96 #[.func (.func 43) #[] #[], .func (.func 44) #[] #[]])
  clear C hb
  go_wp2_with fail
  refine (codecs_any _).mono ?_
  rintro e w2 ⟨m2, a2, d2, rfl, C, hb⟩
  have kl2 := (look_codec C 0 (by omega) (by omega)).2
  rw [show cAt a2 d2 0 = cLaw a2 from rfl, show speechB 0 = true from rfl] at kl2
  simp only [cLaw, cDel] at kl2
  have HL2 := Lib.hid (C.l1.push (.cells #[.func (.func 67) #[] #[.pointer (some ⟨a2, 0, none⟩)], .func (.func 69) #[] #[.pointer (some ⟨a2, 0, none⟩)]] 96))
  replace HA := Lib.hid ((HA.out.later hb).push (.cells #[.func (.func 67) #[] #[.pointer (some ⟨a2, 0, none⟩)], .func (.func 69) #[] #[.pointer (some ⟨a2, 0, none⟩)]] 96))
  replace B0 := Lib.hid ((B0.out.later hb).push (.cells #[.func (.func 67) #[] #[.pointer (some ⟨a2, 0, none⟩)], .func (.func 69) #[] #[.pointer (some ⟨a2, 0, none⟩)]] 96))
  replace B1 := Lib.hid ((B1.out.later hb).push (.cells #[.func (.func 67) #[] #[.pointer (some ⟨a2, 0, none⟩)], .func (.func 69) #[] #[.pointer (some ⟨a2, 0, none⟩)]] 96))
  replace U := Lib.hid ((U.out.later hb).push (.cells #[.func (.func 67) #[] #[.pointer (some ⟨a2, 0, none⟩)], .func (.func 69) #[] #[.pointer (some ⟨a2, 0, none⟩)]] 96))
  replace BC1 := Lib.hid ((BC1.out.later hb).push (.cells #[.func (.func 67) #[] #[.pointer (some ⟨a2, 0, none⟩)], .func (.func 69) #[] #[.pointer (some ⟨a2, 0, none⟩)]] 96))
  have BC2 := Lib.hid (Blk.new w2 96 #[.func (.func 67) #[] #[.pointer (some ⟨a2, 0, none⟩)], .func (.func 69) #[] #[.pointer (some ⟨a2, 0, none⟩)]])
  clear C hb
  have bc := BC1.out.at 1 _ rfl
  go_wp2_with fail
  refine (kD.out _ HA.out).mono ?_
  rintro e w3 ⟨A3, c3, rfl, hI, hb⟩
  have HI := Lib.hid hI.1
  replace B0 := Lib.hid (B0.out.later hb)
  replace B1 := Lib.hid (B1.out.later hb)
  replace U := Lib.hid (U.out.later hb)
  replace BC2 := Lib.hid (BC2.out.later hb)
  replace HL2 := Lib.hid (HL2.out.later hb)
  clear hI hb HA bc BC1 kD hnw
  by_cases hr4 : R4 = 0
  rotate_left
  · have e3 := HT.out
    rw [if_pos hr4] at e3
    subst e3
    clear HT
    have y0 := B1.out.at 0 _ rfl
    have y1 := B1.out.at 1 _ rfl
    have yz := B1.out.frozen
    go_wp2_with fail
    have Y1 := (B1.out.set_ 0 (.int .i64 0)).set_ 1 (.int .i64 0)
    refine bodyPost_ret (v := .tuple #[.slice none 0 0, .agg #[.int .i64 0, .int .i64 0], .int .u8 R4]) (res_tct Try.results15 rfl rfl (run_loadVar_row (P := Try.prog) _ _ _ _ _ _ _ Y1 Try.underlying28 rfl (by kernel_rfl)) rfl) rfl ⟨none, 0, rfl, IntsAt.nil, below_set_old (below_set_old U.out (by simp) _) (by simp) _⟩
  subst hr4
  replace HT := Lib.hid (HT.out.trans (if_neg (by simp)))
  have bc0 := BC2.out.at 0 _ rfl
  have s0 := B0.out.at 0 _ rfl
  have s1 := B0.out.at 1 _ rfl
  go_wp2_with fail
  refine (kE.out A3 c3 a2 _ HI.out HL2.out).mono ?_
  rintro e w4 ⟨A4, c4, rfl, hE, hb⟩
  have HE := Lib.hid hE.1
  replace B1 := Lib.hid ((B1.out.later hb).push (.cells #[.int .i64 v, .int .i64 i] 28))
  replace U := Lib.hid ((U.out.later hb).push (.cells #[.int .i64 v, .int .i64 i] 28))
  replace HE := Lib.hid (HE.out.push (.cells #[.int .i64 v, .int .i64 i] 28))
  have BD := Lib.hid (Blk.new w4 28 #[.int .i64 v, .int .i64 i])
  clear hE hb bc0 s0 s1 B0 BC2 kE HI HL2
  have c0 := BD.out.at 0 _ rfl
  have c1 := BD.out.at 1 _ rfl
  have r0 := B1.out.at 0 _ rfl
  have r1 := B1.out.at 1 _ rfl
  have rz := B1.out.frozen
  go_upto_region 13 with fail
  go_region
  have RF := B1.out.set_ 0 (.int .i64 v)
  have RG := RF.set_ 1 (.int .i64 i)
  have q1 := RF.at 1 _ rfl
  have RE := (HE.out.set_ne r0 (by intro z e; cases e) (.int .i64 v)).set_ne q1 (by intro z e; cases e) (.int .i64 i)
  have UF := below_set_old (below_set_old U.out (by simp) (.int .i64 v) (p := ⟨w.heap.size + 1, 0, none⟩)) (by simp) (.int .i64 i) (p := ⟨w.heap.size + 1, 1, none⟩)
  go_wp2_with fail
  rw [HT.out]
  refine bodyPost_ret (v := .tuple #[.slice A4 EL.length c4, .agg #[.int .i64 v, .int .i64 i], .int .u8 0]) (res_tct Try.results15 rfl rfl (run_loadVar_row (P := Try.prog) _ _ _ _ _ _ _ RG.drew Try.underlying28 rfl (by kernel_rfl)) rfl) rfl ⟨A4, c4, rfl, ?_, UF.drew⟩
  exact RE.more (by simp [World.setCell])
set_option maxRecDepth 100000 in
set_option maxHeartbeats 12800000 in
theorem tr_96_8 (A : Option Addr) (bs : List Int) (c : Nat) (v i : Int) (w : World) (hA : IntsAt w w.heap.size .u8 A bs) (hz : Within 0 255 bs) (h8 : bs.length ≤ 5000) (hc : bs.length ≤ c) (h4 : ¬bs.length < 4) : Calls Try.prog 15 #[.int .u8 96, .int .u8 8, .slice A bs.length c, .agg #[.int .i64 v, .int .i64 i]] w (TranR (Sb.tran 96 8 bs v i) w) := by
  obtain ⟨TT, hTT⟩ : ∃ T, T = Sb.tran 96 8 bs v i := ⟨_, rfl⟩
  rw [← hTT]
  have hm : bs.length ≤ maxLen := by unfold maxLen; omega
  have hzi := unpR_in bs (2 * ((bs.length : Int) - 4)) hz
  have hl8 := unpR_len bs (2 * ((bs.length : Int) - 4))
  have kD := Lib.hid fun (W : World) hW => dec_del (2 * ((bs.length : Int) - 4)) A bs c W hW hz hc hm
  unfold DecR at kD
  obtain ⟨R, hR⟩ : ∃ R, R = Dlt.unpR bs (2 * ((bs.length : Int) - 4)) := ⟨_, rfl⟩
  rw [← hR] at hzi hl8 kD
  have HR := Lib.hid hR
  clear hR
  obtain ⟨ZL, R2, R3, R4⟩ := R
  dsimp only at hzi hl8 kD
  have e1 : Sb.decE 96 bs (2 * ((bs.length : Int) - 4)) = (ZL, R4) := by unfold Sb.decE; rw [if_neg (by decide), if_neg (by decide), ← HR.out]
  obtain ⟨EL, hEL⟩ : ∃ Z, Z = ZL.map Cmp.aZ := ⟨_, rfl⟩
  have kE := Lib.hid fun (A3 : Option Addr) (c3 b : Nat) (W : World) hW hB => enc_a v i A3 ZL c3 b W hW hzi hl8 hB
  unfold EncR at kE
  rw [← hEL] at kE
  have e2 : Sb.encE 8 v i ZL = (EL, (v, i), 0) := by unfold Sb.encE; rw [if_neg (by decide), if_pos rfl, hEL]
  have HT : Hid (TT = if R4 ≠ 0 then ([], (0, 0), R4) else (EL, (v, i), 0)) := Lib.hid (by
    rw [hTT]; unfold Sb.tran
    rw [if_neg (by decide), if_neg (fun h => h4 h.2), e1]
    dsimp only
    rw [e2]
    simp only [ne_eq, not_true_eq_false, if_false])
  have hnw : wrap64 (2 * ((bs.length : Int) - 4)) = 2 * ((bs.length : Int) - 4) := IntWalk.wrap64_in _ ⟨by omega, by omega⟩
  have h4i : ¬(bs.length : Int) < 4 := by omega
  clear hz hTT e1 e2 hEL hzi hl8
  have HA := Lib.hid ((hA.push (.cells #[.int .i64 v, .int .i64 i] 28)).push (.cells #[.int .i64 0, .int .i64 0] 28))
  have B0 := Lib.hid ((Blk.new w 28 #[.int .i64 v, .int .i64 i]).push (.cells #[.int .i64 0, .int .i64 0] 28))
  have B1 := Lib.hid (Blk.new1 w (.cells #[.int .i64 v, .int .i64 i] 28) 28 #[.int .i64 0, .int .i64 0])
  have U := Lib.hid (((Bel.refl w).push (.cells #[.int .i64 v, .int .i64 i] 28)).push (.cells #[.int .i64 0, .int .i64 0] 28))
  clear hA
  go_enter Try.func15, Try.ntmps15
  go_upto_region 1 with fail
  change Code.wp _ _ _ _ ((w.alloc (Obj.cells #[.int .i64 v, .int .i64 i] 28)).alloc (Obj.cells #[.int .i64 0, .int .i64 0] 28))
  obtain ⟨W, hW⟩ : ∃ W, W = (w.alloc (Obj.cells #[.int .i64 v, .int .i64 i] 28)).alloc (Obj.cells #[.int .i64 0, .int .i64 0] 28) := ⟨_, rfl⟩
  rw [← hW] at HA B0 B1 U ⊢
  clear hW
  go_wp2_with fail
  refine (codecs_any _).mono ?_
  rintro e w1 ⟨m1, a1, d1, rfl, C, hb⟩
  have kl1 := (look_codec C 96 (by omega) (by omega)).2
  rw [show cAt a1 d1 96 = cDel from rfl, show speechB 96 = true from rfl] at kl1
  simp only [cLaw, cDel] at kl1
  replace HA := Lib.hid ((HA.out.later hb).push (.cells #[.func (.func 43) #[] #[], .func (.func 44) #[] #[]] 96))
  replace B0 := Lib.hid ((B0.out.later hb).push (.cells #[.func (.func 43) #[] #[], .func (.func 44) #[] #[]] 96))
  replace B1 := Lib.hid ((B1.out.later hb).push (.cells #[.func (.func 43) #[] #[], .func (.func 44) #[] #[]] 96))
  replace U := Lib.hid ((U.out.later hb).push (.cells #[.func (.func 43) #[] #[], .func (.func 44) #[] #[]] 96))
  have BC1 := Lib.hid (Blk.new w1 96 #[.func (.func 43) #[] #[], .func (.func 44) #[] #[]])
  clear C hb
  go_wp2_with fail
  refine (codecs_any _).mono ?_
  rintro e w2 ⟨m2, a2, d2, rfl, C, hb⟩
  have kl2 := (look_codec C 8 (by omega) (by omega)).2
  rw [show cAt a2 d2 8 = cLaw d2 from rfl, show speechB 8 = true from rfl] at kl2
  simp only [cLaw, cDel] at kl2
  have HL2 := Lib.hid (C.l2.push (.cells #[.func (.func 67) #[] #[.pointer (some ⟨d2, 0, none⟩)], .func (.func 69) #[] #[.pointer (some ⟨d2, 0, none⟩)]] 96))
  replace HA := Lib.hid ((HA.out.later hb).push (.cells #[.func (.func 67) #[] #[.pointer (some ⟨d2, 0, none⟩)], .func (.func 69) #[] #[.pointer (some ⟨d2, 0, none⟩)]] 96))
  replace B0 := Lib.hid ((B0.out.later hb).push (.cells #[.func (.func 67) #[] #[.pointer (some ⟨d2, 0, none⟩)], .func (.func 69) #[] #[.pointer (some ⟨d2, 0, none⟩)]] 96))
  replace B1 := Lib.hid ((B1.out.later hb).push (.cells #[.func (.func 67) #[] #[.pointer (some ⟨d2, 0, none⟩)], .func (.func 69) #[] #[.pointer (some ⟨d2, 0, none⟩)]] 96))
  replace U := Lib.hid ((U.out.later hb).push (.cells #[.func (.func 67) #[] #[.pointer (some ⟨d2, 0, none⟩)], .func (.func 69) #[] #[.pointer (some ⟨d2, 0, none⟩)]] 96))
  replace BC1 := Lib.hid ((BC1.out.later hb).push (.cells #[.func (.func 67) #[] #[.pointer (some ⟨d2, 0, none⟩)], .func (.func 69) #[] #[.pointer (some ⟨d2, 0, none⟩)]] 96))
  have BC2 := Lib.hid (Blk.new w2 96 #[.func (.func 67) #[] #[.pointer (some ⟨d2, 0, none⟩)], .func (.func 69) #[] #[.pointer (some ⟨d2, 0, none⟩)]])
  clear C hb
  have bc := BC1.out.at 1 _ rfl
  go_wp2_with fail
  refine (kD.out _ HA.out).mono ?_
  rintro e w3 ⟨A3, c3, rfl, hI, hb⟩
  have HI := Lib.hid hI.1
  replace B0 := Lib.hid (B0.out.later hb)
  replace B1 := Lib.hid (B1.out.later hb)
  replace U := Lib.hid (U.out.later hb)
  replace BC2 := Lib.hid (BC2.out.later hb)
  replace HL2 := Lib.hid (HL2.out.later hb)
  clear hI hb HA bc BC1 kD hnw
  by_cases hr4 : R4 = 0
  rotate_left
  · have e3 := HT.out
    rw [if_pos hr4] at e3
    subst e3
    clear HT
    have y0 := B1.out.at 0 _ rfl
    have y1 := B1.out.at 1 _ rfl
    have yz := B1.out.frozen
    go_wp2_with fail
    have Y1 := (B1.out.set_ 0 (.int .i64 0)).set_ 1 (.int .i64 0)
    refine bodyPost_ret (v := .tuple #[.slice none 0 0, .agg #[.int .i64 0, .int .i64 0], .int .u8 R4]) (res_tct Try.results15 rfl rfl (run_loadVar_row (P := Try.prog) _ _ _ _ _ _ _ Y1 Try.underlying28 rfl (by kernel_rfl)) rfl) rfl ⟨none, 0, rfl, IntsAt.nil, below_set_old (below_set_old U.out (by simp) _) (by simp) _⟩
  subst hr4
  replace HT := Lib.hid (HT.out.trans (if_neg (by simp)))
  have bc0 := BC2.out.at 0 _ rfl
  have s0 := B0.out.at 0 _ rfl
  have s1 := B0.out.at 1 _ rfl
  go_wp2_with fail
  refine (kE.out A3 c3 d2 _ HI.out HL2.out).mono ?_
  rintro e w4 ⟨A4, c4, rfl, hE, hb⟩
  have HE := Lib.hid hE.1
  replace B1 := Lib.hid ((B1.out.later hb).push (.cells #[.int .i64 v, .int .i64 i] 28))
  replace U := Lib.hid ((U.out.later hb).push (.cells #[.int .i64 v, .int .i64 i] 28))
  replace HE := Lib.hid (HE.out.push (.cells #[.int .i64 v, .int .i64 i] 28))
  have BD := Lib.hid (Blk.new w4 28 #[.int .i64 v, .int .i64 i])
  clear hE hb bc0 s0 s1 B0 BC2 kE HI HL2
  have c0 := BD.out.at 0 _ rfl
  have c1 := BD.out.at 1 _ rfl
  have r0 := B1.out.at 0 _ rfl
  have r1 := B1.out.at 1 _ rfl
  have rz := B1.out.frozen
  go_upto_region 13 with fail
  go_region
  have RF := B1.out.set_ 0 (.int .i64 v)
  have RG := RF.set_ 1 (.int .i64 i)
  have q1 := RF.at 1 _ rfl
  have RE := (HE.out.set_ne r0 (by intro z e; cases e) (.int .i64 v)).set_ne q1 (by intro z e; cases e) (.int .i64 i)
  have UF := below_set_old (below_set_old U.out (by simp) (.int .i64 v) (p := ⟨w.heap.size + 1, 0, none⟩)) (by simp) (.int .i64 i) (p := ⟨w.heap.size + 1, 1, none⟩)
  go_wp2_with fail
  rw [HT.out]
  refine bodyPost_ret (v := .tuple #[.slice A4 EL.length c4, .agg #[.int .i64 v, .int .i64 i], .int .u8 0]) (res_tct Try.results15 rfl rfl (run_loadVar_row (P := Try.prog) _ _ _ _ _ _ _ RG.drew Try.underlying28 rfl (by kernel_rfl)) rfl) rfl ⟨A4, c4, rfl, ?_, UF.drew⟩
  exact RE.more (by simp [World.setCell])
set_option maxRecDepth 100000 in
set_option maxHeartbeats 12800000 in
theorem tr_96_96 (A : Option Addr) (bs : List Int) (c : Nat) (v i : Int) (w : World) (hA : IntsAt w w.heap.size .u8 A bs) (hz : Within 0 255 bs) (h8 : bs.length ≤ 5000) (hc : bs.length ≤ c) (h4 : ¬bs.length < 4) : Calls Try.prog 15 #[.int .u8 96, .int .u8 96, .slice A bs.length c, .agg #[.int .i64 v, .int .i64 i]] w (TranR (Sb.tran 96 96 bs v i) w) := by
  obtain ⟨TT, hTT⟩ : ∃ T, T = Sb.tran 96 96 bs v i := ⟨_, rfl⟩
  rw [← hTT]
  have hm : bs.length ≤ maxLen := by unfold maxLen; omega
  have hzi := unpR_in bs (2 * ((bs.length : Int) - 4)) hz
  have hl8 := unpR_len bs (2 * ((bs.length : Int) - 4))
  have kD := Lib.hid fun (W : World) hW => dec_del (2 * ((bs.length : Int) - 4)) A bs c W hW hz hc hm
  unfold DecR at kD
  obtain ⟨R, hR⟩ : ∃ R, R = Dlt.unpR bs (2 * ((bs.length : Int) - 4)) := ⟨_, rfl⟩
  rw [← hR] at hzi hl8 kD
  have HR := Lib.hid hR
  clear hR
  obtain ⟨ZL, R2, R3, R4⟩ := R
  dsimp only at hzi hl8 kD
  have e1 : Sb.decE 96 bs (2 * ((bs.length : Int) - 4)) = (ZL, R4) := by unfold Sb.decE; rw [if_neg (by decide), if_neg (by decide), ← HR.out]
  have kE := Lib.hid fun (A3 : Option Addr) (c3 : Nat) (W : World) hW => Pack_any v i W A3 ZL c3 hW hzi
  obtain ⟨P, hP⟩ : ∃ P, P = Dlt.packR v i ZL := ⟨_, rfl⟩
  rw [← hP] at kE
  have HP := Lib.hid hP
  clear hP
  obtain ⟨EL, P2, P3, P4⟩ := P
  dsimp only at kE
  have e2 : Sb.encE 96 v i ZL = (EL, (P2, P3), P4) := by unfold Sb.encE; rw [if_neg (by decide), if_neg (by decide), ← HP.out]
  have HT : Hid (TT = if R4 ≠ 0 then ([], (0, 0), R4) else if P4 ≠ 0 then ([], (0, 0), P4) else (EL, (P2, P3), P4)) := Lib.hid (by
    rw [hTT]; unfold Sb.tran
    rw [if_neg (by decide), if_neg (fun h => h4 h.2), e1]
    dsimp only
    rw [e2])
  have hnw : wrap64 (2 * ((bs.length : Int) - 4)) = 2 * ((bs.length : Int) - 4) := IntWalk.wrap64_in _ ⟨by omega, by omega⟩
  have h4i : ¬(bs.length : Int) < 4 := by omega
  clear hz hTT e1 e2 hzi hl8
  have HA := Lib.hid ((hA.push (.cells #[.int .i64 v, .int .i64 i] 28)).push (.cells #[.int .i64 0, .int .i64 0] 28))
  have B0 := Lib.hid ((Blk.new w 28 #[.int .i64 v, .int .i64 i]).push (.cells #[.int .i64 0, .int .i64 0] 28))
  have B1 := Lib.hid (Blk.new1 w (.cells #[.int .i64 v, .int .i64 i] 28) 28 #[.int .i64 0, .int .i64 0])
  have U := Lib.hid (((Bel.refl w).push (.cells #[.int .i64 v, .int .i64 i] 28)).push (.cells #[.int .i64 0, .int .i64 0] 28))
  clear hA
  go_enter Try.func15, Try.ntmps15
  go_upto_region 1 with fail
  change Code.wp _ _ _ _ ((w.alloc (Obj.cells #[.int .i64 v, .int .i64 i] 28)).alloc (Obj.cells #[.int .i64 0, .int .i64 0] 28))
  obtain ⟨W, hW⟩ : ∃ W, W = (w.alloc (Obj.cells #[.int .i64 v, .int .i64 i] 28)).alloc (Obj.cells #[.int .i64 0, .int .i64 0] 28) := ⟨_, rfl⟩
  rw [← hW] at HA B0 B1 U ⊢
  clear hW
  go_wp2_with fail
  refine (codecs_any _).mono ?_
  rintro e w1 ⟨m1, a1, d1, rfl, C, hb⟩
  have kl1 := (look_codec C 96 (by omega) (by omega)).2
  rw [show cAt a1 d1 96 = cDel from rfl, show speechB 96 = true from rfl] at kl1
  simp only [cLaw, cDel] at kl1
  replace HA := Lib.hid ((HA.out.later hb).push (.cells #[.func (.func 43) #[] #[], .func (.func 44) #[] #[]] 96))
  replace B0 := Lib.hid ((B0.out.later hb).push (.cells #[.func (.func 43) #[] #[], .func (.func 44) #[] #[]] 96))
  replace B1 := Lib.hid ((B1.out.later hb).push (.cells #[.func (.func 43) #[] #[], .func (.func 44) #[] #[]] 96))
  replace U := Lib.hid ((U.out.later hb).push (.cells #[.func (.func 43) #[] #[], .func (.func 44) #[] #[]] 96))
  have BC1 := Lib.hid (Blk.new w1 96 #[.func (.func 43) #[] #[], .func (.func 44) #[] #[]])
  clear C hb
  go_wp2_with fail
  refine (codecs_any _).mono ?_
  rintro e w2 ⟨m2, a2, d2, rfl, C, hb⟩
  have kl2 := (look_codec C 96 (by omega) (by omega)).2
  rw [show cAt a2 d2 96 = cDel from rfl, show speechB 96 = true from rfl] at kl2
  simp only [cLaw, cDel] at kl2
  replace HA := Lib.hid ((HA.out.later hb).push (.cells #[.func (.func 43) #[] #[], .func (.func 44) #[] #[]] 96))
  replace B0 := Lib.hid ((B0.out.later hb).push (.cells #[.func (.func 43) #[] #[], .func (.func 44) #[] #[]] 96))
  replace B1 := Lib.hid ((B1.out.later hb).push (.cells #[.func (.func 43) #[] #[], .func (.func 44) #[] #[]] 96))
  replace U := Lib.hid ((U.out.later hb).push (.cells #[.func (.func 43) #[] #[], .func (.func 44) #[] #[]] 96))
  replace BC1 := Lib.hid ((BC1.out.later hb).push (.cells #[.func (.func 43) #[] #[], .func (.func 44) #[] #[]] 96))
  have BC2 := Lib.hid (Blk.new w2 96 #[.func (.func 43) #[] #[], .func (.func 44) #[] #[]])
  clear C hb
  have bc := BC1.out.at 1 _ rfl
  go_wp2_with fail
  refine (kD.out _ HA.out).mono ?_
  rintro e w3 ⟨A3, c3, rfl, hI, hb⟩
  have HI := Lib.hid hI.1
  replace B0 := Lib.hid (B0.out.later hb)
  replace B1 := Lib.hid (B1.out.later hb)
  replace U := Lib.hid (U.out.later hb)
  replace BC2 := Lib.hid (BC2.out.later hb)
  clear hI hb HA bc BC1 kD hnw
  by_cases hr4 : R4 = 0
  rotate_left
  · have e3 := HT.out
    rw [if_pos hr4] at e3
    subst e3
    clear HT
    have y0 := B1.out.at 0 _ rfl
    have y1 := B1.out.at 1 _ rfl
    have yz := B1.out.frozen
    go_wp2_with fail
    have Y1 := (B1.out.set_ 0 (.int .i64 0)).set_ 1 (.int .i64 0)
    refine bodyPost_ret (v := .tuple #[.slice none 0 0, .agg #[.int .i64 0, .int .i64 0], .int .u8 R4]) (res_tct Try.results15 rfl rfl (run_loadVar_row (P := Try.prog) _ _ _ _ _ _ _ Y1 Try.underlying28 rfl (by kernel_rfl)) rfl) rfl ⟨none, 0, rfl, IntsAt.nil, below_set_old (below_set_old U.out (by simp) _) (by simp) _⟩
  subst hr4
  replace HT := Lib.hid (HT.out.trans (if_neg (by simp)))
  have bc0 := BC2.out.at 0 _ rfl
  have s0 := B0.out.at 0 _ rfl
  have s1 := B0.out.at 1 _ rfl
  go_wp2_with fail
  refine (kE.out A3 c3 _ HI.out).mono ?_
  rintro e w4 ⟨A4, c4, rfl, hE, hb⟩
  have HE := Lib.hid hE
  replace B1 := Lib.hid ((B1.out.later hb).push (.cells #[.int .i64 P2, .int .i64 P3] 28))
  replace U := Lib.hid ((U.out.later hb).push (.cells #[.int .i64 P2, .int .i64 P3] 28))
  replace HE := Lib.hid (HE.out.push (.cells #[.int .i64 P2, .int .i64 P3] 28))
  have BD := Lib.hid (Blk.new w4 28 #[.int .i64 P2, .int .i64 P3])
  clear hE hb bc0 s0 s1 B0 BC2 kE HI
  by_cases hp4 : P4 = 0
  rotate_left
  · have e3 := HT.out
    rw [if_pos hp4] at e3
    subst e3
    clear HT
    have y0 := B1.out.at 0 _ rfl
    have y1 := B1.out.at 1 _ rfl
    have yz := B1.out.frozen
    go_wp2_with fail
    have Y1 := (B1.out.set_ 0 (.int .i64 0)).set_ 1 (.int .i64 0)
    refine bodyPost_ret (v := .tuple #[.slice none 0 0, .agg #[.int .i64 0, .int .i64 0], .int .u8 P4]) (res_tct Try.results15 rfl rfl (run_loadVar_row (P := Try.prog) _ _ _ _ _ _ _ Y1 Try.underlying28 rfl (by kernel_rfl)) rfl) rfl ⟨none, 0, rfl, IntsAt.nil, below_set_old (below_set_old U.out (by simp) _) (by simp) _⟩
  subst hp4
  replace HT := Lib.hid (HT.out.trans (if_neg (by simp)))
  have c0 := BD.out.at 0 _ rfl
  have c1 := BD.out.at 1 _ rfl
  have r0 := B1.out.at 0 _ rfl
  have r1 := B1.out.at 1 _ rfl
  have rz := B1.out.frozen
  go_upto_region 13 with fail
  go_region
  have RF := B1.out.set_ 0 (.int .i64 P2)
  have RG := RF.set_ 1 (.int .i64 P3)
  have q1 := RF.at 1 _ rfl
  have RE := (HE.out.set_ne r0 (by intro z e; cases e) (.int .i64 P2)).set_ne q1 (by intro z e; cases e) (.int .i64 P3)
  have UF := below_set_old (below_set_old U.out (by simp) (.int .i64 P2) (p := ⟨w.heap.size + 1, 0, none⟩)) (by simp) (.int .i64 P3) (p := ⟨w.heap.size + 1, 1, none⟩)
  go_wp2_with fail
  rw [HT.out]
  refine bodyPost_ret (v := .tuple #[.slice A4 EL.length c4, .agg #[.int .i64 P2, .int .i64 P3], .int .u8 0]) (res_tct Try.results15 rfl rfl (run_loadVar_row (P := Try.prog) _ _ _ _ _ _ _ RG.drew Try.underlying28 rfl (by kernel_rfl)) rfl) rfl ⟨A4, c4, rfl, ?_, UF.drew⟩
  exact RE.more (by simp [World.setCell])
end Go.Proofs.Ytahbecinkciahaa
/- Layer 32: Transcode, in one word. -/
namespace Go.Proofs.Ytahbecinkciahaa
open Go.RowKit
set_option linter.unusedVariables false
set_option linter.unusedSimpArgs false
attribute [local go_sem ↓] run_min_plain run_max_plain
attribute [local go_sem] setCell_drewN alloc_drewN
theorem tran_any (a b : Int) (a0 : 0 ≤ a) (a1 : a ≤ 255) (b0 : 0 ≤ b) (b1 : b ≤ 255) (A : Option Addr) (bs : List Int) (c : Nat) (v i : Int) (w : World) (hA : IntsAt w w.heap.size .u8 A bs) (hz : Within 0 255 bs) (h8 : bs.length ≤ 5000) (hc : bs.length ≤ c) : Calls Try.prog 15 #[.int .u8 a, .int .u8 b, .slice A bs.length c, .agg #[.int .i64 v, .int .i64 i]] w (TranR (Sb.tran a b bs v i) w) := by
  by_cases ha : speechB a = true
  rotate_left
  · rw [show Sb.tran a b bs v i = ([], (0, 0), 15) by unfold Sb.tran; rw [if_pos (Or.inl (by simpa using ha))]]
    exact tr_no1 a a0 a1 (fun h => ha (speechB_t h)) b b0 b1 A bs c v i w hA hz h8 hc
  by_cases hb : speechB b = true
  rotate_left
  · rw [show Sb.tran a b bs v i = ([], (0, 0), 15) by unfold Sb.tran; rw [if_pos (Or.inr (by simpa using hb))]]
    rcases speechB_iff.1 ha with rfl | rfl | rfl
    · exact tr_no2_0 b b0 b1 (fun h => hb (speechB_t h)) A bs c v i w hA hz h8 hc
    · exact tr_no2_8 b b0 b1 (fun h => hb (speechB_t h)) A bs c v i w hA hz h8 hc
    · exact tr_no2_96 b b0 b1 (fun h => hb (speechB_t h)) A bs c v i w hA hz h8 hc
  rcases speechB_iff.1 ha with rfl | rfl | rfl
  · rcases speechB_iff.1 hb with rfl | rfl | rfl
    · exact tr_0_0 A bs c v i w hA hz h8 hc
    · exact tr_0_8 A bs c v i w hA hz h8 hc
    · exact tr_0_96 A bs c v i w hA hz h8 hc
  · rcases speechB_iff.1 hb with rfl | rfl | rfl
    · exact tr_8_0 A bs c v i w hA hz h8 hc
    · exact tr_8_8 A bs c v i w hA hz h8 hc
    · exact tr_8_96 A bs c v i w hA hz h8 hc
  · by_cases h4 : bs.length < 4
    · rw [show Sb.tran 96 b bs v i = ([], (0, 0), 6) by unfold Sb.tran; rw [if_neg (by simp [ha, hb]), if_pos ⟨rfl, h4⟩]]
      rcases speechB_iff.1 hb with rfl | rfl | rfl
      · exact tr_short_0 A bs c v i w hA hz h8 hc h4
      · exact tr_short_8 A bs c v i w hA hz h8 hc h4
      · exact tr_short_96 A bs c v i w hA hz h8 hc h4
    · rcases speechB_iff.1 hb with rfl | rfl | rfl
      · exact tr_96_0 A bs c v i w hA hz h8 hc h4
      · exact tr_96_8 A bs c v i w hA hz h8 hc h4
      · exact tr_96_96 A bs c v i w hA hz h8 hc h4
end Go.Proofs.Ytahbecinkciahaa
/- Layer 32: StreamKnown, what it calls. -/
namespace Go.Proofs.Ytahbecinkciahaa
open Go.RowKit
set_option linter.unusedVariables false
set_option linter.unusedSimpArgs false
attribute [local go_sem ↓] run_min_plain run_max_plain
attribute [local go_sem] setCell_drewN alloc_drewN
theorem kn_send (p : Sb.Pt) (i : Nat) (h : Sb.KnI p i) (A : Option Addr) (c : Nat) (hcm : c ≤ maxLen) (V : World) (ZA : Option Addr) (zs : List Int) (zc : Nat) (hZ : IntsAt V V.heap.size .i16 ZA zs) (hz : Within (-32768) 32767 zs) (hzl : zs.length = 160) : Calls Try.prog 10 #[.agg (PA p A 0 c), .slice ZA 160 zc] V (SendR (Sb.send0 p zs) V) := by
  have hon : p.tn.on = false := by rw [h.tn]; rfl
  have hen : p.tn.ends = 0 := by rw [h.tn]; rfl
  by_cases hq : Ev.quiet p.below zs = 10
  · by_cases hb : p.below < 10
    · exact Send_A p h.wf A [] 0 c (PA p A 0 c) rfl V h.q.symm rfl (by omega) (by omega) hcm ⟨fun h0 => absurd h0 (by simp), fun _ h => by cases h⟩ (fun _ h => by cases h) ZA zs zc hZ hz hzl h.valid (fun _ h => by cases h) hon hen hq hb
    · exact Send_B p h.wf A [] 0 c (PA p A 0 c) rfl V h.q.symm rfl (by omega) (by omega) hcm ⟨fun h0 => absurd h0 (by simp), fun _ h => by cases h⟩ (fun _ h => by cases h) ZA zs zc hZ hz hzl h.valid (fun _ h => by cases h) hon hen hq hb
  · exact Send_mu p h.wf A [] 0 c (PA p A 0 c) rfl V h.q.symm rfl (by omega) (by omega) hcm ⟨fun h0 => absurd h0 (by simp), fun _ h => by cases h⟩ (fun _ h => by cases h) ZA zs zc hZ hz hzl h.valid (fun _ h => by cases h) hon hen h.codec hq
theorem kn_tr1 : Sb.tran 0 8 [206, 127] 0 0 = ([251, 213], (0, 0), 0) := by decide +kernel
theorem kn_tr2 : Sb.tran 8 13 [1] 0 0 = ([], (0, 0), 15) := by decide +kernel
end Go.Proofs.Ytahbecinkciahaa
