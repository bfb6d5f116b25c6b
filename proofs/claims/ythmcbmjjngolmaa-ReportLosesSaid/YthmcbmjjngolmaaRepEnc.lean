/- Layer 26: Encode of the program. -/
import Derived.Test.YthmcbmjjngolmaaRepEncP
import Derived.Deep.LoopGhost
import Derived.Test.YthmcbmjjngolmaaRepValid
namespace Go.Proofs.Ythmcbmjjngolmaa
open Go.RowKit
set_option linter.unusedVariables false
set_option linter.unusedSimpArgs false
theorem size_any (s : Bool) (n : Nat) (w : World) (hn : n ≤ 1000) : Calls Try.prog 32 #[.bool s, .int .i64 n] w fun e w' => e = .returned (.int .i64 (Rep.sizeR s n)) ∧ w = w' := by
  unfold Rep.sizeR
  have h1 : (n : Int) ≤ 1000 := by omega
  cases s
  all_goals
    go_enter Try.func32, Try.ntmps32
    go_wp2
    go_ret
    exact ⟨ret_int'' (by simp), rfl⟩
def EncR (R : List Int × Int) (w : World) (e : Ending) (w' : World) : Prop :=
  ∃ (A : Option Addr) (c : Nat), e = .returned (.tuple #[.slice A R.1.length c, .int .u8 R.2]) ∧ IntsNew w.heap.size w' .u8 A R.1 ∧ Below w.heap.size w w'
theorem rowsB {w : World} {B : Nat} {A : Option Addr} {l : List Rep.Bk} (h : RowsAt w B 7 Rep.Bk.cells A l) {k : Nat} {a : Rep.Bk} (ha : l[k]? = some a) : ∃ b off, A = some ⟨b, off, none⟩ ∧ b < B ∧
    w.cell? ⟨b, off + k * 7, none⟩ = some (.int .u32 a.source) ∧ w.cell? ⟨b, off + k * 7 + 1, none⟩ = some (.int .u8 a.frac) ∧ w.cell? ⟨b, off + k * 7 + 2, none⟩ = some (.int .i64 a.lost) ∧ w.cell? ⟨b, off + k * 7 + 3, none⟩ = some (.int .u32 a.high) ∧ w.cell? ⟨b, off + k * 7 + 4, none⟩ = some (.int .u32 a.jit) ∧ w.cell? ⟨b, off + k * 7 + 5, none⟩ = some (.int .u32 a.last) ∧ w.cell? ⟨b, off + k * 7 + 6, none⟩ = some (.int .u32 a.delay) := by
  obtain ⟨b, off, rfl, hb, hc⟩ := h (by have := (List.getElem?_eq_some_iff.1 ha).1; omega)
  exact ⟨b, off, rfl, hb, hc k a ha 0 _ rfl, hc k a ha 1 _ rfl, hc k a ha 2 _ rfl, hc k a ha 3 _ rfl, hc k a ha 4 _ rfl, hc k a ha 5 _ rfl, hc k a ha 6 _ rfl⟩
theorem flat_take' {α : Type} (f : α → List Int) (l : List α) (k : Nat) (a : α) (h : l[k]? = some a) : (l.take (k + 1)).flatMap f = (l.take k).flatMap f ++ f a := by
  have hk := (List.getElem?_eq_some_iff.1 h).1
  rw [List.take_succ_eq_append_getElem hk, List.flatMap_append]
  have : l[k] = a := (List.getElem?_eq_some_iff.1 h).2
  rw [this]; simp
section
variable (so cl ti pa oc : Int) (Bl : Option Addr) (l : List Rep.Bk) (cb : Nat) (w : World)
set_option maxHeartbeats 400000 in
theorem Enc_limit (s : Bool) (h : 31 < l.length) : Calls Try.prog 17 #[.agg #[.bool s, .int .u32 so, .int .u64 cl, .int .u32 ti, .int .u32 pa, .int .u32 oc, .slice Bl l.length cb]] w (EncR ([], 4) w) := by
  have h' : (31 : Int) < (l.length : Int) := by omega
  clear h
  go_enter Try.func17, Try.ntmps17
  go_wp2
  go_ret2
  exact ⟨none, 0, rfl, IntsNew.nil, Bel.push (Bel.refl w) _⟩
set_option maxRecDepth 100000 in
set_option maxHeartbeats 6400000 in
theorem Enc_true (hl : l.length ≤ 31) (hR : Rep.Rpt.ok ⟨true, so, cl, ti, pa, oc, l⟩) (hB : RowsAt w w.heap.size 7 Rep.Bk.cells Bl l) : Calls Try.prog 17 #[.agg #[.bool true, .int .u32 so, .int .u64 cl, .int .u32 ti, .int .u32 pa, .int .u32 oc, .slice Bl l.length cb]] w (EncR (Rep.enc ⟨true, so, cl, ti, pa, oc, l⟩) w) := by
  obtain ⟨⟨so0, so1⟩, ⟨cl0, cl1⟩, ⟨ti0, ti1⟩, ⟨pa0, pa1⟩, ⟨oc0, oc1⟩, hbk⟩ := hR
  simp only at so0 so1 cl0 cl1 ti0 ti1 pa0 pa1 oc0 oc1 hbk
  have h31 : ¬31 < (⟨true, so, cl, ti, pa, oc, l⟩ : Rep.Rpt).blocks.length := by simp only; omega
  have HR3 : Hid (∀ b ∈ l, ¬b.fit → Rep.enc ⟨true, so, cl, ti, pa, oc, l⟩ = ([], 3)) := Lib.hid (fun b hb hf => by unfold Rep.enc; rw [if_neg h31, if_pos (fun h => hf (h b hb))])
  have HR0 : Hid ((∀ b ∈ l, b.fit) → Rep.enc ⟨true, so, cl, ti, pa, oc, l⟩ = if (true = false ∧ ¬(⟨true, so, cl, ti, pa, oc, l⟩ : Rep.Rpt).plain) then ([], 2) else ((⟨true, so, cl, ti, pa, oc, l⟩ : Rep.Rpt).bytes, 0)) := Lib.hid (fun h => by unfold Rep.enc; rw [if_neg h31, if_neg (fun hn => hn h)])
  generalize Rep.enc ⟨true, so, cl, ti, pa, oc, l⟩ = R at *
  have HBK := Lib.hid hbk
  have HB := Lib.hid hB
  have CL := Lib.hid (And.intro cl0 cl1)
  have hl' : (l.length : Int) ≤ 31 := by omega
  clear hbk hB h31 cl1
  go_enter Try.func17, Try.ntmps17
  go_wp2_with fail
  go_loopg [18] l.length (fun gk s18 wr => ∃ k : Nat, gk + k = l.length ∧ s18 = .int .i64 k ∧ Hid (∀ b ∈ l.take k, b.fit) ∧ Hid (Blk wr w.heap.size 47 #[.bool true, .int .u32 so, .int .u64 cl, .int .u32 ti, .int .u32 pa, .int .u32 oc, .slice Bl l.length cb]) ∧ Hid (Bel w wr))
  case atStart => exact ⟨0, rfl, rfl, Lib.hid (fun b hb => by simp at hb), Lib.hid (Blk.new w _ _), Lib.hid ((Bel.refl w).push _)⟩
  case round =>
    obtain ⟨k, hg, rfl, HF, B, U⟩ := hrel
    by_cases hlt : k < l.length
    · obtain ⟨a, ha⟩ : ∃ a, l[k]? = some a := ⟨_, List.getElem?_eq_getElem hlt⟩
      obtain ⟨bb, off, rfl, hbB, e0, e1, e2, e3, e4, e5, e6⟩ := rowsB (HB.out.keep (fun p hp => U.out.cell hp)) ha
      have hi0 : (0 : Int) ≤ (k : Int) := by omega
      have hi1 : (k : Int) < (l.length : Int) := by omega
      by_cases hf : a.fit
      · have hf2 := hf
        obtain ⟨f0, f1⟩ := hf2
        have HFA := Lib.hid hf
        have HAA := Lib.hid ha
        clear hf ha
        have t1 : decide (a.lost < -8388608) = false := by simp; omega
        have t2 : decide (8388607 < a.lost) = false := by simp; omega
        go_wp2_with fail
        go_roundg (gk - 1)
        case measure => omega
        case rel =>
          refine ⟨k + 1, by omega, by go_num, Lib.hid (fun b hb => ?_), Lib.hid (B.out.push _), Lib.hid (U.out.push _)⟩
          rw [List.take_succ_eq_append_getElem hlt] at hb
          rcases List.mem_append.1 hb with hb | hb
          · exact HF.out b hb
          · rw [List.mem_singleton.1 hb, (List.getElem?_eq_some_iff.1 HAA.out).2]
            exact HFA.out
      · have hR3 := HR3.out a (List.mem_of_getElem? ha) hf
        subst hR3
        by_cases hlo : a.lost < -8388608
        · have t1 : decide (a.lost < -8388608) = true := by simpa using hlo
          clear hf ha hlo
          go_wp2_with fail
          go_ret2
          exact ⟨none, 0, rfl, IntsNew.nil, U.out.push _⟩
        · have t1 : decide (a.lost < -8388608) = false := by simpa using hlo
          have t2 : decide (8388607 < a.lost) = true := by
            have : ¬(-8388608 ≤ a.lost ∧ a.lost ≤ 8388607) := hf
            simp; omega
          clear hf ha hlo
          go_wp2_with fail
          go_ret2
          exact ⟨none, 0, rfl, IntsNew.nil, U.out.push _⟩
    · obtain rfl : k = l.length := by omega
      have hi1 : (l.length : Int) ≤ (l.length : Int) := Int.le_refl _
      have hR0 := HR0.out (by have := HF.out; rwa [List.take_length] at this)
      rw [if_neg (by simp)] at hR0
      subst hR0
      have c0 := B.out.at 0 _ rfl
      have c1 := B.out.at 1 _ rfl
      have c2 := B.out.at 2 _ rfl
      have c3 := B.out.at 3 _ rfl
      have c4 := B.out.at 4 _ rfl
      have c5 := B.out.at 5 _ rfl
      have c6 := B.out.at 6 _ rfl
      have lt0 := B.out.lt
      have ks := Lib.hid fun W => size_any true l.length W (by omega)
      have hsz : Rep.sizeR true l.length = 8 + (l.length : Int) * 24 + 20 := by simp [Rep.sizeR]
      rw [hsz] at ks
      clear hsz
      go_wp2_with fail
      refine (ks.out _).mono ?_
      rintro e w1 ⟨rfl, rfl⟩
      go_wp2_with fail
      have U1 : Bel w ((wr.alloc (.cells #[.int .u64 cl, .int .u32 ti, .int .u32 pa, .int .u32 oc] 62)).alloc (.cells #[.int .u8 (128 + (l.length : Int)), .int .u8 200] 5)) := (U.out.push _).push _
      have O1 : Owns ((wr.alloc (.cells #[.int .u64 cl, .int .u32 ti, .int .u32 pa, .int .u32 oc] 62)).alloc (.cells #[.int .u8 (128 + (l.length : Int)), .int .u8 200] 5)) w.heap.size 5 1 (some ⟨wr.heap.size + 1, 0, none⟩) 2 2 (u8s [128 + (l.length : Int), 200]) := by
        have h := Owns.lit (wr.alloc (.cells #[.int .u64 cl, .int .u32 ti, .int .u32 pa, .int .u32 oc] 62)) w.heap.size 5 (u8s [128 + (l.length : Int), 200]) 2 (Nat.le_trans U.out.size (by simp)) (by unfold maxLen; omega) rfl
        rw [size_alloc1] at h
        exact h
      have BA := (B.out.push (.cells #[.int .u64 cl, .int .u32 ti, .int .u32 pa, .int .u32 oc] 62)).push (.cells #[.int .u8 (128 + (l.length : Int)), .int .u8 200] 5)
      have BS := (Blk.new wr 62 #[.int .u64 cl, .int .u32 ti, .int .u32 pa, .int .u32 oc]).push (.cells #[.int .u8 (128 + (l.length : Int)), .int .u8 200] 5)
      obtain ⟨W0, hW0⟩ : ∃ W, W = ((wr.alloc (.cells #[.int .u64 cl, .int .u32 ti, .int .u32 pa, .int .u32 oc] 62)).alloc (.cells #[.int .u8 (128 + (l.length : Int)), .int .u8 200] 5)) := ⟨_, rfl⟩
      have hg0 : wr.heap.size + 1 + 1 = W0.heap.size := by rw [hW0, size_alloc2]
      rw [← hW0] at U1 O1 BA BS ⊢
      have HO := Lib.hid O1
      have HU := Lib.hid U1
      have HA := Lib.hid BA
      have HS := Lib.hid BS
      have hlen : [128 + (l.length : Int), 200].length ≤ 60 := by simp
      clear hW0 U1 O1 BA BS U B c0 c1 c2 c3 c4 c5 c6
      refine (put_lit w W0 _ _ [128 + (l.length : Int), 200] 2 1 [(8 + (l.length : Int) * 24 + 20) / 4 - 1] [.int .u64 ((8 + (l.length : Int) * 24 + 20) / 4 - 1)] rfl HU.out HO.out (by omega) (by intro z hz; simp at hz; have := CL.out; omega) (by simp) (by omega) rfl _ hg0).mono ?_
      rintro e w1 ⟨A1, cc1, rfl, O2, U2, hK⟩
      clear HU HO
      generalize hO1 : ([128 + (l.length : Int), 200] ++ List.flatMap (be 2) [(8 + (l.length : Int) * 24 + 20) / 4 - 1]) = o1 at *
      have hlen1 : o1.length ≤ 60 + 2 := by rw [← hO1, List.length_append]; simp [be_len] <;> omega
      have HE1 := Lib.hid hO1
      have HO := Lib.hid O2
      have HU := Lib.hid U2
      have HA' := Lib.hid (hK _ _ _ (by decide) HA.out)
      clear HA
      have HA := HA'
      clear HA'
      have HS' := Lib.hid (hK _ _ _ (by decide) HS.out)
      clear HS
      have HS := HS'
      clear HS'
      clear O2 U2 hK hO1
      have c0 := HA.out.at 0 _ rfl
      have c1 := HA.out.at 1 _ rfl
      have c2 := HA.out.at 2 _ rfl
      have c3 := HA.out.at 3 _ rfl
      have c4 := HA.out.at 4 _ rfl
      have c5 := HA.out.at 5 _ rfl
      have c6 := HA.out.at 6 _ rfl
      have d0 := HS.out.at 0 _ rfl
      have d1 := HS.out.at 1 _ rfl
      have d2 := HS.out.at 2 _ rfl
      have d3 := HS.out.at 3 _ rfl
      go_wp2_with fail
      clear c0 c1 c2 c3 c4 c5 c6 d0 d1 d2 d3
      refine (put_lit w w1 _ _ o1 4 1 [so] [.int .u64 (so)] rfl HU.out HO.out (by omega) (by intro z hz; simp at hz; have := CL.out; omega) (by simp) (by omega) rfl _ rfl).mono ?_
      rintro e w2 ⟨A2, cc2, rfl, O2, U2, hK⟩
      clear HU HO
      generalize hO2 : (o1 ++ List.flatMap (be 4) [so]) = o2 at *
      have hlen2 : o2.length ≤ o1.length + 4 := by rw [← hO2, List.length_append]; simp [be_len] <;> omega
      have HE2 := Lib.hid hO2
      have HO := Lib.hid O2
      have HU := Lib.hid U2
      have HA' := Lib.hid (hK _ _ _ (by decide) HA.out)
      clear HA
      have HA := HA'
      clear HA'
      have HS' := Lib.hid (hK _ _ _ (by decide) HS.out)
      clear HS
      have HS := HS'
      clear HS'
      clear O2 U2 hK hO2
      have c0 := HA.out.at 0 _ rfl
      have c1 := HA.out.at 1 _ rfl
      have c2 := HA.out.at 2 _ rfl
      have c3 := HA.out.at 3 _ rfl
      have c4 := HA.out.at 4 _ rfl
      have c5 := HA.out.at 5 _ rfl
      have c6 := HA.out.at 6 _ rfl
      have d0 := HS.out.at 0 _ rfl
      have d1 := HS.out.at 1 _ rfl
      have d2 := HS.out.at 2 _ rfl
      have d3 := HS.out.at 3 _ rfl
      go_wp2_with fail
      clear c0 c1 c2 c3 c4 c5 c6 d0 d1 d2 d3
      refine (put_lit w w2 _ _ o2 8 1 [cl] [.int .u64 (cl)] rfl HU.out HO.out (by omega) (by intro z hz; simp at hz; have := CL.out; omega) (by simp) (by omega) rfl _ rfl).mono ?_
      rintro e w3 ⟨A3, cc3, rfl, O2, U2, hK⟩
      clear HU HO
      generalize hO3 : (o2 ++ List.flatMap (be 8) [cl]) = o3 at *
      have hlen3 : o3.length ≤ o2.length + 8 := by rw [← hO3, List.length_append]; simp [be_len] <;> omega
      have HE3 := Lib.hid hO3
      have HO := Lib.hid O2
      have HU := Lib.hid U2
      have HA' := Lib.hid (hK _ _ _ (by decide) HA.out)
      clear HA
      have HA := HA'
      clear HA'
      have HS' := Lib.hid (hK _ _ _ (by decide) HS.out)
      clear HS
      have HS := HS'
      clear HS'
      clear O2 U2 hK hO3
      have c0 := HA.out.at 0 _ rfl
      have c1 := HA.out.at 1 _ rfl
      have c2 := HA.out.at 2 _ rfl
      have c3 := HA.out.at 3 _ rfl
      have c4 := HA.out.at 4 _ rfl
      have c5 := HA.out.at 5 _ rfl
      have c6 := HA.out.at 6 _ rfl
      have d0 := HS.out.at 0 _ rfl
      have d1 := HS.out.at 1 _ rfl
      have d2 := HS.out.at 2 _ rfl
      have d3 := HS.out.at 3 _ rfl
      go_wp2_with fail
      clear c0 c1 c2 c3 c4 c5 c6 d0 d1 d2 d3
      refine (put_lit w w3 _ _ o3 4 3 [ti, pa, oc] [.int .u64 (ti), .int .u64 (pa), .int .u64 (oc)] rfl HU.out HO.out (by omega) (by intro z hz; simp at hz; have := CL.out; omega) (by simp) (by omega) rfl _ rfl).mono ?_
      rintro e w4 ⟨A4, cc4, rfl, O2, U2, hK⟩
      clear HU HO
      generalize hO4 : (o3 ++ List.flatMap (be 4) [ti, pa, oc]) = o4 at *
      have hlen4 : o4.length ≤ o3.length + 12 := by rw [← hO4, List.length_append]; simp [be_len] <;> omega
      have HE4 := Lib.hid hO4
      have HO := Lib.hid O2
      have HU := Lib.hid U2
      have HA' := Lib.hid (hK _ _ _ (by decide) HA.out)
      clear HA
      have HA := HA'
      clear HA'
      have HS' := Lib.hid (hK _ _ _ (by decide) HS.out)
      clear HS
      have HS := HS'
      clear HS'
      clear O2 U2 hK hO4
      have c0 := HA.out.at 0 _ rfl
      have c1 := HA.out.at 1 _ rfl
      have c2 := HA.out.at 2 _ rfl
      have c3 := HA.out.at 3 _ rfl
      have c4 := HA.out.at 4 _ rfl
      have c5 := HA.out.at 5 _ rfl
      have c6 := HA.out.at 6 _ rfl
      have d0 := HS.out.at 0 _ rfl
      have d1 := HS.out.at 1 _ rfl
      have d2 := HS.out.at 2 _ rfl
      have d3 := HS.out.at 3 _ rfl
      go_wp2_with fail
      clear c0 c1 c2 c3 c4 c5 c6 d0 d1 d2 d3
      have hlenL : o4.length ≤ 200 := by omega
      have HFR : Hid (o4 = (⟨true, so, cl, ti, pa, oc, l⟩ : Rep.Rpt).front) := Lib.hid (by
        unfold Rep.Rpt.front
        rw [← HE4.out, ← HE3.out, ← HE2.out, ← HE1.out]
        simp [Rep.sizeR])
      clear HE1 HE2 HE3 HE4
      go_loopg [8, 97] l.length (fun gk s8 s97 wq => ∃ (k : Nat) (A' : Option Addr) (c' : Nat) (out : List Int), gk + k = l.length ∧ s97 = .int .i64 k ∧ s8 = .slice A' out.length c' ∧ Hid (out = o4 ++ (l.take k).flatMap Rep.Bk.bytes) ∧ Hid (out.length ≤ 200 + 24 * k) ∧ Hid (Owns wq w.heap.size 5 1 A' out.length c' (u8s out)) ∧ Hid (Bel w wq))
      case atStart => exact ⟨0, A4, cc4, o4, rfl, rfl, rfl, Lib.hid (by simp), Lib.hid (by omega), HO, HU⟩
      case round =>
        clear HO HU HA HS
        obtain ⟨k, A', c', out, hg, rfl, rfl, HEO, HLN, HO, HU⟩ := hrel
        by_cases hlt : k < l.length
        · obtain ⟨a, ha⟩ : ∃ a, l[k]? = some a := ⟨_, List.getElem?_eq_getElem hlt⟩
          obtain ⟨⟨g00, g01⟩, ⟨g10, g11⟩, ⟨g20, g21⟩, ⟨g30, g31⟩, ⟨g40, g41⟩, ⟨g50, g51⟩, g60, g61⟩ := HBK.out a (List.mem_of_getElem? ha)
          obtain ⟨bb, off, rfl, hbB, e0, e1, e2, e3, e4, e5, e6⟩ := rowsB (HB.out.keep (fun p hp => HU.out.cell hp)) ha
          have hi0 : (0 : Int) ≤ (k : Int) := by omega
          have hi1 : (k : Int) < (l.length : Int) := by omega
          have hst := flat_take' Rep.Bk.bytes l k a ha
          have HST := Lib.hid hst
          have hln := HLN.out
          have hlno : out.length ≤ 1000 := by omega
          obtain ⟨a0, a1, a2, a3, a4, a5, a6⟩ := a
          simp only at g00 g01 g10 g11 g20 g21 g30 g31 g40 g41 g50 g51 g60 g61 e0 e1 e2 e3 e4 e5 e6
          clear ha hst hln
          go_wp2_with fail
          have HK := Lib.hid (Blk.new wr 27 #[.int .u32 a0, .int .u8 a1, .int .i64 a2, .int .u32 a3, .int .u32 a4, .int .u32 a5, .int .u32 a6])
          have HO' := Lib.hid (Owns.alloc HO.out (.cells #[.int .u32 a0, .int .u8 a1, .int .i64 a2, .int .u32 a3, .int .u32 a4, .int .u32 a5, .int .u32 a6] 27))
          have HU' := Lib.hid (Bel.push HU.out (.cells #[.int .u32 a0, .int .u8 a1, .int .i64 a2, .int .u32 a3, .int .u32 a4, .int .u32 a5, .int .u32 a6] 27))
          obtain ⟨W0, hW0⟩ : ∃ W, W = wr.alloc (.cells #[.int .u32 a0, .int .u8 a1, .int .i64 a2, .int .u32 a3, .int .u32 a4, .int .u32 a5, .int .u32 a6] 27) := ⟨_, rfl⟩
          have hg0 : wr.heap.size + 1 = W0.heap.size := by rw [hW0, size_alloc1]
          rw [← hW0] at HK HO' HU' ⊢
          clear HO HU hW0 e0 e1 e2 e3 e4 e5 e6
          have HO := HO'
          have HU := HU'
          clear HO' HU'
          refine (put_lit w W0 _ _ out 4 1 [a0] [.int .u64 (a0)] rfl HU.out HO.out (by omega) (by intro z hz; simp at hz; have := CL.out; omega) (by simp) (by omega) rfl _ hg0).mono ?_
          rintro e w11 ⟨A11, cc11, rfl, O2, U2, hK⟩
          clear HU HO
          generalize hO11 : (out ++ List.flatMap (be 4) [a0]) = o11 at *
          have hlen11 : o11.length ≤ out.length + 4 := by rw [← hO11, List.length_append]; simp [be_len] <;> omega
          have HE11 := Lib.hid hO11
          have HO := Lib.hid O2
          have HU := Lib.hid U2
          have HK' := Lib.hid (hK _ _ _ (by decide) HK.out)
          clear HK
          have HK := HK'
          clear HK'
          clear O2 U2 hK hO11
          have f0 := HK.out.at 0 _ rfl
          have f1 := HK.out.at 1 _ rfl
          have f2 := HK.out.at 2 _ rfl
          have f3 := HK.out.at 3 _ rfl
          have f4 := HK.out.at 4 _ rfl
          have f5 := HK.out.at 5 _ rfl
          have f6 := HK.out.at 6 _ rfl
          go_wp2_with fail
          clear f0 f1 f2 f3 f4 f5 f6
          refine (put_lit w w11 _ _ o11 1 1 [a1] [.int .u64 (a1)] rfl HU.out HO.out (by omega) (by intro z hz; simp at hz; have := CL.out; omega) (by simp) (by omega) rfl _ rfl).mono ?_
          rintro e w12 ⟨A12, cc12, rfl, O2, U2, hK⟩
          clear HU HO
          generalize hO12 : (o11 ++ List.flatMap (be 1) [a1]) = o12 at *
          have hlen12 : o12.length ≤ o11.length + 1 := by rw [← hO12, List.length_append]; simp [be_len] <;> omega
          have HE12 := Lib.hid hO12
          have HO := Lib.hid O2
          have HU := Lib.hid U2
          have HK' := Lib.hid (hK _ _ _ (by decide) HK.out)
          clear HK
          have HK := HK'
          clear HK'
          clear O2 U2 hK hO12
          have f0 := HK.out.at 0 _ rfl
          have f1 := HK.out.at 1 _ rfl
          have f2 := HK.out.at 2 _ rfl
          have f3 := HK.out.at 3 _ rfl
          have f4 := HK.out.at 4 _ rfl
          have f5 := HK.out.at 5 _ rfl
          have f6 := HK.out.at 6 _ rfl
          go_wp2_with fail
          clear f0 f1 f2 f3 f4 f5 f6
          refine (put_lit w w12 _ _ o12 3 1 [a2 % 18446744073709551616] [.int .u64 (a2 % 18446744073709551616)] rfl HU.out HO.out (by omega) (by intro z hz; simp at hz; have := CL.out; omega) (by simp) (by omega) rfl _ rfl).mono ?_
          rintro e w13 ⟨A13, cc13, rfl, O2, U2, hK⟩
          clear HU HO
          generalize hO13 : (o12 ++ List.flatMap (be 3) [a2 % 18446744073709551616]) = o13 at *
          have hlen13 : o13.length ≤ o12.length + 3 := by rw [← hO13, List.length_append]; simp [be_len] <;> omega
          have HE13 := Lib.hid hO13
          have HO := Lib.hid O2
          have HU := Lib.hid U2
          have HK' := Lib.hid (hK _ _ _ (by decide) HK.out)
          clear HK
          have HK := HK'
          clear HK'
          clear O2 U2 hK hO13
          have f0 := HK.out.at 0 _ rfl
          have f1 := HK.out.at 1 _ rfl
          have f2 := HK.out.at 2 _ rfl
          have f3 := HK.out.at 3 _ rfl
          have f4 := HK.out.at 4 _ rfl
          have f5 := HK.out.at 5 _ rfl
          have f6 := HK.out.at 6 _ rfl
          go_wp2_with fail
          clear f0 f1 f2 f3 f4 f5 f6
          refine (put_lit w w13 _ _ o13 4 4 [a3, a4, a5, a6] [.int .u64 (a3), .int .u64 (a4), .int .u64 (a5), .int .u64 (a6)] rfl HU.out HO.out (by omega) (by intro z hz; simp at hz; have := CL.out; omega) (by simp) (by omega) rfl _ rfl).mono ?_
          rintro e w14 ⟨A14, cc14, rfl, O2, U2, hK⟩
          clear HU HO
          generalize hO14 : (o13 ++ List.flatMap (be 4) [a3, a4, a5, a6]) = o14 at *
          have hlen14 : o14.length ≤ o13.length + 16 := by rw [← hO14, List.length_append]; simp [be_len] <;> omega
          have HE14 := Lib.hid hO14
          have HO := Lib.hid O2
          have HU := Lib.hid U2
          clear O2 U2 hK hO14
          go_wp2_with fail
          go_roundg (gk - 1)
          case measure => omega
          case rel =>
            refine ⟨k + 1, A14, cc14, o14, by omega, by go_num, rfl, Lib.hid ?_, Lib.hid ?_, HO, HU⟩
            · rw [← HE14.out, ← HE13.out, ← HE12.out, ← HE11.out, HEO.out, HST.out]
              simp [Rep.Bk.bytes, be_wrap64, List.append_assoc]
            · have := HLN.out
              omega
        · obtain rfl : k = l.length := by omega
          have hi1 : (l.length : Int) ≤ (l.length : Int) := Int.le_refl _
          have he : out = (⟨true, so, cl, ti, pa, oc, l⟩ : Rep.Rpt).bytes := by rw [HEO.out, HFR.out, List.take_length]; rfl
          have HE := Lib.hid he
          clear he
          go_wp2_with fail
          go_ret2
          refine ⟨A', c', by rw [← HE.out]; rfl, ?_, HU.out⟩
          rw [← HE.out]
          exact IntsNew.of_own HO.out (Nat.le_refl _)
set_option maxRecDepth 100000 in
set_option maxHeartbeats 6400000 in
theorem Enc_false (hl : l.length ≤ 31) (hR : Rep.Rpt.ok ⟨false, so, cl, ti, pa, oc, l⟩) (hB : RowsAt w w.heap.size 7 Rep.Bk.cells Bl l) : Calls Try.prog 17 #[.agg #[.bool false, .int .u32 so, .int .u64 cl, .int .u32 ti, .int .u32 pa, .int .u32 oc, .slice Bl l.length cb]] w (EncR (Rep.enc ⟨false, so, cl, ti, pa, oc, l⟩) w) := by
  obtain ⟨⟨so0, so1⟩, ⟨cl0, cl1⟩, ⟨ti0, ti1⟩, ⟨pa0, pa1⟩, ⟨oc0, oc1⟩, hbk⟩ := hR
  simp only at so0 so1 cl0 cl1 ti0 ti1 pa0 pa1 oc0 oc1 hbk
  have h31 : ¬31 < (⟨false, so, cl, ti, pa, oc, l⟩ : Rep.Rpt).blocks.length := by simp only; omega
  have HR3 : Hid (∀ b ∈ l, ¬b.fit → Rep.enc ⟨false, so, cl, ti, pa, oc, l⟩ = ([], 3)) := Lib.hid (fun b hb hf => by unfold Rep.enc; rw [if_neg h31, if_pos (fun h => hf (h b hb))])
  have HR0 : Hid ((∀ b ∈ l, b.fit) → Rep.enc ⟨false, so, cl, ti, pa, oc, l⟩ = if (false = false ∧ ¬(⟨false, so, cl, ti, pa, oc, l⟩ : Rep.Rpt).plain) then ([], 2) else ((⟨false, so, cl, ti, pa, oc, l⟩ : Rep.Rpt).bytes, 0)) := Lib.hid (fun h => by unfold Rep.enc; rw [if_neg h31, if_neg (fun hn => hn h)])
  generalize Rep.enc ⟨false, so, cl, ti, pa, oc, l⟩ = R at *
  have HBK := Lib.hid hbk
  have HB := Lib.hid hB
  have CL := Lib.hid (And.intro cl0 cl1)
  have hl' : (l.length : Int) ≤ 31 := by omega
  clear hbk hB h31 cl1
  go_enter Try.func17, Try.ntmps17
  go_wp2_with fail
  go_loopg [18] l.length (fun gk s18 wr => ∃ k : Nat, gk + k = l.length ∧ s18 = .int .i64 k ∧ Hid (∀ b ∈ l.take k, b.fit) ∧ Hid (Blk wr w.heap.size 47 #[.bool false, .int .u32 so, .int .u64 cl, .int .u32 ti, .int .u32 pa, .int .u32 oc, .slice Bl l.length cb]) ∧ Hid (Bel w wr))
  case atStart => exact ⟨0, rfl, rfl, Lib.hid (fun b hb => by simp at hb), Lib.hid (Blk.new w _ _), Lib.hid ((Bel.refl w).push _)⟩
  case round =>
    obtain ⟨k, hg, rfl, HF, B, U⟩ := hrel
    by_cases hlt : k < l.length
    · obtain ⟨a, ha⟩ : ∃ a, l[k]? = some a := ⟨_, List.getElem?_eq_getElem hlt⟩
      obtain ⟨bb, off, rfl, hbB, e0, e1, e2, e3, e4, e5, e6⟩ := rowsB (HB.out.keep (fun p hp => U.out.cell hp)) ha
      have hi0 : (0 : Int) ≤ (k : Int) := by omega
      have hi1 : (k : Int) < (l.length : Int) := by omega
      by_cases hf : a.fit
      · have hf2 := hf
        obtain ⟨f0, f1⟩ := hf2
        have HFA := Lib.hid hf
        have HAA := Lib.hid ha
        clear hf ha
        have t1 : decide (a.lost < -8388608) = false := by simp; omega
        have t2 : decide (8388607 < a.lost) = false := by simp; omega
        go_wp2_with fail
        go_roundg (gk - 1)
        case measure => omega
        case rel =>
          refine ⟨k + 1, by omega, by go_num, Lib.hid (fun b hb => ?_), Lib.hid (B.out.push _), Lib.hid (U.out.push _)⟩
          rw [List.take_succ_eq_append_getElem hlt] at hb
          rcases List.mem_append.1 hb with hb | hb
          · exact HF.out b hb
          · rw [List.mem_singleton.1 hb, (List.getElem?_eq_some_iff.1 HAA.out).2]
            exact HFA.out
      · have hR3 := HR3.out a (List.mem_of_getElem? ha) hf
        subst hR3
        by_cases hlo : a.lost < -8388608
        · have t1 : decide (a.lost < -8388608) = true := by simpa using hlo
          clear hf ha hlo
          go_wp2_with fail
          go_ret2
          exact ⟨none, 0, rfl, IntsNew.nil, U.out.push _⟩
        · have t1 : decide (a.lost < -8388608) = false := by simpa using hlo
          have t2 : decide (8388607 < a.lost) = true := by
            have : ¬(-8388608 ≤ a.lost ∧ a.lost ≤ 8388607) := hf
            simp; omega
          clear hf ha hlo
          go_wp2_with fail
          go_ret2
          exact ⟨none, 0, rfl, IntsNew.nil, U.out.push _⟩
    · obtain rfl : k = l.length := by omega
      have hi1 : (l.length : Int) ≤ (l.length : Int) := Int.le_refl _
      have hR0 := HR0.out (by have := HF.out; rwa [List.take_length] at this)
      by_cases hp : (⟨false, so, cl, ti, pa, oc, l⟩ : Rep.Rpt).plain
      rotate_left
      · rw [if_pos (And.intro (by first | trivial | rfl) hp)] at hR0
        subst hR0
        have hp' : ¬(cl = 0 ∧ ti = 0 ∧ pa = 0 ∧ oc = 0) := hp
        clear hp
        by_cases z0 : cl = 0
        rotate_left
        · have y0 : (cl == 0) = false := by rw [beq_eq_false_iff_ne]; exact z0
          clear z0 hp'
          have c0 := B.out.at 0 _ rfl
          have c1 := B.out.at 1 _ rfl
          have c2 := B.out.at 2 _ rfl
          have c3 := B.out.at 3 _ rfl
          have c4 := B.out.at 4 _ rfl
          have c5 := B.out.at 5 _ rfl
          have c6 := B.out.at 6 _ rfl
          have lt0 := B.out.lt
          go_wp2_with fail
          go_ret2
          exact ⟨none, 0, rfl, IntsNew.nil, U.out.push _⟩
        subst z0
        by_cases z1 : ti = 0
        rotate_left
        · have y1 : (ti == 0) = false := by rw [beq_eq_false_iff_ne]; exact z1
          clear z1 hp'
          have c0 := B.out.at 0 _ rfl
          have c1 := B.out.at 1 _ rfl
          have c2 := B.out.at 2 _ rfl
          have c3 := B.out.at 3 _ rfl
          have c4 := B.out.at 4 _ rfl
          have c5 := B.out.at 5 _ rfl
          have c6 := B.out.at 6 _ rfl
          have lt0 := B.out.lt
          go_wp2_with fail
          go_ret2
          exact ⟨none, 0, rfl, IntsNew.nil, U.out.push _⟩
        subst z1
        by_cases z2 : pa = 0
        rotate_left
        · have y2 : (pa == 0) = false := by rw [beq_eq_false_iff_ne]; exact z2
          clear z2 hp'
          have c0 := B.out.at 0 _ rfl
          have c1 := B.out.at 1 _ rfl
          have c2 := B.out.at 2 _ rfl
          have c3 := B.out.at 3 _ rfl
          have c4 := B.out.at 4 _ rfl
          have c5 := B.out.at 5 _ rfl
          have c6 := B.out.at 6 _ rfl
          have lt0 := B.out.lt
          go_wp2_with fail
          go_ret2
          exact ⟨none, 0, rfl, IntsNew.nil, U.out.push _⟩
        subst z2
        by_cases z3 : oc = 0
        rotate_left
        · have y3 : (oc == 0) = false := by rw [beq_eq_false_iff_ne]; exact z3
          clear z3 hp'
          have c0 := B.out.at 0 _ rfl
          have c1 := B.out.at 1 _ rfl
          have c2 := B.out.at 2 _ rfl
          have c3 := B.out.at 3 _ rfl
          have c4 := B.out.at 4 _ rfl
          have c5 := B.out.at 5 _ rfl
          have c6 := B.out.at 6 _ rfl
          have lt0 := B.out.lt
          go_wp2_with fail
          go_ret2
          exact ⟨none, 0, rfl, IntsNew.nil, U.out.push _⟩
        subst z3
        exact absurd ⟨rfl, rfl, rfl, rfl⟩ hp'
      rw [if_neg (fun h => h.2 hp)] at hR0
      obtain ⟨h1, h2, h3, h4⟩ : cl = 0 ∧ ti = 0 ∧ pa = 0 ∧ oc = 0 := hp
      subst h1 h2 h3 h4 hR0
      have c0 := B.out.at 0 _ rfl
      have c1 := B.out.at 1 _ rfl
      have c2 := B.out.at 2 _ rfl
      have c3 := B.out.at 3 _ rfl
      have c4 := B.out.at 4 _ rfl
      have c5 := B.out.at 5 _ rfl
      have c6 := B.out.at 6 _ rfl
      have lt0 := B.out.lt
      have ks := Lib.hid fun W => size_any false l.length W (by omega)
      have hsz : Rep.sizeR false l.length = 8 + (l.length : Int) * 24 + 0 := by simp [Rep.sizeR]
      rw [hsz] at ks
      clear hsz
      go_wp2_with fail
      refine (ks.out _).mono ?_
      rintro e w1 ⟨rfl, rfl⟩
      go_wp2_with fail
      have U1 : Bel w ((wr.alloc (.cells #[.int .u64 0, .int .u32 0, .int .u32 0, .int .u32 0] 62)).alloc (.cells #[.int .u8 (128 + (l.length : Int)), .int .u8 201] 5)) := (U.out.push _).push _
      have O1 : Owns ((wr.alloc (.cells #[.int .u64 0, .int .u32 0, .int .u32 0, .int .u32 0] 62)).alloc (.cells #[.int .u8 (128 + (l.length : Int)), .int .u8 201] 5)) w.heap.size 5 1 (some ⟨wr.heap.size + 1, 0, none⟩) 2 2 (u8s [128 + (l.length : Int), 201]) := by
        have h := Owns.lit (wr.alloc (.cells #[.int .u64 0, .int .u32 0, .int .u32 0, .int .u32 0] 62)) w.heap.size 5 (u8s [128 + (l.length : Int), 201]) 2 (Nat.le_trans U.out.size (by simp)) (by unfold maxLen; omega) rfl
        rw [size_alloc1] at h
        exact h
      have BA := (B.out.push (.cells #[.int .u64 0, .int .u32 0, .int .u32 0, .int .u32 0] 62)).push (.cells #[.int .u8 (128 + (l.length : Int)), .int .u8 201] 5)
      have BS := (Blk.new wr 62 #[.int .u64 0, .int .u32 0, .int .u32 0, .int .u32 0]).push (.cells #[.int .u8 (128 + (l.length : Int)), .int .u8 201] 5)
      obtain ⟨W0, hW0⟩ : ∃ W, W = ((wr.alloc (.cells #[.int .u64 0, .int .u32 0, .int .u32 0, .int .u32 0] 62)).alloc (.cells #[.int .u8 (128 + (l.length : Int)), .int .u8 201] 5)) := ⟨_, rfl⟩
      have hg0 : wr.heap.size + 1 + 1 = W0.heap.size := by rw [hW0, size_alloc2]
      rw [← hW0] at U1 O1 BA BS ⊢
      have HO := Lib.hid O1
      have HU := Lib.hid U1
      have HA := Lib.hid BA
      have HS := Lib.hid BS
      have hlen : [128 + (l.length : Int), 201].length ≤ 60 := by simp
      clear hW0 U1 O1 BA BS U B c0 c1 c2 c3 c4 c5 c6
      refine (put_lit w W0 _ _ [128 + (l.length : Int), 201] 2 1 [(8 + (l.length : Int) * 24) / 4 - 1] [.int .u64 ((8 + (l.length : Int) * 24) / 4 - 1)] rfl HU.out HO.out (by omega) (by intro z hz; simp at hz; have := CL.out; omega) (by simp) (by omega) rfl _ hg0).mono ?_
      rintro e w1 ⟨A1, cc1, rfl, O2, U2, hK⟩
      clear HU HO
      generalize hO1 : ([128 + (l.length : Int), 201] ++ List.flatMap (be 2) [(8 + (l.length : Int) * 24) / 4 - 1]) = o1 at *
      have hlen1 : o1.length ≤ 60 + 2 := by rw [← hO1, List.length_append]; simp [be_len] <;> omega
      have HE1 := Lib.hid hO1
      have HO := Lib.hid O2
      have HU := Lib.hid U2
      have HA' := Lib.hid (hK _ _ _ (by decide) HA.out)
      clear HA
      have HA := HA'
      clear HA'
      have HS' := Lib.hid (hK _ _ _ (by decide) HS.out)
      clear HS
      have HS := HS'
      clear HS'
      clear O2 U2 hK hO1
      have c0 := HA.out.at 0 _ rfl
      have c1 := HA.out.at 1 _ rfl
      have c2 := HA.out.at 2 _ rfl
      have c3 := HA.out.at 3 _ rfl
      have c4 := HA.out.at 4 _ rfl
      have c5 := HA.out.at 5 _ rfl
      have c6 := HA.out.at 6 _ rfl
      have d0 := HS.out.at 0 _ rfl
      have d1 := HS.out.at 1 _ rfl
      have d2 := HS.out.at 2 _ rfl
      have d3 := HS.out.at 3 _ rfl
      go_wp2_with fail
      clear c0 c1 c2 c3 c4 c5 c6 d0 d1 d2 d3
      refine (put_lit w w1 _ _ o1 4 1 [so] [.int .u64 (so)] rfl HU.out HO.out (by omega) (by intro z hz; simp at hz; have := CL.out; omega) (by simp) (by omega) rfl _ rfl).mono ?_
      rintro e w2 ⟨A2, cc2, rfl, O2, U2, hK⟩
      clear HU HO
      generalize hO2 : (o1 ++ List.flatMap (be 4) [so]) = o2 at *
      have hlen2 : o2.length ≤ o1.length + 4 := by rw [← hO2, List.length_append]; simp [be_len] <;> omega
      have HE2 := Lib.hid hO2
      have HO := Lib.hid O2
      have HU := Lib.hid U2
      have HA' := Lib.hid (hK _ _ _ (by decide) HA.out)
      clear HA
      have HA := HA'
      clear HA'
      have HS' := Lib.hid (hK _ _ _ (by decide) HS.out)
      clear HS
      have HS := HS'
      clear HS'
      clear O2 U2 hK hO2
      have c0 := HA.out.at 0 _ rfl
      have c1 := HA.out.at 1 _ rfl
      have c2 := HA.out.at 2 _ rfl
      have c3 := HA.out.at 3 _ rfl
      have c4 := HA.out.at 4 _ rfl
      have c5 := HA.out.at 5 _ rfl
      have c6 := HA.out.at 6 _ rfl
      have d0 := HS.out.at 0 _ rfl
      have d1 := HS.out.at 1 _ rfl
      have d2 := HS.out.at 2 _ rfl
      have d3 := HS.out.at 3 _ rfl
      go_wp2_with fail
      clear c0 c1 c2 c3 c4 c5 c6 d0 d1 d2 d3
      have hlenL : o2.length ≤ 200 := by omega
      have HFR : Hid (o2 = (⟨false, so, 0, 0, 0, 0, l⟩ : Rep.Rpt).front) := Lib.hid (by
        unfold Rep.Rpt.front
        rw [← HE2.out, ← HE1.out]
        simp [Rep.sizeR])
      clear HE1 HE2
      go_loopg [8, 97] l.length (fun gk s8 s97 wq => ∃ (k : Nat) (A' : Option Addr) (c' : Nat) (out : List Int), gk + k = l.length ∧ s97 = .int .i64 k ∧ s8 = .slice A' out.length c' ∧ Hid (out = o2 ++ (l.take k).flatMap Rep.Bk.bytes) ∧ Hid (out.length ≤ 200 + 24 * k) ∧ Hid (Owns wq w.heap.size 5 1 A' out.length c' (u8s out)) ∧ Hid (Bel w wq))
      case atStart => exact ⟨0, A2, cc2, o2, rfl, rfl, rfl, Lib.hid (by simp), Lib.hid (by omega), HO, HU⟩
      case round =>
        clear HO HU HA HS
        obtain ⟨k, A', c', out, hg, rfl, rfl, HEO, HLN, HO, HU⟩ := hrel
        by_cases hlt : k < l.length
        · obtain ⟨a, ha⟩ : ∃ a, l[k]? = some a := ⟨_, List.getElem?_eq_getElem hlt⟩
          obtain ⟨⟨g00, g01⟩, ⟨g10, g11⟩, ⟨g20, g21⟩, ⟨g30, g31⟩, ⟨g40, g41⟩, ⟨g50, g51⟩, g60, g61⟩ := HBK.out a (List.mem_of_getElem? ha)
          obtain ⟨bb, off, rfl, hbB, e0, e1, e2, e3, e4, e5, e6⟩ := rowsB (HB.out.keep (fun p hp => HU.out.cell hp)) ha
          have hi0 : (0 : Int) ≤ (k : Int) := by omega
          have hi1 : (k : Int) < (l.length : Int) := by omega
          have hst := flat_take' Rep.Bk.bytes l k a ha
          have HST := Lib.hid hst
          have hln := HLN.out
          have hlno : out.length ≤ 1000 := by omega
          obtain ⟨a0, a1, a2, a3, a4, a5, a6⟩ := a
          simp only at g00 g01 g10 g11 g20 g21 g30 g31 g40 g41 g50 g51 g60 g61 e0 e1 e2 e3 e4 e5 e6
          clear ha hst hln
          go_wp2_with fail
          have HK := Lib.hid (Blk.new wr 27 #[.int .u32 a0, .int .u8 a1, .int .i64 a2, .int .u32 a3, .int .u32 a4, .int .u32 a5, .int .u32 a6])
          have HO' := Lib.hid (Owns.alloc HO.out (.cells #[.int .u32 a0, .int .u8 a1, .int .i64 a2, .int .u32 a3, .int .u32 a4, .int .u32 a5, .int .u32 a6] 27))
          have HU' := Lib.hid (Bel.push HU.out (.cells #[.int .u32 a0, .int .u8 a1, .int .i64 a2, .int .u32 a3, .int .u32 a4, .int .u32 a5, .int .u32 a6] 27))
          obtain ⟨W0, hW0⟩ : ∃ W, W = wr.alloc (.cells #[.int .u32 a0, .int .u8 a1, .int .i64 a2, .int .u32 a3, .int .u32 a4, .int .u32 a5, .int .u32 a6] 27) := ⟨_, rfl⟩
          have hg0 : wr.heap.size + 1 = W0.heap.size := by rw [hW0, size_alloc1]
          rw [← hW0] at HK HO' HU' ⊢
          clear HO HU hW0 e0 e1 e2 e3 e4 e5 e6
          have HO := HO'
          have HU := HU'
          clear HO' HU'
          refine (put_lit w W0 _ _ out 4 1 [a0] [.int .u64 (a0)] rfl HU.out HO.out (by omega) (by intro z hz; simp at hz; have := CL.out; omega) (by simp) (by omega) rfl _ hg0).mono ?_
          rintro e w11 ⟨A11, cc11, rfl, O2, U2, hK⟩
          clear HU HO
          generalize hO11 : (out ++ List.flatMap (be 4) [a0]) = o11 at *
          have hlen11 : o11.length ≤ out.length + 4 := by rw [← hO11, List.length_append]; simp [be_len] <;> omega
          have HE11 := Lib.hid hO11
          have HO := Lib.hid O2
          have HU := Lib.hid U2
          have HK' := Lib.hid (hK _ _ _ (by decide) HK.out)
          clear HK
          have HK := HK'
          clear HK'
          clear O2 U2 hK hO11
          have f0 := HK.out.at 0 _ rfl
          have f1 := HK.out.at 1 _ rfl
          have f2 := HK.out.at 2 _ rfl
          have f3 := HK.out.at 3 _ rfl
          have f4 := HK.out.at 4 _ rfl
          have f5 := HK.out.at 5 _ rfl
          have f6 := HK.out.at 6 _ rfl
          go_wp2_with fail
          clear f0 f1 f2 f3 f4 f5 f6
          refine (put_lit w w11 _ _ o11 1 1 [a1] [.int .u64 (a1)] rfl HU.out HO.out (by omega) (by intro z hz; simp at hz; have := CL.out; omega) (by simp) (by omega) rfl _ rfl).mono ?_
          rintro e w12 ⟨A12, cc12, rfl, O2, U2, hK⟩
          clear HU HO
          generalize hO12 : (o11 ++ List.flatMap (be 1) [a1]) = o12 at *
          have hlen12 : o12.length ≤ o11.length + 1 := by rw [← hO12, List.length_append]; simp [be_len] <;> omega
          have HE12 := Lib.hid hO12
          have HO := Lib.hid O2
          have HU := Lib.hid U2
          have HK' := Lib.hid (hK _ _ _ (by decide) HK.out)
          clear HK
          have HK := HK'
          clear HK'
          clear O2 U2 hK hO12
          have f0 := HK.out.at 0 _ rfl
          have f1 := HK.out.at 1 _ rfl
          have f2 := HK.out.at 2 _ rfl
          have f3 := HK.out.at 3 _ rfl
          have f4 := HK.out.at 4 _ rfl
          have f5 := HK.out.at 5 _ rfl
          have f6 := HK.out.at 6 _ rfl
          go_wp2_with fail
          clear f0 f1 f2 f3 f4 f5 f6
          refine (put_lit w w12 _ _ o12 3 1 [a2 % 18446744073709551616] [.int .u64 (a2 % 18446744073709551616)] rfl HU.out HO.out (by omega) (by intro z hz; simp at hz; have := CL.out; omega) (by simp) (by omega) rfl _ rfl).mono ?_
          rintro e w13 ⟨A13, cc13, rfl, O2, U2, hK⟩
          clear HU HO
          generalize hO13 : (o12 ++ List.flatMap (be 3) [a2 % 18446744073709551616]) = o13 at *
          have hlen13 : o13.length ≤ o12.length + 3 := by rw [← hO13, List.length_append]; simp [be_len] <;> omega
          have HE13 := Lib.hid hO13
          have HO := Lib.hid O2
          have HU := Lib.hid U2
          have HK' := Lib.hid (hK _ _ _ (by decide) HK.out)
          clear HK
          have HK := HK'
          clear HK'
          clear O2 U2 hK hO13
          have f0 := HK.out.at 0 _ rfl
          have f1 := HK.out.at 1 _ rfl
          have f2 := HK.out.at 2 _ rfl
          have f3 := HK.out.at 3 _ rfl
          have f4 := HK.out.at 4 _ rfl
          have f5 := HK.out.at 5 _ rfl
          have f6 := HK.out.at 6 _ rfl
          go_wp2_with fail
          clear f0 f1 f2 f3 f4 f5 f6
          refine (put_lit w w13 _ _ o13 4 4 [a3, a4, a5, a6] [.int .u64 (a3), .int .u64 (a4), .int .u64 (a5), .int .u64 (a6)] rfl HU.out HO.out (by omega) (by intro z hz; simp at hz; have := CL.out; omega) (by simp) (by omega) rfl _ rfl).mono ?_
          rintro e w14 ⟨A14, cc14, rfl, O2, U2, hK⟩
          clear HU HO
          generalize hO14 : (o13 ++ List.flatMap (be 4) [a3, a4, a5, a6]) = o14 at *
          have hlen14 : o14.length ≤ o13.length + 16 := by rw [← hO14, List.length_append]; simp [be_len] <;> omega
          have HE14 := Lib.hid hO14
          have HO := Lib.hid O2
          have HU := Lib.hid U2
          clear O2 U2 hK hO14
          go_wp2_with fail
          go_roundg (gk - 1)
          case measure => omega
          case rel =>
            refine ⟨k + 1, A14, cc14, o14, by omega, by go_num, rfl, Lib.hid ?_, Lib.hid ?_, HO, HU⟩
            · rw [← HE14.out, ← HE13.out, ← HE12.out, ← HE11.out, HEO.out, HST.out]
              simp [Rep.Bk.bytes, be_wrap64, List.append_assoc]
            · have := HLN.out
              omega
        · obtain rfl : k = l.length := by omega
          have hi1 : (l.length : Int) ≤ (l.length : Int) := Int.le_refl _
          have he : out = (⟨false, so, 0, 0, 0, 0, l⟩ : Rep.Rpt).bytes := by rw [HEO.out, HFR.out, List.take_length]; rfl
          have HE := Lib.hid he
          clear he
          go_wp2_with fail
          go_ret2
          refine ⟨A', c', by rw [← HE.out]; rfl, ?_, HU.out⟩
          rw [← HE.out]
          exact IntsNew.of_own HO.out (Nat.le_refl _)
end
end Go.Proofs.Ythmcbmjjngolmaa
