/- Layer 26: Encode of the reference. -/
import Derived.Test.YthmcbmjjngolmaaRepEnc
namespace Go.Proofs.Ythmcbmjjngolmaa
open Go.RowKit
set_option linter.unusedVariables false
set_option linter.unusedSimpArgs false
theorem rSize_any (s : Bool) (n : Nat) (w : World) (hn : n ≤ 1000) : Calls Try.prog 35 #[.bool s, .int .i64 n] w fun e w' => e = .returned (.int .i64 (Rep.sizeR s n)) ∧ w = w' := by
  unfold Rep.sizeR
  have h1 : (n : Int) ≤ 1000 := by omega
  cases s
  all_goals
    go_enter Try.func35, Try.ntmps35
    go_wp2
    go_ret
    exact ⟨ret_int'' (by first | omega | (simp; omega)), rfl⟩
theorem own_app {w : World} {base c n : Nat} {A : Option Addr} {a : List Int} {x : Int} {e : TypeId} (h : Owns w base e 1 A (a.length + n) c (u8s a ++ (be n x).map (Value.int .u8))) : Owns w base e 1 A (a ++ be n x).length c (u8s (a ++ be n x)) := by
  rw [List.length_append, u8s_app, be_len]
  exact h
theorem own_one {w : World} {base c n : Nat} {A : Option Addr} {a : List Int} {x y : Int} {e : TypeId} (h : Owns w base e 1 A (a.length + n + 1) c (u8s a ++ (be n x).map (Value.int .u8) ++ [.int .u8 y])) (h0 : 0 ≤ y) (h1 : y ≤ 255) : Owns w base e 1 A (a ++ be n x ++ be 1 y).length c (u8s (a ++ be n x ++ be 1 y)) := by
  have hb : be 1 y = [y] := by simp [be]; omega
  rw [hb, List.length_append, List.length_append, u8s_app, u8s_app, be_len]
  exact h
section
variable (so cl ti pa oc : Int) (Bl : Option Addr) (l : List Rep.Bk) (cb : Nat) (w : World)
set_option maxRecDepth 100000 in
set_option maxHeartbeats 400000 in
theorem rEnc_limit (s : Bool) (h : 31 < l.length) : Calls Try.prog 20 #[.agg #[.bool s, .int .u32 so, .int .u64 cl, .int .u32 ti, .int .u32 pa, .int .u32 oc, .slice Bl l.length cb]] w (EncR ([], 4) w) := by
  have h' : (31 : Int) < (l.length : Int) := by omega
  clear h
  go_enter Try.func20, Try.ntmps20
  go_wp2
  go_ret2
  exact ⟨none, 0, rfl, IntsNew.nil, Bel.push (Bel.refl w) _⟩
set_option maxRecDepth 100000 in
set_option maxHeartbeats 6400000 in
theorem rEnc_true (hl : l.length ≤ 31) (hR : Rep.Rpt.ok ⟨true, so, cl, ti, pa, oc, l⟩) (hB : RowsAt w w.heap.size 7 Rep.Bk.cells Bl l) : Calls Try.prog 20 #[.agg #[.bool true, .int .u32 so, .int .u64 cl, .int .u32 ti, .int .u32 pa, .int .u32 oc, .slice Bl l.length cb]] w (EncR (Rep.enc ⟨true, so, cl, ti, pa, oc, l⟩) w) := by
  obtain ⟨⟨so0, so1⟩, ⟨cl0, cl1⟩, ⟨ti0, ti1⟩, ⟨pa0, pa1⟩, ⟨oc0, oc1⟩, hbk⟩ := hR
  simp only at so0 so1 cl0 cl1 ti0 ti1 pa0 pa1 oc0 oc1 hbk
  have h31 : ¬31 < (⟨true, so, cl, ti, pa, oc, l⟩ : Rep.Rpt).blocks.length := by simp only; omega
  have HR3 : Hid (∀ b ∈ l, ¬b.fit → Rep.enc ⟨true, so, cl, ti, pa, oc, l⟩ = ([], 3)) := Lib.hid (fun b hb hf => by unfold Rep.enc; rw [if_neg h31, if_pos (fun h => hf (h b hb))])
  have HR0 : Hid ((∀ b ∈ l, b.fit) → Rep.enc ⟨true, so, cl, ti, pa, oc, l⟩ = if (true = false ∧ ¬(⟨true, so, cl, ti, pa, oc, l⟩ : Rep.Rpt).plain) then ([], 2) else ((⟨true, so, cl, ti, pa, oc, l⟩ : Rep.Rpt).bytes, 0)) := Lib.hid (fun h => by unfold Rep.enc; rw [if_neg h31, if_neg (fun hn => hn h)])
  generalize Rep.enc ⟨true, so, cl, ti, pa, oc, l⟩ = R at *
  have HBK := Lib.hid hbk
  have HB := Lib.hid hB
  have CL := Lib.hid (And.intro cl0 cl1)
  have hl' : (l.length : Int) ≤ 31 := by omega
  clear hbk hB h31 cl1
  go_enter Try.func20, Try.ntmps20
  have U := Lib.hid ((Bel.refl w).push (.cells #[.bool true, .int .u32 so, .int .u64 cl, .int .u32 ti, .int .u32 pa, .int .u32 oc, .slice Bl l.length cb] 47))
  have B := Lib.hid (Blk.new w 47 #[.bool true, .int .u32 so, .int .u64 cl, .int .u32 ti, .int .u32 pa, .int .u32 oc, .slice Bl l.length cb])
  go_wp2_with fail
  obtain ⟨W, hW⟩ : ∃ W, W = w.alloc (.cells #[.bool true, .int .u32 so, .int .u64 cl, .int .u32 ti, .int .u32 pa, .int .u32 oc, .slice Bl l.length cb] 47) := ⟨_, rfl⟩
  rw [← hW] at U B ⊢
  clear hW
  go_loopg [4] l.length (fun gk s4 wr => ∃ k : Nat, gk + k = l.length ∧ s4 = .int .i64 k ∧ Hid (∀ b ∈ l.take k, b.fit) ∧ Hid (wr = W))
  case atStart => exact ⟨0, rfl, rfl, Lib.hid (fun b hb => by simp at hb), Lib.hid rfl⟩
  case round =>
    obtain ⟨k, hg, rfl, HF, HWW⟩ := hrel
    obtain rfl : wr = W := HWW.out
    clear HWW
    by_cases hlt : k < l.length
    · obtain ⟨a, ha⟩ : ∃ a, l[k]? = some a := ⟨_, List.getElem?_eq_getElem hlt⟩
      obtain ⟨bb, off, rfl, hbB, e0, e1, e2, e3, e4, e5, e6⟩ := rowsB (HB.out.keep (fun p hp => U.out.cell hp)) ha
      clear e0 e1 e3 e4 e5 e6
      have hi0 : (0 : Int) ≤ (k : Int) := by omega
      have hi1 : (k : Int) < (l.length : Int) := by omega
      have c0 := B.out.at 0 _ rfl
      have c1 := B.out.at 1 _ rfl
      have c2 := B.out.at 2 _ rfl
      have c3 := B.out.at 3 _ rfl
      have c4 := B.out.at 4 _ rfl
      have c5 := B.out.at 5 _ rfl
      have c6 := B.out.at 6 _ rfl
      by_cases hf : a.fit
      · have hf2 := hf
        obtain ⟨f0, f1⟩ := hf2
        have HFA := Lib.hid hf
        have HAA := Lib.hid ha
        clear hf ha
        have t1 : decide (a.lost < -8388608) = false := by simp; omega
        have t2 : decide (8388607 < a.lost) = false := by simp; omega
        go_wp2_with fail
        go_roundg (gk - 1)
        case measure => omega
        case rel =>
          refine ⟨k + 1, by omega, by go_num, Lib.hid (fun b hb => ?_), Lib.hid rfl⟩
          rw [List.take_succ_eq_append_getElem hlt] at hb
          rcases List.mem_append.1 hb with hb | hb
          · exact HF.out b hb
          · rw [List.mem_singleton.1 hb, (List.getElem?_eq_some_iff.1 HAA.out).2]
            exact HFA.out
      · have hR3 := HR3.out a (List.mem_of_getElem? ha) hf
        subst hR3
        by_cases hlo : a.lost < -8388608
        · have t1 : decide (a.lost < -8388608) = true := by simpa using hlo
          clear hf ha hlo
          go_wp2_with fail
          go_ret2
          exact ⟨none, 0, rfl, IntsNew.nil, U.out⟩
        · have t1 : decide (a.lost < -8388608) = false := by simpa using hlo
          have t2 : decide (8388607 < a.lost) = true := by
            have : ¬(-8388608 ≤ a.lost ∧ a.lost ≤ 8388607) := hf
            simp; omega
          clear hf ha hlo
          go_wp2_with fail
          go_ret2
          exact ⟨none, 0, rfl, IntsNew.nil, U.out⟩
    · obtain rfl : k = l.length := by omega
      have hi1 : (l.length : Int) ≤ (l.length : Int) := Int.le_refl _
      have hfall : ∀ b ∈ l, b.fit := by have := HF.out; rwa [List.take_length] at this
      have HFALL := Lib.hid hfall
      have hR0 := HR0.out hfall
      clear hfall
      rw [if_neg (by simp)] at hR0
      subst hR0
      have c0 := B.out.at 0 _ rfl
      have c1 := B.out.at 1 _ rfl
      have c2 := B.out.at 2 _ rfl
      have c3 := B.out.at 3 _ rfl
      have c4 := B.out.at 4 _ rfl
      have c5 := B.out.at 5 _ rfl
      have c6 := B.out.at 6 _ rfl
      have lt0 := B.out.lt
      have ks := Lib.hid fun W => rSize_any true l.length W (by omega)
      have hsz : Rep.sizeR true l.length = 8 + (l.length : Int) * 24 + 20 := by simp [Rep.sizeR]
      rw [hsz] at ks
      clear hsz
      go_wp2_with fail
      refine (ks.out _).mono ?_
      rintro e w1 ⟨rfl, rfl⟩
      go_wp2_with fail
      have HO := Lib.hid (show Owns (wr.alloc (.cells #[.int .u8 (128 + (l.length : Int)), .int .u8 200] 5)) w.heap.size 5 1 (some ⟨wr.heap.size, 0, none⟩) [128 + (l.length : Int), 200].length 2 (u8s [128 + (l.length : Int), 200]) from Owns.lit wr w.heap.size 5 (u8s [128 + (l.length : Int), 200]) 2 U.out.size (by unfold maxLen; omega) rfl)
      have HU := Lib.hid (Bel.push U.out (.cells #[.int .u8 (128 + (l.length : Int)), .int .u8 200] 5))
      have HA := Lib.hid (Blk.push B.out (.cells #[.int .u8 (128 + (l.length : Int)), .int .u8 200] 5))
      obtain ⟨W0, hW0⟩ : ∃ W, W = wr.alloc (.cells #[.int .u8 (128 + (l.length : Int)), .int .u8 200] 5) := ⟨_, rfl⟩
      rw [← hW0] at HO HU HA ⊢
      obtain ⟨o0, ho0⟩ : ∃ o : List Int, o = [128 + (l.length : Int), 200] := ⟨_, rfl⟩
      have hlen0 : o0.length ≤ 60 := by rw [ho0]; simp
      rw [← ho0] at HO
      have hl0 : 2 = o0.length := by rw [ho0]; rfl
      have HE0 := Lib.hid ho0
      clear hW0 U B ho0 lt0 c0 c1 c2 c3 c4 c5 c6
      refine (number_any _ ((8 + (l.length : Int) * 24 + 20) / 4 - 1) 2 (by have := CL.out; omega) (by have := CL.out; omega) (by omega)).mono ?_
      rintro e w1 ⟨A1, cc1, rfl, hI, hb⟩
      have HO' := Lib.hid (HO.out.below hb)
      have HU' := Lib.hid (HU.out.later hb)
      clear HU HO
      have HO := HO'
      have HU := HU'
      clear HO' HU'
      have HA' := Lib.hid (HA.out.later hb)
      clear HA
      have HA := HA'
      clear HA'
      have hbs := HU.out.size
      clear hb
      rw [show Value.slice (some ⟨wr.heap.size, 0, none⟩) 2 2 = Value.slice (some ⟨wr.heap.size, 0, none⟩) o0.length 2 by rw [← hl0]]
      clear hl0
      go_wp2_with (at_builtin
                   go_loud (refine wpList_append_ints rfl (.tmp 68) (.tmp 78) 40 rfl w.heap.size 5 1 (.int .u8 0) Try.underlying40 info_u8 rfl _ o0.length _ (u8s o0) rfl HO.out _ .u8 A1 cc1 (be 2 ((8 + (l.length : Int) * 24 + 20) / 4 - 1)) (by rw [be_len]; rfl) hI.1 (by rw [be_len]; unfold maxLen; omega) (by rw [be_len]; omega) hbs (o0.length + 2) (by rw [be_len]) ?_)
                   intro An cn wn hown hgr hat
                   have HU2 : Hid (Bel w wn) := Lib.hid (HU.out.grown hgr hbs (fun g e => (HO.out.block g e).1))
                   have HO2 := Lib.hid (own_app hown)
                   have HA2 := Lib.hid (HA.out.grown hgr (own_type HO.out HA.out (by decide)))
                   have c0 := HA2.out.at 0 _ rfl
                   have c1 := HA2.out.at 1 _ rfl
                   have c2 := HA2.out.at 2 _ rfl
                   have c3 := HA2.out.at 3 _ rfl
                   have c4 := HA2.out.at 4 _ rfl
                   have c5 := HA2.out.at 5 _ rfl
                   have c6 := HA2.out.at 6 _ rfl
                   clear hown hgr hat)
      clear HO HU hI hbs HA
      have HO := HO2
      have HU := HU2
      clear HO2 HU2
      have HA := HA2
      clear HA2
      generalize hO1 : (o0 ++ be 2 ((8 + (l.length : Int) * 24 + 20) / 4 - 1)) = o1 at *
      have hlen1 : o1.length ≤ o0.length + 2 := by rw [← hO1, List.length_append, be_len]; omega
      have hq1 : o0.length + 2 = o1.length := by rw [← hO1, List.length_append, be_len]
      rw [hq1]
      have HE1 := Lib.hid hO1
      clear hO1 hq1 c0 c1 c2 c3 c4 c5 c6
      refine (number_any _ (so) 4 (by have := CL.out; omega) (by have := CL.out; omega) (by omega)).mono ?_
      rintro e w2 ⟨A2, cc2, rfl, hI, hb⟩
      have HO' := Lib.hid (HO.out.below hb)
      have HU' := Lib.hid (HU.out.later hb)
      clear HU HO
      have HO := HO'
      have HU := HU'
      clear HO' HU'
      have HA' := Lib.hid (HA.out.later hb)
      clear HA
      have HA := HA'
      clear HA'
      have hbs := HU.out.size
      clear hb
      go_wp2_with (at_builtin
                   go_loud (refine wpList_append_ints rfl (.tmp 80) (.tmp 84) 40 rfl w.heap.size 5 1 (.int .u8 0) Try.underlying40 info_u8 rfl _ o1.length _ (u8s o1) rfl HO.out _ .u8 A2 cc2 (be 4 (so)) (by rw [be_len]; rfl) hI.1 (by rw [be_len]; unfold maxLen; omega) (by rw [be_len]; omega) hbs (o1.length + 4) (by rw [be_len]) ?_)
                   intro An cn wn hown hgr hat
                   have HU2 : Hid (Bel w wn) := Lib.hid (HU.out.grown hgr hbs (fun g e => (HO.out.block g e).1))
                   have HO2 := Lib.hid (own_app hown)
                   have HA2 := Lib.hid (HA.out.grown hgr (own_type HO.out HA.out (by decide)))
                   have c0 := HA2.out.at 0 _ rfl
                   have c1 := HA2.out.at 1 _ rfl
                   have c2 := HA2.out.at 2 _ rfl
                   have c3 := HA2.out.at 3 _ rfl
                   have c4 := HA2.out.at 4 _ rfl
                   have c5 := HA2.out.at 5 _ rfl
                   have c6 := HA2.out.at 6 _ rfl
                   clear hown hgr hat)
      clear HO HU hI hbs HA
      have HO := HO2
      have HU := HU2
      clear HO2 HU2
      have HA := HA2
      clear HA2
      generalize hO2 : (o1 ++ be 4 (so)) = o2 at *
      have hlen2 : o2.length ≤ o1.length + 4 := by rw [← hO2, List.length_append, be_len]; omega
      have hq2 : o1.length + 4 = o2.length := by rw [← hO2, List.length_append, be_len]
      rw [hq2]
      have HE2 := Lib.hid hO2
      clear hO2 hq2 c0 c1 c2 c3 c4 c5 c6
      refine (number_any _ (cl) 8 (by have := CL.out; omega) (by have := CL.out; omega) (by omega)).mono ?_
      rintro e w3 ⟨A3, cc3, rfl, hI, hb⟩
      have HO' := Lib.hid (HO.out.below hb)
      have HU' := Lib.hid (HU.out.later hb)
      clear HU HO
      have HO := HO'
      have HU := HU'
      clear HO' HU'
      have HA' := Lib.hid (HA.out.later hb)
      clear HA
      have HA := HA'
      clear HA'
      have hbs := HU.out.size
      clear hb
      go_wp2_with (at_builtin
                   go_loud (refine wpList_append_ints rfl (.tmp 88) (.tmp 91) 40 rfl w.heap.size 5 1 (.int .u8 0) Try.underlying40 info_u8 rfl _ o2.length _ (u8s o2) rfl HO.out _ .u8 A3 cc3 (be 8 (cl)) (by rw [be_len]; rfl) hI.1 (by rw [be_len]; unfold maxLen; omega) (by rw [be_len]; omega) hbs (o2.length + 8) (by rw [be_len]) ?_)
                   intro An cn wn hown hgr hat
                   have HU2 : Hid (Bel w wn) := Lib.hid (HU.out.grown hgr hbs (fun g e => (HO.out.block g e).1))
                   have HO2 := Lib.hid (own_app hown)
                   have HA2 := Lib.hid (HA.out.grown hgr (own_type HO.out HA.out (by decide)))
                   have c0 := HA2.out.at 0 _ rfl
                   have c1 := HA2.out.at 1 _ rfl
                   have c2 := HA2.out.at 2 _ rfl
                   have c3 := HA2.out.at 3 _ rfl
                   have c4 := HA2.out.at 4 _ rfl
                   have c5 := HA2.out.at 5 _ rfl
                   have c6 := HA2.out.at 6 _ rfl
                   clear hown hgr hat)
      clear HO HU hI hbs HA
      have HO := HO2
      have HU := HU2
      clear HO2 HU2
      have HA := HA2
      clear HA2
      generalize hO3 : (o2 ++ be 8 (cl)) = o3 at *
      have hlen3 : o3.length ≤ o2.length + 8 := by rw [← hO3, List.length_append, be_len]; omega
      have hq3 : o2.length + 8 = o3.length := by rw [← hO3, List.length_append, be_len]
      rw [hq3]
      have HE3 := Lib.hid hO3
      clear hO3 hq3 c0 c1 c2 c3 c4 c5 c6
      refine (number_any _ (ti) 4 (by have := CL.out; omega) (by have := CL.out; omega) (by omega)).mono ?_
      rintro e w4 ⟨A4, cc4, rfl, hI, hb⟩
      have HO' := Lib.hid (HO.out.below hb)
      have HU' := Lib.hid (HU.out.later hb)
      clear HU HO
      have HO := HO'
      have HU := HU'
      clear HO' HU'
      have HA' := Lib.hid (HA.out.later hb)
      clear HA
      have HA := HA'
      clear HA'
      have hbs := HU.out.size
      clear hb
      go_wp2_with (at_builtin
                   go_loud (refine wpList_append_ints rfl (.tmp 93) (.tmp 97) 40 rfl w.heap.size 5 1 (.int .u8 0) Try.underlying40 info_u8 rfl _ o3.length _ (u8s o3) rfl HO.out _ .u8 A4 cc4 (be 4 (ti)) (by rw [be_len]; rfl) hI.1 (by rw [be_len]; unfold maxLen; omega) (by rw [be_len]; omega) hbs (o3.length + 4) (by rw [be_len]) ?_)
                   intro An cn wn hown hgr hat
                   have HU2 : Hid (Bel w wn) := Lib.hid (HU.out.grown hgr hbs (fun g e => (HO.out.block g e).1))
                   have HO2 := Lib.hid (own_app hown)
                   have HA2 := Lib.hid (HA.out.grown hgr (own_type HO.out HA.out (by decide)))
                   have c0 := HA2.out.at 0 _ rfl
                   have c1 := HA2.out.at 1 _ rfl
                   have c2 := HA2.out.at 2 _ rfl
                   have c3 := HA2.out.at 3 _ rfl
                   have c4 := HA2.out.at 4 _ rfl
                   have c5 := HA2.out.at 5 _ rfl
                   have c6 := HA2.out.at 6 _ rfl
                   clear hown hgr hat)
      clear HO HU hI hbs HA
      have HO := HO2
      have HU := HU2
      clear HO2 HU2
      have HA := HA2
      clear HA2
      generalize hO4 : (o3 ++ be 4 (ti)) = o4 at *
      have hlen4 : o4.length ≤ o3.length + 4 := by rw [← hO4, List.length_append, be_len]; omega
      have hq4 : o3.length + 4 = o4.length := by rw [← hO4, List.length_append, be_len]
      rw [hq4]
      have HE4 := Lib.hid hO4
      clear hO4 hq4 c0 c1 c2 c3 c4 c5 c6
      refine (number_any _ (pa) 4 (by have := CL.out; omega) (by have := CL.out; omega) (by omega)).mono ?_
      rintro e w5 ⟨A5, cc5, rfl, hI, hb⟩
      have HO' := Lib.hid (HO.out.below hb)
      have HU' := Lib.hid (HU.out.later hb)
      clear HU HO
      have HO := HO'
      have HU := HU'
      clear HO' HU'
      have HA' := Lib.hid (HA.out.later hb)
      clear HA
      have HA := HA'
      clear HA'
      have hbs := HU.out.size
      clear hb
      go_wp2_with (at_builtin
                   go_loud (refine wpList_append_ints rfl (.tmp 99) (.tmp 103) 40 rfl w.heap.size 5 1 (.int .u8 0) Try.underlying40 info_u8 rfl _ o4.length _ (u8s o4) rfl HO.out _ .u8 A5 cc5 (be 4 (pa)) (by rw [be_len]; rfl) hI.1 (by rw [be_len]; unfold maxLen; omega) (by rw [be_len]; omega) hbs (o4.length + 4) (by rw [be_len]) ?_)
                   intro An cn wn hown hgr hat
                   have HU2 : Hid (Bel w wn) := Lib.hid (HU.out.grown hgr hbs (fun g e => (HO.out.block g e).1))
                   have HO2 := Lib.hid (own_app hown)
                   have HA2 := Lib.hid (HA.out.grown hgr (own_type HO.out HA.out (by decide)))
                   have c0 := HA2.out.at 0 _ rfl
                   have c1 := HA2.out.at 1 _ rfl
                   have c2 := HA2.out.at 2 _ rfl
                   have c3 := HA2.out.at 3 _ rfl
                   have c4 := HA2.out.at 4 _ rfl
                   have c5 := HA2.out.at 5 _ rfl
                   have c6 := HA2.out.at 6 _ rfl
                   clear hown hgr hat)
      clear HO HU hI hbs HA
      have HO := HO2
      have HU := HU2
      clear HO2 HU2
      have HA := HA2
      clear HA2
      generalize hO5 : (o4 ++ be 4 (pa)) = o5 at *
      have hlen5 : o5.length ≤ o4.length + 4 := by rw [← hO5, List.length_append, be_len]; omega
      have hq5 : o4.length + 4 = o5.length := by rw [← hO5, List.length_append, be_len]
      rw [hq5]
      have HE5 := Lib.hid hO5
      clear hO5 hq5 c0 c1 c2 c3 c4 c5 c6
      refine (number_any _ (oc) 4 (by have := CL.out; omega) (by have := CL.out; omega) (by omega)).mono ?_
      rintro e w6 ⟨A6, cc6, rfl, hI, hb⟩
      have HO' := Lib.hid (HO.out.below hb)
      have HU' := Lib.hid (HU.out.later hb)
      clear HU HO
      have HO := HO'
      have HU := HU'
      clear HO' HU'
      have HA' := Lib.hid (HA.out.later hb)
      clear HA
      have HA := HA'
      clear HA'
      have hbs := HU.out.size
      clear hb
      go_wp2_with (at_builtin
                   go_loud (refine wpList_append_ints rfl (.tmp 105) (.tmp 109) 40 rfl w.heap.size 5 1 (.int .u8 0) Try.underlying40 info_u8 rfl _ o5.length _ (u8s o5) rfl HO.out _ .u8 A6 cc6 (be 4 (oc)) (by rw [be_len]; rfl) hI.1 (by rw [be_len]; unfold maxLen; omega) (by rw [be_len]; omega) hbs (o5.length + 4) (by rw [be_len]) ?_)
                   intro An cn wn hown hgr hat
                   have HU2 : Hid (Bel w wn) := Lib.hid (HU.out.grown hgr hbs (fun g e => (HO.out.block g e).1))
                   have HO2 := Lib.hid (own_app hown)
                   have HA2 := Lib.hid (HA.out.grown hgr (own_type HO.out HA.out (by decide)))
                   have c0 := HA2.out.at 0 _ rfl
                   have c1 := HA2.out.at 1 _ rfl
                   have c2 := HA2.out.at 2 _ rfl
                   have c3 := HA2.out.at 3 _ rfl
                   have c4 := HA2.out.at 4 _ rfl
                   have c5 := HA2.out.at 5 _ rfl
                   have c6 := HA2.out.at 6 _ rfl
                   clear hown hgr hat)
      clear HO HU hI hbs HA
      have HO := HO2
      have HU := HU2
      clear HO2 HU2
      have HA := HA2
      clear HA2
      generalize hO6 : (o5 ++ be 4 (oc)) = o6 at *
      have hlen6 : o6.length ≤ o5.length + 4 := by rw [← hO6, List.length_append, be_len]; omega
      have hq6 : o5.length + 4 = o6.length := by rw [← hO6, List.length_append, be_len]
      rw [hq6]
      have HE6 := Lib.hid hO6
      clear hO6 hq6 c0 c1 c2 c3 c4 c5 c6
      have hlenL : o6.length ≤ 200 := by omega
      have HFR : Hid (o6 = (⟨true, so, cl, ti, pa, oc, l⟩ : Rep.Rpt).front) := Lib.hid (by
        unfold Rep.Rpt.front
        rw [← HE6.out, ← HE5.out, ← HE4.out, ← HE3.out, ← HE2.out, ← HE1.out, HE0.out]
        simp [Rep.sizeR])
      clear HE0 HE1 HE2 HE3 HE4 HE5 HE6
      have hlc : l.length ≤ 31 := hl
      go_loopg [5, 6] l.length (fun gk s5 s6 wr => ∃ (k : Nat) (A' : Option Addr) (c' : Nat) (out : List Int), gk + k = l.length ∧ s6 = .int .i64 k ∧ s5 = .slice A' out.length c' ∧ Hid (out = o6 ++ (l.take k).flatMap Rep.Bk.bytes) ∧ Hid (out.length ≤ 200 + 24 * k) ∧ Hid (Blk wr w.heap.size 47 #[.bool true, .int .u32 so, .int .u64 cl, .int .u32 ti, .int .u32 pa, .int .u32 oc, .slice Bl l.length cb]) ∧ Hid (Owns wr w.heap.size 5 1 A' out.length c' (u8s out)) ∧ Hid (Bel w wr))
      case atStart => exact ⟨0, An, cn, o6, rfl, rfl, rfl, Lib.hid (by simp), Lib.hid (by omega), HA, HO, HU⟩
      case round =>
        clear HO HU HA
        obtain ⟨k, A', c', out, hg, rfl, rfl, HEO, HLN, HA, HO, HU⟩ := hrel
        by_cases hlt : k < l.length
        · obtain ⟨a, ha⟩ : ∃ a, l[k]? = some a := ⟨_, List.getElem?_eq_getElem hlt⟩
          obtain ⟨⟨g00, g01⟩, ⟨g10, g11⟩, ⟨g20, g21⟩, ⟨g30, g31⟩, ⟨g40, g41⟩, ⟨g50, g51⟩, g60, g61⟩ := HBK.out a (List.mem_of_getElem? ha)
          obtain ⟨ft0, ft1⟩ := HFALL.out a (List.mem_of_getElem? ha)
          obtain ⟨bb, off, rfl, hbB, e0, e1, e2, e3, e4, e5, e6⟩ := rowsB (HB.out.keep (fun p hp => HU.out.cell hp)) ha
          have hi0 : (0 : Int) ≤ (k : Int) := by omega
          have hi1 : (k : Int) < (l.length : Int) := by omega
          have hst := flat_take' Rep.Bk.bytes l k a ha
          have HST := Lib.hid hst
          have hln := HLN.out
          have hlno : out.length ≤ 1000 := by omega
          obtain ⟨a0, a1, a2, a3, a4, a5, a6⟩ := a
          simp only at g00 g01 g10 g11 g20 g21 g30 g31 g40 g41 g50 g51 g60 g61 e0 e1 e2 e3 e4 e5 e6 ft0 ft1
          clear ha hst hln
          have c0 := HA.out.at 0 _ rfl
          have c1 := HA.out.at 1 _ rfl
          have c2 := HA.out.at 2 _ rfl
          have c3 := HA.out.at 3 _ rfl
          have c4 := HA.out.at 4 _ rfl
          have c5 := HA.out.at 5 _ rfl
          have c6 := HA.out.at 6 _ rfl
          go_wp2_with fail
          have HK := Lib.hid (Blk.new wr 27 #[.int .u32 a0, .int .u8 a1, .int .i64 a2, .int .u32 a3, .int .u32 a4, .int .u32 a5, .int .u32 a6])
          have HO' := Lib.hid (Owns.alloc HO.out (.cells #[.int .u32 a0, .int .u8 a1, .int .i64 a2, .int .u32 a3, .int .u32 a4, .int .u32 a5, .int .u32 a6] 27))
          have HU' := Lib.hid (Bel.push HU.out (.cells #[.int .u32 a0, .int .u8 a1, .int .i64 a2, .int .u32 a3, .int .u32 a4, .int .u32 a5, .int .u32 a6] 27))
          have HA' := Lib.hid (Blk.push HA.out (.cells #[.int .u32 a0, .int .u8 a1, .int .i64 a2, .int .u32 a3, .int .u32 a4, .int .u32 a5, .int .u32 a6] 27))
          obtain ⟨W0, hW0⟩ : ∃ W, W = wr.alloc (.cells #[.int .u32 a0, .int .u8 a1, .int .i64 a2, .int .u32 a3, .int .u32 a4, .int .u32 a5, .int .u32 a6] 27) := ⟨_, rfl⟩
          rw [← hW0] at HK HO' HU' HA' ⊢
          clear HO HU HA hW0 e0 e1 e2 e3 e4 e5 e6 c0 c1 c2 c3 c4 c5 c6
          have HO := HO'
          have HU := HU'
          have HA := HA'
          clear HO' HU' HA'
          refine (number_any _ (a0) 4 (by have := CL.out; omega) (by have := CL.out; omega) (by omega)).mono ?_
          rintro e w11 ⟨A11, cc11, rfl, hI, hb⟩
          have HO' := Lib.hid (HO.out.below hb)
          have HU' := Lib.hid (HU.out.later hb)
          clear HU HO
          have HO := HO'
          have HU := HU'
          clear HO' HU'
          have HA' := Lib.hid (HA.out.later hb)
          clear HA
          have HA := HA'
          clear HA'
          have HK' := Lib.hid (HK.out.later hb)
          clear HK
          have HK := HK'
          clear HK'
          have hbs := HU.out.size
          clear hb
          go_wp2_with (first
            | (at_builtin
               go_loud (refine wpList_append_ints rfl (.tmp 123) (.tmp 127) 40 rfl w.heap.size 5 1 (.int .u8 0) Try.underlying40 info_u8 rfl _ out.length _ (u8s out) rfl HO.out _ .u8 A11 cc11 (be 4 (a0)) (by rw [be_len]; rfl) hI.1 (by rw [be_len]; unfold maxLen; omega) (by rw [be_len]; omega) hbs (out.length + 4) (by rw [be_len]) ?_)
               intro An cn wn hown hgr hat
               have HU2 : Hid (Bel w wn) := Lib.hid (HU.out.grown hgr hbs (fun g e => (HO.out.block g e).1))
               have HO2 := Lib.hid (own_app hown)
               have HA2 := Lib.hid (HA.out.grown hgr (own_type HO.out HA.out (by decide)))
               have HK2 := Lib.hid (HK.out.grown hgr (own_type HO.out HK.out (by decide)))
               have c0 := HA2.out.at 0 _ rfl
               have c1 := HA2.out.at 1 _ rfl
               have c2 := HA2.out.at 2 _ rfl
               have c3 := HA2.out.at 3 _ rfl
               have c4 := HA2.out.at 4 _ rfl
               have c5 := HA2.out.at 5 _ rfl
               have c6 := HA2.out.at 6 _ rfl
               have f0 := HK2.out.at 0 _ rfl
               have f1 := HK2.out.at 1 _ rfl
               have f2 := HK2.out.at 2 _ rfl
               have f3 := HK2.out.at 3 _ rfl
               have f4 := HK2.out.at 4 _ rfl
               have f5 := HK2.out.at 5 _ rfl
               have f6 := HK2.out.at 6 _ rfl
               have hbs2 := HU2.out.size
               clear hgr hat)
            | (at_builtin
               go_loud (refine wpList_append_at rfl (.tmp 129) (.tmp 132) 40 rfl w.heap.size 5 1 1 (.int .u8 0) Try.underlying40 info_u8 rfl (by decide) An (out.length + 4) cn _ rfl hown [.int .u8 a1] rfl (by simp [Value.oneCell']) rfl (by unfold maxLen; omega) (by omega) hbs2 ?_)
               intro Am cm wm hown2 hgr2 hat2
               have HU3 : Hid (Bel w wm) := Lib.hid (HU2.out.grown hgr2 hbs2 (fun g e => (HO2.out.block g e).1))
               have HO3 := Lib.hid (own_one hown2 g10 g11)
               have HA3 := Lib.hid (HA2.out.grown hgr2 (own_type HO2.out HA2.out (by decide)))
               have HK3 := Lib.hid (HK2.out.grown hgr2 (own_type HO2.out HK2.out (by decide)))
               have f2 := HK3.out.at 2 _ rfl
               clear hown2 hgr2 hat2))
          clear HO HU hI hbs HA HK hown HO2 HU2 HA2 HK2 hbs2 c0 c1 c2 c3 c4 c5 c6 f0 f1 f2 f3 f4 f5 f6
          have HO := HO3
          have HU := HU3
          have HA := HA3
          have HK := HK3
          clear HO3 HU3 HA3 HK3
          generalize hO12 : (out ++ be 4 a0 ++ be 1 a1) = o12 at *
          have hlen12 : o12.length ≤ out.length + 5 := by rw [← hO12, List.length_append, List.length_append, be_len, be_len]; omega
          have hq12 : out.length + 4 + 1 = o12.length := by rw [← hO12, List.length_append, List.length_append, be_len, be_len]
          rw [hq12]
          have HE12 := Lib.hid hO12
          clear hO12 hq12
          refine (number_any _ (a2 + 16777216) 3 (by have := CL.out; omega) (by have := CL.out; omega) (by omega)).mono ?_
          rintro e w13 ⟨A13, cc13, rfl, hI, hb⟩
          have HO' := Lib.hid (HO.out.below hb)
          have HU' := Lib.hid (HU.out.later hb)
          clear HU HO
          have HO := HO'
          have HU := HU'
          clear HO' HU'
          have HA' := Lib.hid (HA.out.later hb)
          clear HA
          have HA := HA'
          clear HA'
          have HK' := Lib.hid (HK.out.later hb)
          clear HK
          have HK := HK'
          clear HK'
          have hbs := HU.out.size
          clear hb
          go_wp2_with (at_builtin
                       go_loud (refine wpList_append_ints rfl (.tmp 134) (.tmp 139) 40 rfl w.heap.size 5 1 (.int .u8 0) Try.underlying40 info_u8 rfl _ o12.length _ (u8s o12) rfl HO.out _ .u8 A13 cc13 (be 3 (a2 + 16777216)) (by rw [be_len]; rfl) hI.1 (by rw [be_len]; unfold maxLen; omega) (by rw [be_len]; omega) hbs (o12.length + 3) (by rw [be_len]) ?_)
                       intro An cn wn hown hgr hat
                       have HU2 : Hid (Bel w wn) := Lib.hid (HU.out.grown hgr hbs (fun g e => (HO.out.block g e).1))
                       have HO2 := Lib.hid (own_app hown)
                       have HA2 := Lib.hid (HA.out.grown hgr (own_type HO.out HA.out (by decide)))
                       have HK2 := Lib.hid (HK.out.grown hgr (own_type HO.out HK.out (by decide)))
                       have c0 := HA2.out.at 0 _ rfl
                       have c1 := HA2.out.at 1 _ rfl
                       have c2 := HA2.out.at 2 _ rfl
                       have c3 := HA2.out.at 3 _ rfl
                       have c4 := HA2.out.at 4 _ rfl
                       have c5 := HA2.out.at 5 _ rfl
                       have c6 := HA2.out.at 6 _ rfl
                       have f0 := HK2.out.at 0 _ rfl
                       have f1 := HK2.out.at 1 _ rfl
                       have f2 := HK2.out.at 2 _ rfl
                       have f3 := HK2.out.at 3 _ rfl
                       have f4 := HK2.out.at 4 _ rfl
                       have f5 := HK2.out.at 5 _ rfl
                       have f6 := HK2.out.at 6 _ rfl
                       clear hown hgr hat)
          clear HO HU hI hbs HA HK
          have HO := HO2
          have HU := HU2
          clear HO2 HU2
          have HA := HA2
          clear HA2
          have HK := HK2
          clear HK2
          generalize hO13 : (o12 ++ be 3 (a2 + 16777216)) = o13 at *
          have hlen13 : o13.length ≤ o12.length + 3 := by rw [← hO13, List.length_append, be_len]; omega
          have hq13 : o12.length + 3 = o13.length := by rw [← hO13, List.length_append, be_len]
          rw [hq13]
          have HE13 := Lib.hid hO13
          clear hO13 hq13 c0 c1 c2 c3 c4 c5 c6 f0 f1 f2 f3 f4 f5 f6
          refine (number_any _ (a3) 4 (by have := CL.out; omega) (by have := CL.out; omega) (by omega)).mono ?_
          rintro e w14 ⟨A14, cc14, rfl, hI, hb⟩
          have HO' := Lib.hid (HO.out.below hb)
          have HU' := Lib.hid (HU.out.later hb)
          clear HU HO
          have HO := HO'
          have HU := HU'
          clear HO' HU'
          have HA' := Lib.hid (HA.out.later hb)
          clear HA
          have HA := HA'
          clear HA'
          have HK' := Lib.hid (HK.out.later hb)
          clear HK
          have HK := HK'
          clear HK'
          have hbs := HU.out.size
          clear hb
          go_wp2_with (at_builtin
                       go_loud (refine wpList_append_ints rfl (.tmp 141) (.tmp 145) 40 rfl w.heap.size 5 1 (.int .u8 0) Try.underlying40 info_u8 rfl _ o13.length _ (u8s o13) rfl HO.out _ .u8 A14 cc14 (be 4 (a3)) (by rw [be_len]; rfl) hI.1 (by rw [be_len]; unfold maxLen; omega) (by rw [be_len]; omega) hbs (o13.length + 4) (by rw [be_len]) ?_)
                       intro An cn wn hown hgr hat
                       have HU2 : Hid (Bel w wn) := Lib.hid (HU.out.grown hgr hbs (fun g e => (HO.out.block g e).1))
                       have HO2 := Lib.hid (own_app hown)
                       have HA2 := Lib.hid (HA.out.grown hgr (own_type HO.out HA.out (by decide)))
                       have HK2 := Lib.hid (HK.out.grown hgr (own_type HO.out HK.out (by decide)))
                       have c0 := HA2.out.at 0 _ rfl
                       have c1 := HA2.out.at 1 _ rfl
                       have c2 := HA2.out.at 2 _ rfl
                       have c3 := HA2.out.at 3 _ rfl
                       have c4 := HA2.out.at 4 _ rfl
                       have c5 := HA2.out.at 5 _ rfl
                       have c6 := HA2.out.at 6 _ rfl
                       have f0 := HK2.out.at 0 _ rfl
                       have f1 := HK2.out.at 1 _ rfl
                       have f2 := HK2.out.at 2 _ rfl
                       have f3 := HK2.out.at 3 _ rfl
                       have f4 := HK2.out.at 4 _ rfl
                       have f5 := HK2.out.at 5 _ rfl
                       have f6 := HK2.out.at 6 _ rfl
                       clear hown hgr hat)
          clear HO HU hI hbs HA HK
          have HO := HO2
          have HU := HU2
          clear HO2 HU2
          have HA := HA2
          clear HA2
          have HK := HK2
          clear HK2
          generalize hO14 : (o13 ++ be 4 (a3)) = o14 at *
          have hlen14 : o14.length ≤ o13.length + 4 := by rw [← hO14, List.length_append, be_len]; omega
          have hq14 : o13.length + 4 = o14.length := by rw [← hO14, List.length_append, be_len]
          rw [hq14]
          have HE14 := Lib.hid hO14
          clear hO14 hq14 c0 c1 c2 c3 c4 c5 c6 f0 f1 f2 f3 f4 f5 f6
          refine (number_any _ (a4) 4 (by have := CL.out; omega) (by have := CL.out; omega) (by omega)).mono ?_
          rintro e w15 ⟨A15, cc15, rfl, hI, hb⟩
          have HO' := Lib.hid (HO.out.below hb)
          have HU' := Lib.hid (HU.out.later hb)
          clear HU HO
          have HO := HO'
          have HU := HU'
          clear HO' HU'
          have HA' := Lib.hid (HA.out.later hb)
          clear HA
          have HA := HA'
          clear HA'
          have HK' := Lib.hid (HK.out.later hb)
          clear HK
          have HK := HK'
          clear HK'
          have hbs := HU.out.size
          clear hb
          go_wp2_with (at_builtin
                       go_loud (refine wpList_append_ints rfl (.tmp 147) (.tmp 151) 40 rfl w.heap.size 5 1 (.int .u8 0) Try.underlying40 info_u8 rfl _ o14.length _ (u8s o14) rfl HO.out _ .u8 A15 cc15 (be 4 (a4)) (by rw [be_len]; rfl) hI.1 (by rw [be_len]; unfold maxLen; omega) (by rw [be_len]; omega) hbs (o14.length + 4) (by rw [be_len]) ?_)
                       intro An cn wn hown hgr hat
                       have HU2 : Hid (Bel w wn) := Lib.hid (HU.out.grown hgr hbs (fun g e => (HO.out.block g e).1))
                       have HO2 := Lib.hid (own_app hown)
                       have HA2 := Lib.hid (HA.out.grown hgr (own_type HO.out HA.out (by decide)))
                       have HK2 := Lib.hid (HK.out.grown hgr (own_type HO.out HK.out (by decide)))
                       have c0 := HA2.out.at 0 _ rfl
                       have c1 := HA2.out.at 1 _ rfl
                       have c2 := HA2.out.at 2 _ rfl
                       have c3 := HA2.out.at 3 _ rfl
                       have c4 := HA2.out.at 4 _ rfl
                       have c5 := HA2.out.at 5 _ rfl
                       have c6 := HA2.out.at 6 _ rfl
                       have f0 := HK2.out.at 0 _ rfl
                       have f1 := HK2.out.at 1 _ rfl
                       have f2 := HK2.out.at 2 _ rfl
                       have f3 := HK2.out.at 3 _ rfl
                       have f4 := HK2.out.at 4 _ rfl
                       have f5 := HK2.out.at 5 _ rfl
                       have f6 := HK2.out.at 6 _ rfl
                       clear hown hgr hat)
          clear HO HU hI hbs HA HK
          have HO := HO2
          have HU := HU2
          clear HO2 HU2
          have HA := HA2
          clear HA2
          have HK := HK2
          clear HK2
          generalize hO15 : (o14 ++ be 4 (a4)) = o15 at *
          have hlen15 : o15.length ≤ o14.length + 4 := by rw [← hO15, List.length_append, be_len]; omega
          have hq15 : o14.length + 4 = o15.length := by rw [← hO15, List.length_append, be_len]
          rw [hq15]
          have HE15 := Lib.hid hO15
          clear hO15 hq15 c0 c1 c2 c3 c4 c5 c6 f0 f1 f2 f3 f4 f5 f6
          refine (number_any _ (a5) 4 (by have := CL.out; omega) (by have := CL.out; omega) (by omega)).mono ?_
          rintro e w16 ⟨A16, cc16, rfl, hI, hb⟩
          have HO' := Lib.hid (HO.out.below hb)
          have HU' := Lib.hid (HU.out.later hb)
          clear HU HO
          have HO := HO'
          have HU := HU'
          clear HO' HU'
          have HA' := Lib.hid (HA.out.later hb)
          clear HA
          have HA := HA'
          clear HA'
          have HK' := Lib.hid (HK.out.later hb)
          clear HK
          have HK := HK'
          clear HK'
          have hbs := HU.out.size
          clear hb
          go_wp2_with (at_builtin
                       go_loud (refine wpList_append_ints rfl (.tmp 153) (.tmp 157) 40 rfl w.heap.size 5 1 (.int .u8 0) Try.underlying40 info_u8 rfl _ o15.length _ (u8s o15) rfl HO.out _ .u8 A16 cc16 (be 4 (a5)) (by rw [be_len]; rfl) hI.1 (by rw [be_len]; unfold maxLen; omega) (by rw [be_len]; omega) hbs (o15.length + 4) (by rw [be_len]) ?_)
                       intro An cn wn hown hgr hat
                       have HU2 : Hid (Bel w wn) := Lib.hid (HU.out.grown hgr hbs (fun g e => (HO.out.block g e).1))
                       have HO2 := Lib.hid (own_app hown)
                       have HA2 := Lib.hid (HA.out.grown hgr (own_type HO.out HA.out (by decide)))
                       have HK2 := Lib.hid (HK.out.grown hgr (own_type HO.out HK.out (by decide)))
                       have c0 := HA2.out.at 0 _ rfl
                       have c1 := HA2.out.at 1 _ rfl
                       have c2 := HA2.out.at 2 _ rfl
                       have c3 := HA2.out.at 3 _ rfl
                       have c4 := HA2.out.at 4 _ rfl
                       have c5 := HA2.out.at 5 _ rfl
                       have c6 := HA2.out.at 6 _ rfl
                       have f0 := HK2.out.at 0 _ rfl
                       have f1 := HK2.out.at 1 _ rfl
                       have f2 := HK2.out.at 2 _ rfl
                       have f3 := HK2.out.at 3 _ rfl
                       have f4 := HK2.out.at 4 _ rfl
                       have f5 := HK2.out.at 5 _ rfl
                       have f6 := HK2.out.at 6 _ rfl
                       clear hown hgr hat)
          clear HO HU hI hbs HA HK
          have HO := HO2
          have HU := HU2
          clear HO2 HU2
          have HA := HA2
          clear HA2
          have HK := HK2
          clear HK2
          generalize hO16 : (o15 ++ be 4 (a5)) = o16 at *
          have hlen16 : o16.length ≤ o15.length + 4 := by rw [← hO16, List.length_append, be_len]; omega
          have hq16 : o15.length + 4 = o16.length := by rw [← hO16, List.length_append, be_len]
          rw [hq16]
          have HE16 := Lib.hid hO16
          clear hO16 hq16 c0 c1 c2 c3 c4 c5 c6 f0 f1 f2 f3 f4 f5 f6
          refine (number_any _ (a6) 4 (by have := CL.out; omega) (by have := CL.out; omega) (by omega)).mono ?_
          rintro e w17 ⟨A17, cc17, rfl, hI, hb⟩
          have HO' := Lib.hid (HO.out.below hb)
          have HU' := Lib.hid (HU.out.later hb)
          clear HU HO
          have HO := HO'
          have HU := HU'
          clear HO' HU'
          have HA' := Lib.hid (HA.out.later hb)
          clear HA
          have HA := HA'
          clear HA'
          have HK' := Lib.hid (HK.out.later hb)
          clear HK
          have HK := HK'
          clear HK'
          have hbs := HU.out.size
          clear hb
          go_wp2_with (at_builtin
                       go_loud (refine wpList_append_ints rfl (.tmp 159) (.tmp 163) 40 rfl w.heap.size 5 1 (.int .u8 0) Try.underlying40 info_u8 rfl _ o16.length _ (u8s o16) rfl HO.out _ .u8 A17 cc17 (be 4 (a6)) (by rw [be_len]; rfl) hI.1 (by rw [be_len]; unfold maxLen; omega) (by rw [be_len]; omega) hbs (o16.length + 4) (by rw [be_len]) ?_)
                       intro An cn wn hown hgr hat
                       have HU2 : Hid (Bel w wn) := Lib.hid (HU.out.grown hgr hbs (fun g e => (HO.out.block g e).1))
                       have HO2 := Lib.hid (own_app hown)
                       have HA2 := Lib.hid (HA.out.grown hgr (own_type HO.out HA.out (by decide)))
                       have HK2 := Lib.hid (HK.out.grown hgr (own_type HO.out HK.out (by decide)))
                       have c0 := HA2.out.at 0 _ rfl
                       have c1 := HA2.out.at 1 _ rfl
                       have c2 := HA2.out.at 2 _ rfl
                       have c3 := HA2.out.at 3 _ rfl
                       have c4 := HA2.out.at 4 _ rfl
                       have c5 := HA2.out.at 5 _ rfl
                       have c6 := HA2.out.at 6 _ rfl
                       have f0 := HK2.out.at 0 _ rfl
                       have f1 := HK2.out.at 1 _ rfl
                       have f2 := HK2.out.at 2 _ rfl
                       have f3 := HK2.out.at 3 _ rfl
                       have f4 := HK2.out.at 4 _ rfl
                       have f5 := HK2.out.at 5 _ rfl
                       have f6 := HK2.out.at 6 _ rfl
                       clear hown hgr hat)
          clear HO HU hI hbs HA HK
          have HO := HO2
          have HU := HU2
          clear HO2 HU2
          have HA := HA2
          clear HA2
          have HK := HK2
          clear HK2
          generalize hO17 : (o16 ++ be 4 (a6)) = o17 at *
          have hlen17 : o17.length ≤ o16.length + 4 := by rw [← hO17, List.length_append, be_len]; omega
          have hq17 : o16.length + 4 = o17.length := by rw [← hO17, List.length_append, be_len]
          rw [hq17]
          have HE17 := Lib.hid hO17
          clear hO17 hq17 c0 c1 c2 c3 c4 c5 c6 f0 f1 f2 f3 f4 f5 f6
          go_roundg (gk - 1)
          case measure => omega
          case rel =>
            refine ⟨k + 1, An, cn, o17, by omega, by go_num, rfl, Lib.hid ?_, Lib.hid ?_, HA, HO, HU⟩
            · have hb3 : be 3 (a2 + 16777216) = be 3 a2 := by have := be_add 3 a2 1; simpa using this
              rw [← HE17.out, ← HE16.out, ← HE15.out, ← HE14.out, ← HE13.out, ← HE12.out, HEO.out, HST.out, hb3]
              simp [Rep.Bk.bytes, List.append_assoc]
            · have := HLN.out
              omega
        · obtain rfl : k = l.length := by omega
          have hi1 : (l.length : Int) ≤ (l.length : Int) := Int.le_refl _
          have he : out = (⟨true, so, cl, ti, pa, oc, l⟩ : Rep.Rpt).bytes := by rw [HEO.out, HFR.out, List.take_length]; rfl
          have HE := Lib.hid he
          clear he
          have c0 := HA.out.at 0 _ rfl
          have c1 := HA.out.at 1 _ rfl
          have c2 := HA.out.at 2 _ rfl
          have c3 := HA.out.at 3 _ rfl
          have c4 := HA.out.at 4 _ rfl
          have c5 := HA.out.at 5 _ rfl
          have c6 := HA.out.at 6 _ rfl
          go_wp2_with fail
          go_ret2
          refine ⟨A', c', by rw [← HE.out]; rfl, ?_, HU.out⟩
          rw [← HE.out]
          exact IntsNew.of_own HO.out (Nat.le_refl _)
set_option maxRecDepth 100000 in
set_option maxHeartbeats 6400000 in
theorem rEnc_false (hl : l.length ≤ 31) (hR : Rep.Rpt.ok ⟨false, so, cl, ti, pa, oc, l⟩) (hB : RowsAt w w.heap.size 7 Rep.Bk.cells Bl l) : Calls Try.prog 20 #[.agg #[.bool false, .int .u32 so, .int .u64 cl, .int .u32 ti, .int .u32 pa, .int .u32 oc, .slice Bl l.length cb]] w (EncR (Rep.enc ⟨false, so, cl, ti, pa, oc, l⟩) w) := by
  obtain ⟨⟨so0, so1⟩, ⟨cl0, cl1⟩, ⟨ti0, ti1⟩, ⟨pa0, pa1⟩, ⟨oc0, oc1⟩, hbk⟩ := hR
  simp only at so0 so1 cl0 cl1 ti0 ti1 pa0 pa1 oc0 oc1 hbk
  have h31 : ¬31 < (⟨false, so, cl, ti, pa, oc, l⟩ : Rep.Rpt).blocks.length := by simp only; omega
  have HR3 : Hid (∀ b ∈ l, ¬b.fit → Rep.enc ⟨false, so, cl, ti, pa, oc, l⟩ = ([], 3)) := Lib.hid (fun b hb hf => by unfold Rep.enc; rw [if_neg h31, if_pos (fun h => hf (h b hb))])
  have HR0 : Hid ((∀ b ∈ l, b.fit) → Rep.enc ⟨false, so, cl, ti, pa, oc, l⟩ = if (false = false ∧ ¬(⟨false, so, cl, ti, pa, oc, l⟩ : Rep.Rpt).plain) then ([], 2) else ((⟨false, so, cl, ti, pa, oc, l⟩ : Rep.Rpt).bytes, 0)) := Lib.hid (fun h => by unfold Rep.enc; rw [if_neg h31, if_neg (fun hn => hn h)])
  generalize Rep.enc ⟨false, so, cl, ti, pa, oc, l⟩ = R at *
  have HBK := Lib.hid hbk
  have HB := Lib.hid hB
  have CL := Lib.hid (And.intro cl0 cl1)
  have hl' : (l.length : Int) ≤ 31 := by omega
  clear hbk hB h31 cl1
  go_enter Try.func20, Try.ntmps20
  have U := Lib.hid ((Bel.refl w).push (.cells #[.bool false, .int .u32 so, .int .u64 cl, .int .u32 ti, .int .u32 pa, .int .u32 oc, .slice Bl l.length cb] 47))
  have B := Lib.hid (Blk.new w 47 #[.bool false, .int .u32 so, .int .u64 cl, .int .u32 ti, .int .u32 pa, .int .u32 oc, .slice Bl l.length cb])
  go_wp2_with fail
  obtain ⟨W, hW⟩ : ∃ W, W = w.alloc (.cells #[.bool false, .int .u32 so, .int .u64 cl, .int .u32 ti, .int .u32 pa, .int .u32 oc, .slice Bl l.length cb] 47) := ⟨_, rfl⟩
  rw [← hW] at U B ⊢
  clear hW
  go_loopg [4] l.length (fun gk s4 wr => ∃ k : Nat, gk + k = l.length ∧ s4 = .int .i64 k ∧ Hid (∀ b ∈ l.take k, b.fit) ∧ Hid (wr = W))
  case atStart => exact ⟨0, rfl, rfl, Lib.hid (fun b hb => by simp at hb), Lib.hid rfl⟩
  case round =>
    obtain ⟨k, hg, rfl, HF, HWW⟩ := hrel
    obtain rfl : wr = W := HWW.out
    clear HWW
    by_cases hlt : k < l.length
    · obtain ⟨a, ha⟩ : ∃ a, l[k]? = some a := ⟨_, List.getElem?_eq_getElem hlt⟩
      obtain ⟨bb, off, rfl, hbB, e0, e1, e2, e3, e4, e5, e6⟩ := rowsB (HB.out.keep (fun p hp => U.out.cell hp)) ha
      clear e0 e1 e3 e4 e5 e6
      have hi0 : (0 : Int) ≤ (k : Int) := by omega
      have hi1 : (k : Int) < (l.length : Int) := by omega
      have c0 := B.out.at 0 _ rfl
      have c1 := B.out.at 1 _ rfl
      have c2 := B.out.at 2 _ rfl
      have c3 := B.out.at 3 _ rfl
      have c4 := B.out.at 4 _ rfl
      have c5 := B.out.at 5 _ rfl
      have c6 := B.out.at 6 _ rfl
      by_cases hf : a.fit
      · have hf2 := hf
        obtain ⟨f0, f1⟩ := hf2
        have HFA := Lib.hid hf
        have HAA := Lib.hid ha
        clear hf ha
        have t1 : decide (a.lost < -8388608) = false := by simp; omega
        have t2 : decide (8388607 < a.lost) = false := by simp; omega
        go_wp2_with fail
        go_roundg (gk - 1)
        case measure => omega
        case rel =>
          refine ⟨k + 1, by omega, by go_num, Lib.hid (fun b hb => ?_), Lib.hid rfl⟩
          rw [List.take_succ_eq_append_getElem hlt] at hb
          rcases List.mem_append.1 hb with hb | hb
          · exact HF.out b hb
          · rw [List.mem_singleton.1 hb, (List.getElem?_eq_some_iff.1 HAA.out).2]
            exact HFA.out
      · have hR3 := HR3.out a (List.mem_of_getElem? ha) hf
        subst hR3
        by_cases hlo : a.lost < -8388608
        · have t1 : decide (a.lost < -8388608) = true := by simpa using hlo
          clear hf ha hlo
          go_wp2_with fail
          go_ret2
          exact ⟨none, 0, rfl, IntsNew.nil, U.out⟩
        · have t1 : decide (a.lost < -8388608) = false := by simpa using hlo
          have t2 : decide (8388607 < a.lost) = true := by
            have : ¬(-8388608 ≤ a.lost ∧ a.lost ≤ 8388607) := hf
            simp; omega
          clear hf ha hlo
          go_wp2_with fail
          go_ret2
          exact ⟨none, 0, rfl, IntsNew.nil, U.out⟩
    · obtain rfl : k = l.length := by omega
      have hi1 : (l.length : Int) ≤ (l.length : Int) := Int.le_refl _
      have hfall : ∀ b ∈ l, b.fit := by have := HF.out; rwa [List.take_length] at this
      have HFALL := Lib.hid hfall
      have hR0 := HR0.out hfall
      clear hfall
      by_cases hp : (⟨false, so, cl, ti, pa, oc, l⟩ : Rep.Rpt).plain
      rotate_left
      · rw [if_pos (And.intro (by first | trivial | rfl) hp)] at hR0
        subst hR0
        have hp' : ¬(cl = 0 ∧ ti = 0 ∧ pa = 0 ∧ oc = 0) := hp
        clear hp
        by_cases z0 : cl = 0
        rotate_left
        · have y0 : (cl != 0) = true := by rw [bne_iff_ne]; exact z0
          clear z0 hp'
          have c0 := B.out.at 0 _ rfl
          have c1 := B.out.at 1 _ rfl
          have c2 := B.out.at 2 _ rfl
          have c3 := B.out.at 3 _ rfl
          have c4 := B.out.at 4 _ rfl
          have c5 := B.out.at 5 _ rfl
          have c6 := B.out.at 6 _ rfl
          go_wp2_with fail
          go_ret2
          exact ⟨none, 0, rfl, IntsNew.nil, U.out⟩
        subst z0
        by_cases z1 : ti = 0
        rotate_left
        · have y1 : (ti != 0) = true := by rw [bne_iff_ne]; exact z1
          clear z1 hp'
          have c0 := B.out.at 0 _ rfl
          have c1 := B.out.at 1 _ rfl
          have c2 := B.out.at 2 _ rfl
          have c3 := B.out.at 3 _ rfl
          have c4 := B.out.at 4 _ rfl
          have c5 := B.out.at 5 _ rfl
          have c6 := B.out.at 6 _ rfl
          go_wp2_with fail
          go_ret2
          exact ⟨none, 0, rfl, IntsNew.nil, U.out⟩
        subst z1
        by_cases z2 : pa = 0
        rotate_left
        · have y2 : (pa != 0) = true := by rw [bne_iff_ne]; exact z2
          clear z2 hp'
          have c0 := B.out.at 0 _ rfl
          have c1 := B.out.at 1 _ rfl
          have c2 := B.out.at 2 _ rfl
          have c3 := B.out.at 3 _ rfl
          have c4 := B.out.at 4 _ rfl
          have c5 := B.out.at 5 _ rfl
          have c6 := B.out.at 6 _ rfl
          go_wp2_with fail
          go_ret2
          exact ⟨none, 0, rfl, IntsNew.nil, U.out⟩
        subst z2
        by_cases z3 : oc = 0
        rotate_left
        · have y3 : (oc != 0) = true := by rw [bne_iff_ne]; exact z3
          clear z3 hp'
          have c0 := B.out.at 0 _ rfl
          have c1 := B.out.at 1 _ rfl
          have c2 := B.out.at 2 _ rfl
          have c3 := B.out.at 3 _ rfl
          have c4 := B.out.at 4 _ rfl
          have c5 := B.out.at 5 _ rfl
          have c6 := B.out.at 6 _ rfl
          go_wp2_with fail
          go_ret2
          exact ⟨none, 0, rfl, IntsNew.nil, U.out⟩
        subst z3
        exact absurd ⟨rfl, rfl, rfl, rfl⟩ hp'
      rw [if_neg (fun h => h.2 hp)] at hR0
      obtain ⟨h1, h2, h3, h4⟩ : cl = 0 ∧ ti = 0 ∧ pa = 0 ∧ oc = 0 := hp
      subst h1 h2 h3 h4 hR0
      have c0 := B.out.at 0 _ rfl
      have c1 := B.out.at 1 _ rfl
      have c2 := B.out.at 2 _ rfl
      have c3 := B.out.at 3 _ rfl
      have c4 := B.out.at 4 _ rfl
      have c5 := B.out.at 5 _ rfl
      have c6 := B.out.at 6 _ rfl
      have lt0 := B.out.lt
      have ks := Lib.hid fun W => rSize_any false l.length W (by omega)
      have hsz : Rep.sizeR false l.length = 8 + (l.length : Int) * 24 + 0 := by simp [Rep.sizeR]
      rw [hsz] at ks
      clear hsz
      go_wp2_with fail
      refine (ks.out _).mono ?_
      rintro e w1 ⟨rfl, rfl⟩
      go_wp2_with fail
      have HO := Lib.hid (show Owns (wr.alloc (.cells #[.int .u8 (128 + (l.length : Int)), .int .u8 201] 5)) w.heap.size 5 1 (some ⟨wr.heap.size, 0, none⟩) [128 + (l.length : Int), 201].length 2 (u8s [128 + (l.length : Int), 201]) from Owns.lit wr w.heap.size 5 (u8s [128 + (l.length : Int), 201]) 2 U.out.size (by unfold maxLen; omega) rfl)
      have HU := Lib.hid (Bel.push U.out (.cells #[.int .u8 (128 + (l.length : Int)), .int .u8 201] 5))
      have HA := Lib.hid (Blk.push B.out (.cells #[.int .u8 (128 + (l.length : Int)), .int .u8 201] 5))
      obtain ⟨W0, hW0⟩ : ∃ W, W = wr.alloc (.cells #[.int .u8 (128 + (l.length : Int)), .int .u8 201] 5) := ⟨_, rfl⟩
      rw [← hW0] at HO HU HA ⊢
      obtain ⟨o0, ho0⟩ : ∃ o : List Int, o = [128 + (l.length : Int), 201] := ⟨_, rfl⟩
      have hlen0 : o0.length ≤ 60 := by rw [ho0]; simp
      rw [← ho0] at HO
      have hl0 : 2 = o0.length := by rw [ho0]; rfl
      have HE0 := Lib.hid ho0
      clear hW0 U B ho0 lt0 c0 c1 c2 c3 c4 c5 c6
      refine (number_any _ ((8 + (l.length : Int) * 24) / 4 - 1) 2 (by have := CL.out; omega) (by have := CL.out; omega) (by omega)).mono ?_
      rintro e w1 ⟨A1, cc1, rfl, hI, hb⟩
      have HO' := Lib.hid (HO.out.below hb)
      have HU' := Lib.hid (HU.out.later hb)
      clear HU HO
      have HO := HO'
      have HU := HU'
      clear HO' HU'
      have HA' := Lib.hid (HA.out.later hb)
      clear HA
      have HA := HA'
      clear HA'
      have hbs := HU.out.size
      clear hb
      rw [show Value.slice (some ⟨wr.heap.size, 0, none⟩) 2 2 = Value.slice (some ⟨wr.heap.size, 0, none⟩) o0.length 2 by rw [← hl0]]
      clear hl0
      go_wp2_with (at_builtin
                   go_loud (refine wpList_append_ints rfl (.tmp 68) (.tmp 78) 40 rfl w.heap.size 5 1 (.int .u8 0) Try.underlying40 info_u8 rfl _ o0.length _ (u8s o0) rfl HO.out _ .u8 A1 cc1 (be 2 ((8 + (l.length : Int) * 24) / 4 - 1)) (by rw [be_len]; rfl) hI.1 (by rw [be_len]; unfold maxLen; omega) (by rw [be_len]; omega) hbs (o0.length + 2) (by rw [be_len]) ?_)
                   intro An cn wn hown hgr hat
                   have HU2 : Hid (Bel w wn) := Lib.hid (HU.out.grown hgr hbs (fun g e => (HO.out.block g e).1))
                   have HO2 := Lib.hid (own_app hown)
                   have HA2 := Lib.hid (HA.out.grown hgr (own_type HO.out HA.out (by decide)))
                   have c0 := HA2.out.at 0 _ rfl
                   have c1 := HA2.out.at 1 _ rfl
                   have c2 := HA2.out.at 2 _ rfl
                   have c3 := HA2.out.at 3 _ rfl
                   have c4 := HA2.out.at 4 _ rfl
                   have c5 := HA2.out.at 5 _ rfl
                   have c6 := HA2.out.at 6 _ rfl
                   clear hown hgr hat)
      clear HO HU hI hbs HA
      have HO := HO2
      have HU := HU2
      clear HO2 HU2
      have HA := HA2
      clear HA2
      generalize hO1 : (o0 ++ be 2 ((8 + (l.length : Int) * 24) / 4 - 1)) = o1 at *
      have hlen1 : o1.length ≤ o0.length + 2 := by rw [← hO1, List.length_append, be_len]; omega
      have hq1 : o0.length + 2 = o1.length := by rw [← hO1, List.length_append, be_len]
      rw [hq1]
      have HE1 := Lib.hid hO1
      clear hO1 hq1 c0 c1 c2 c3 c4 c5 c6
      refine (number_any _ (so) 4 (by have := CL.out; omega) (by have := CL.out; omega) (by omega)).mono ?_
      rintro e w2 ⟨A2, cc2, rfl, hI, hb⟩
      have HO' := Lib.hid (HO.out.below hb)
      have HU' := Lib.hid (HU.out.later hb)
      clear HU HO
      have HO := HO'
      have HU := HU'
      clear HO' HU'
      have HA' := Lib.hid (HA.out.later hb)
      clear HA
      have HA := HA'
      clear HA'
      have hbs := HU.out.size
      clear hb
      go_wp2_with (at_builtin
                   go_loud (refine wpList_append_ints rfl (.tmp 80) (.tmp 84) 40 rfl w.heap.size 5 1 (.int .u8 0) Try.underlying40 info_u8 rfl _ o1.length _ (u8s o1) rfl HO.out _ .u8 A2 cc2 (be 4 (so)) (by rw [be_len]; rfl) hI.1 (by rw [be_len]; unfold maxLen; omega) (by rw [be_len]; omega) hbs (o1.length + 4) (by rw [be_len]) ?_)
                   intro An cn wn hown hgr hat
                   have HU2 : Hid (Bel w wn) := Lib.hid (HU.out.grown hgr hbs (fun g e => (HO.out.block g e).1))
                   have HO2 := Lib.hid (own_app hown)
                   have HA2 := Lib.hid (HA.out.grown hgr (own_type HO.out HA.out (by decide)))
                   have c0 := HA2.out.at 0 _ rfl
                   have c1 := HA2.out.at 1 _ rfl
                   have c2 := HA2.out.at 2 _ rfl
                   have c3 := HA2.out.at 3 _ rfl
                   have c4 := HA2.out.at 4 _ rfl
                   have c5 := HA2.out.at 5 _ rfl
                   have c6 := HA2.out.at 6 _ rfl
                   clear hown hgr hat)
      clear HO HU hI hbs HA
      have HO := HO2
      have HU := HU2
      clear HO2 HU2
      have HA := HA2
      clear HA2
      generalize hO2 : (o1 ++ be 4 (so)) = o2 at *
      have hlen2 : o2.length ≤ o1.length + 4 := by rw [← hO2, List.length_append, be_len]; omega
      have hq2 : o1.length + 4 = o2.length := by rw [← hO2, List.length_append, be_len]
      rw [hq2]
      have HE2 := Lib.hid hO2
      clear hO2 hq2 c0 c1 c2 c3 c4 c5 c6
      have hlenL : o2.length ≤ 200 := by omega
      have HFR : Hid (o2 = (⟨false, so, 0, 0, 0, 0, l⟩ : Rep.Rpt).front) := Lib.hid (by
        unfold Rep.Rpt.front
        rw [← HE2.out, ← HE1.out, HE0.out]
        simp [Rep.sizeR])
      clear HE0 HE1 HE2
      have hlc : l.length ≤ 31 := hl
      go_loopg [5, 6] l.length (fun gk s5 s6 wr => ∃ (k : Nat) (A' : Option Addr) (c' : Nat) (out : List Int), gk + k = l.length ∧ s6 = .int .i64 k ∧ s5 = .slice A' out.length c' ∧ Hid (out = o2 ++ (l.take k).flatMap Rep.Bk.bytes) ∧ Hid (out.length ≤ 200 + 24 * k) ∧ Hid (Blk wr w.heap.size 47 #[.bool false, .int .u32 so, .int .u64 0, .int .u32 0, .int .u32 0, .int .u32 0, .slice Bl l.length cb]) ∧ Hid (Owns wr w.heap.size 5 1 A' out.length c' (u8s out)) ∧ Hid (Bel w wr))
      case atStart => exact ⟨0, An, cn, o2, rfl, rfl, rfl, Lib.hid (by simp), Lib.hid (by omega), HA, HO, HU⟩
      case round =>
        clear HO HU HA
        obtain ⟨k, A', c', out, hg, rfl, rfl, HEO, HLN, HA, HO, HU⟩ := hrel
        by_cases hlt : k < l.length
        · obtain ⟨a, ha⟩ : ∃ a, l[k]? = some a := ⟨_, List.getElem?_eq_getElem hlt⟩
          obtain ⟨⟨g00, g01⟩, ⟨g10, g11⟩, ⟨g20, g21⟩, ⟨g30, g31⟩, ⟨g40, g41⟩, ⟨g50, g51⟩, g60, g61⟩ := HBK.out a (List.mem_of_getElem? ha)
          obtain ⟨ft0, ft1⟩ := HFALL.out a (List.mem_of_getElem? ha)
          obtain ⟨bb, off, rfl, hbB, e0, e1, e2, e3, e4, e5, e6⟩ := rowsB (HB.out.keep (fun p hp => HU.out.cell hp)) ha
          have hi0 : (0 : Int) ≤ (k : Int) := by omega
          have hi1 : (k : Int) < (l.length : Int) := by omega
          have hst := flat_take' Rep.Bk.bytes l k a ha
          have HST := Lib.hid hst
          have hln := HLN.out
          have hlno : out.length ≤ 1000 := by omega
          obtain ⟨a0, a1, a2, a3, a4, a5, a6⟩ := a
          simp only at g00 g01 g10 g11 g20 g21 g30 g31 g40 g41 g50 g51 g60 g61 e0 e1 e2 e3 e4 e5 e6 ft0 ft1
          clear ha hst hln
          have c0 := HA.out.at 0 _ rfl
          have c1 := HA.out.at 1 _ rfl
          have c2 := HA.out.at 2 _ rfl
          have c3 := HA.out.at 3 _ rfl
          have c4 := HA.out.at 4 _ rfl
          have c5 := HA.out.at 5 _ rfl
          have c6 := HA.out.at 6 _ rfl
          go_wp2_with fail
          have HK := Lib.hid (Blk.new wr 27 #[.int .u32 a0, .int .u8 a1, .int .i64 a2, .int .u32 a3, .int .u32 a4, .int .u32 a5, .int .u32 a6])
          have HO' := Lib.hid (Owns.alloc HO.out (.cells #[.int .u32 a0, .int .u8 a1, .int .i64 a2, .int .u32 a3, .int .u32 a4, .int .u32 a5, .int .u32 a6] 27))
          have HU' := Lib.hid (Bel.push HU.out (.cells #[.int .u32 a0, .int .u8 a1, .int .i64 a2, .int .u32 a3, .int .u32 a4, .int .u32 a5, .int .u32 a6] 27))
          have HA' := Lib.hid (Blk.push HA.out (.cells #[.int .u32 a0, .int .u8 a1, .int .i64 a2, .int .u32 a3, .int .u32 a4, .int .u32 a5, .int .u32 a6] 27))
          obtain ⟨W0, hW0⟩ : ∃ W, W = wr.alloc (.cells #[.int .u32 a0, .int .u8 a1, .int .i64 a2, .int .u32 a3, .int .u32 a4, .int .u32 a5, .int .u32 a6] 27) := ⟨_, rfl⟩
          rw [← hW0] at HK HO' HU' HA' ⊢
          clear HO HU HA hW0 e0 e1 e2 e3 e4 e5 e6 c0 c1 c2 c3 c4 c5 c6
          have HO := HO'
          have HU := HU'
          have HA := HA'
          clear HO' HU' HA'
          refine (number_any _ (a0) 4 (by have := CL.out; omega) (by have := CL.out; omega) (by omega)).mono ?_
          rintro e w11 ⟨A11, cc11, rfl, hI, hb⟩
          have HO' := Lib.hid (HO.out.below hb)
          have HU' := Lib.hid (HU.out.later hb)
          clear HU HO
          have HO := HO'
          have HU := HU'
          clear HO' HU'
          have HA' := Lib.hid (HA.out.later hb)
          clear HA
          have HA := HA'
          clear HA'
          have HK' := Lib.hid (HK.out.later hb)
          clear HK
          have HK := HK'
          clear HK'
          have hbs := HU.out.size
          clear hb
          go_wp2_with (first
            | (at_builtin
               go_loud (refine wpList_append_ints rfl (.tmp 123) (.tmp 127) 40 rfl w.heap.size 5 1 (.int .u8 0) Try.underlying40 info_u8 rfl _ out.length _ (u8s out) rfl HO.out _ .u8 A11 cc11 (be 4 (a0)) (by rw [be_len]; rfl) hI.1 (by rw [be_len]; unfold maxLen; omega) (by rw [be_len]; omega) hbs (out.length + 4) (by rw [be_len]) ?_)
               intro An cn wn hown hgr hat
               have HU2 : Hid (Bel w wn) := Lib.hid (HU.out.grown hgr hbs (fun g e => (HO.out.block g e).1))
               have HO2 := Lib.hid (own_app hown)
               have HA2 := Lib.hid (HA.out.grown hgr (own_type HO.out HA.out (by decide)))
               have HK2 := Lib.hid (HK.out.grown hgr (own_type HO.out HK.out (by decide)))
               have c0 := HA2.out.at 0 _ rfl
               have c1 := HA2.out.at 1 _ rfl
               have c2 := HA2.out.at 2 _ rfl
               have c3 := HA2.out.at 3 _ rfl
               have c4 := HA2.out.at 4 _ rfl
               have c5 := HA2.out.at 5 _ rfl
               have c6 := HA2.out.at 6 _ rfl
               have f0 := HK2.out.at 0 _ rfl
               have f1 := HK2.out.at 1 _ rfl
               have f2 := HK2.out.at 2 _ rfl
               have f3 := HK2.out.at 3 _ rfl
               have f4 := HK2.out.at 4 _ rfl
               have f5 := HK2.out.at 5 _ rfl
               have f6 := HK2.out.at 6 _ rfl
               have hbs2 := HU2.out.size
               clear hgr hat)
            | (at_builtin
               go_loud (refine wpList_append_at rfl (.tmp 129) (.tmp 132) 40 rfl w.heap.size 5 1 1 (.int .u8 0) Try.underlying40 info_u8 rfl (by decide) An (out.length + 4) cn _ rfl hown [.int .u8 a1] rfl (by simp [Value.oneCell']) rfl (by unfold maxLen; omega) (by omega) hbs2 ?_)
               intro Am cm wm hown2 hgr2 hat2
               have HU3 : Hid (Bel w wm) := Lib.hid (HU2.out.grown hgr2 hbs2 (fun g e => (HO2.out.block g e).1))
               have HO3 := Lib.hid (own_one hown2 g10 g11)
               have HA3 := Lib.hid (HA2.out.grown hgr2 (own_type HO2.out HA2.out (by decide)))
               have HK3 := Lib.hid (HK2.out.grown hgr2 (own_type HO2.out HK2.out (by decide)))
               have f2 := HK3.out.at 2 _ rfl
               clear hown2 hgr2 hat2))
          clear HO HU hI hbs HA HK hown HO2 HU2 HA2 HK2 hbs2 c0 c1 c2 c3 c4 c5 c6 f0 f1 f2 f3 f4 f5 f6
          have HO := HO3
          have HU := HU3
          have HA := HA3
          have HK := HK3
          clear HO3 HU3 HA3 HK3
          generalize hO12 : (out ++ be 4 a0 ++ be 1 a1) = o12 at *
          have hlen12 : o12.length ≤ out.length + 5 := by rw [← hO12, List.length_append, List.length_append, be_len, be_len]; omega
          have hq12 : out.length + 4 + 1 = o12.length := by rw [← hO12, List.length_append, List.length_append, be_len, be_len]
          rw [hq12]
          have HE12 := Lib.hid hO12
          clear hO12 hq12
          refine (number_any _ (a2 + 16777216) 3 (by have := CL.out; omega) (by have := CL.out; omega) (by omega)).mono ?_
          rintro e w13 ⟨A13, cc13, rfl, hI, hb⟩
          have HO' := Lib.hid (HO.out.below hb)
          have HU' := Lib.hid (HU.out.later hb)
          clear HU HO
          have HO := HO'
          have HU := HU'
          clear HO' HU'
          have HA' := Lib.hid (HA.out.later hb)
          clear HA
          have HA := HA'
          clear HA'
          have HK' := Lib.hid (HK.out.later hb)
          clear HK
          have HK := HK'
          clear HK'
          have hbs := HU.out.size
          clear hb
          go_wp2_with (at_builtin
                       go_loud (refine wpList_append_ints rfl (.tmp 134) (.tmp 139) 40 rfl w.heap.size 5 1 (.int .u8 0) Try.underlying40 info_u8 rfl _ o12.length _ (u8s o12) rfl HO.out _ .u8 A13 cc13 (be 3 (a2 + 16777216)) (by rw [be_len]; rfl) hI.1 (by rw [be_len]; unfold maxLen; omega) (by rw [be_len]; omega) hbs (o12.length + 3) (by rw [be_len]) ?_)
                       intro An cn wn hown hgr hat
                       have HU2 : Hid (Bel w wn) := Lib.hid (HU.out.grown hgr hbs (fun g e => (HO.out.block g e).1))
                       have HO2 := Lib.hid (own_app hown)
                       have HA2 := Lib.hid (HA.out.grown hgr (own_type HO.out HA.out (by decide)))
                       have HK2 := Lib.hid (HK.out.grown hgr (own_type HO.out HK.out (by decide)))
                       have c0 := HA2.out.at 0 _ rfl
                       have c1 := HA2.out.at 1 _ rfl
                       have c2 := HA2.out.at 2 _ rfl
                       have c3 := HA2.out.at 3 _ rfl
                       have c4 := HA2.out.at 4 _ rfl
                       have c5 := HA2.out.at 5 _ rfl
                       have c6 := HA2.out.at 6 _ rfl
                       have f0 := HK2.out.at 0 _ rfl
                       have f1 := HK2.out.at 1 _ rfl
                       have f2 := HK2.out.at 2 _ rfl
                       have f3 := HK2.out.at 3 _ rfl
                       have f4 := HK2.out.at 4 _ rfl
                       have f5 := HK2.out.at 5 _ rfl
                       have f6 := HK2.out.at 6 _ rfl
                       clear hown hgr hat)
          clear HO HU hI hbs HA HK
          have HO := HO2
          have HU := HU2
          clear HO2 HU2
          have HA := HA2
          clear HA2
          have HK := HK2
          clear HK2
          generalize hO13 : (o12 ++ be 3 (a2 + 16777216)) = o13 at *
          have hlen13 : o13.length ≤ o12.length + 3 := by rw [← hO13, List.length_append, be_len]; omega
          have hq13 : o12.length + 3 = o13.length := by rw [← hO13, List.length_append, be_len]
          rw [hq13]
          have HE13 := Lib.hid hO13
          clear hO13 hq13 c0 c1 c2 c3 c4 c5 c6 f0 f1 f2 f3 f4 f5 f6
          refine (number_any _ (a3) 4 (by have := CL.out; omega) (by have := CL.out; omega) (by omega)).mono ?_
          rintro e w14 ⟨A14, cc14, rfl, hI, hb⟩
          have HO' := Lib.hid (HO.out.below hb)
          have HU' := Lib.hid (HU.out.later hb)
          clear HU HO
          have HO := HO'
          have HU := HU'
          clear HO' HU'
          have HA' := Lib.hid (HA.out.later hb)
          clear HA
          have HA := HA'
          clear HA'
          have HK' := Lib.hid (HK.out.later hb)
          clear HK
          have HK := HK'
          clear HK'
          have hbs := HU.out.size
          clear hb
          go_wp2_with (at_builtin
                       go_loud (refine wpList_append_ints rfl (.tmp 141) (.tmp 145) 40 rfl w.heap.size 5 1 (.int .u8 0) Try.underlying40 info_u8 rfl _ o13.length _ (u8s o13) rfl HO.out _ .u8 A14 cc14 (be 4 (a3)) (by rw [be_len]; rfl) hI.1 (by rw [be_len]; unfold maxLen; omega) (by rw [be_len]; omega) hbs (o13.length + 4) (by rw [be_len]) ?_)
                       intro An cn wn hown hgr hat
                       have HU2 : Hid (Bel w wn) := Lib.hid (HU.out.grown hgr hbs (fun g e => (HO.out.block g e).1))
                       have HO2 := Lib.hid (own_app hown)
                       have HA2 := Lib.hid (HA.out.grown hgr (own_type HO.out HA.out (by decide)))
                       have HK2 := Lib.hid (HK.out.grown hgr (own_type HO.out HK.out (by decide)))
                       have c0 := HA2.out.at 0 _ rfl
                       have c1 := HA2.out.at 1 _ rfl
                       have c2 := HA2.out.at 2 _ rfl
                       have c3 := HA2.out.at 3 _ rfl
                       have c4 := HA2.out.at 4 _ rfl
                       have c5 := HA2.out.at 5 _ rfl
                       have c6 := HA2.out.at 6 _ rfl
                       have f0 := HK2.out.at 0 _ rfl
                       have f1 := HK2.out.at 1 _ rfl
                       have f2 := HK2.out.at 2 _ rfl
                       have f3 := HK2.out.at 3 _ rfl
                       have f4 := HK2.out.at 4 _ rfl
                       have f5 := HK2.out.at 5 _ rfl
                       have f6 := HK2.out.at 6 _ rfl
                       clear hown hgr hat)
          clear HO HU hI hbs HA HK
          have HO := HO2
          have HU := HU2
          clear HO2 HU2
          have HA := HA2
          clear HA2
          have HK := HK2
          clear HK2
          generalize hO14 : (o13 ++ be 4 (a3)) = o14 at *
          have hlen14 : o14.length ≤ o13.length + 4 := by rw [← hO14, List.length_append, be_len]; omega
          have hq14 : o13.length + 4 = o14.length := by rw [← hO14, List.length_append, be_len]
          rw [hq14]
          have HE14 := Lib.hid hO14
          clear hO14 hq14 c0 c1 c2 c3 c4 c5 c6 f0 f1 f2 f3 f4 f5 f6
          refine (number_any _ (a4) 4 (by have := CL.out; omega) (by have := CL.out; omega) (by omega)).mono ?_
          rintro e w15 ⟨A15, cc15, rfl, hI, hb⟩
          have HO' := Lib.hid (HO.out.below hb)
          have HU' := Lib.hid (HU.out.later hb)
          clear HU HO
          have HO := HO'
          have HU := HU'
          clear HO' HU'
          have HA' := Lib.hid (HA.out.later hb)
          clear HA
          have HA := HA'
          clear HA'
          have HK' := Lib.hid (HK.out.later hb)
          clear HK
          have HK := HK'
          clear HK'
          have hbs := HU.out.size
          clear hb
          go_wp2_with (at_builtin
                       go_loud (refine wpList_append_ints rfl (.tmp 147) (.tmp 151) 40 rfl w.heap.size 5 1 (.int .u8 0) Try.underlying40 info_u8 rfl _ o14.length _ (u8s o14) rfl HO.out _ .u8 A15 cc15 (be 4 (a4)) (by rw [be_len]; rfl) hI.1 (by rw [be_len]; unfold maxLen; omega) (by rw [be_len]; omega) hbs (o14.length + 4) (by rw [be_len]) ?_)
                       intro An cn wn hown hgr hat
                       have HU2 : Hid (Bel w wn) := Lib.hid (HU.out.grown hgr hbs (fun g e => (HO.out.block g e).1))
                       have HO2 := Lib.hid (own_app hown)
                       have HA2 := Lib.hid (HA.out.grown hgr (own_type HO.out HA.out (by decide)))
                       have HK2 := Lib.hid (HK.out.grown hgr (own_type HO.out HK.out (by decide)))
                       have c0 := HA2.out.at 0 _ rfl
                       have c1 := HA2.out.at 1 _ rfl
                       have c2 := HA2.out.at 2 _ rfl
                       have c3 := HA2.out.at 3 _ rfl
                       have c4 := HA2.out.at 4 _ rfl
                       have c5 := HA2.out.at 5 _ rfl
                       have c6 := HA2.out.at 6 _ rfl
                       have f0 := HK2.out.at 0 _ rfl
                       have f1 := HK2.out.at 1 _ rfl
                       have f2 := HK2.out.at 2 _ rfl
                       have f3 := HK2.out.at 3 _ rfl
                       have f4 := HK2.out.at 4 _ rfl
                       have f5 := HK2.out.at 5 _ rfl
                       have f6 := HK2.out.at 6 _ rfl
                       clear hown hgr hat)
          clear HO HU hI hbs HA HK
          have HO := HO2
          have HU := HU2
          clear HO2 HU2
          have HA := HA2
          clear HA2
          have HK := HK2
          clear HK2
          generalize hO15 : (o14 ++ be 4 (a4)) = o15 at *
          have hlen15 : o15.length ≤ o14.length + 4 := by rw [← hO15, List.length_append, be_len]; omega
          have hq15 : o14.length + 4 = o15.length := by rw [← hO15, List.length_append, be_len]
          rw [hq15]
          have HE15 := Lib.hid hO15
          clear hO15 hq15 c0 c1 c2 c3 c4 c5 c6 f0 f1 f2 f3 f4 f5 f6
          refine (number_any _ (a5) 4 (by have := CL.out; omega) (by have := CL.out; omega) (by omega)).mono ?_
          rintro e w16 ⟨A16, cc16, rfl, hI, hb⟩
          have HO' := Lib.hid (HO.out.below hb)
          have HU' := Lib.hid (HU.out.later hb)
          clear HU HO
          have HO := HO'
          have HU := HU'
          clear HO' HU'
          have HA' := Lib.hid (HA.out.later hb)
          clear HA
          have HA := HA'
          clear HA'
          have HK' := Lib.hid (HK.out.later hb)
          clear HK
          have HK := HK'
          clear HK'
          have hbs := HU.out.size
          clear hb
          go_wp2_with (at_builtin
                       go_loud (refine wpList_append_ints rfl (.tmp 153) (.tmp 157) 40 rfl w.heap.size 5 1 (.int .u8 0) Try.underlying40 info_u8 rfl _ o15.length _ (u8s o15) rfl HO.out _ .u8 A16 cc16 (be 4 (a5)) (by rw [be_len]; rfl) hI.1 (by rw [be_len]; unfold maxLen; omega) (by rw [be_len]; omega) hbs (o15.length + 4) (by rw [be_len]) ?_)
                       intro An cn wn hown hgr hat
                       have HU2 : Hid (Bel w wn) := Lib.hid (HU.out.grown hgr hbs (fun g e => (HO.out.block g e).1))
                       have HO2 := Lib.hid (own_app hown)
                       have HA2 := Lib.hid (HA.out.grown hgr (own_type HO.out HA.out (by decide)))
                       have HK2 := Lib.hid (HK.out.grown hgr (own_type HO.out HK.out (by decide)))
                       have c0 := HA2.out.at 0 _ rfl
                       have c1 := HA2.out.at 1 _ rfl
                       have c2 := HA2.out.at 2 _ rfl
                       have c3 := HA2.out.at 3 _ rfl
                       have c4 := HA2.out.at 4 _ rfl
                       have c5 := HA2.out.at 5 _ rfl
                       have c6 := HA2.out.at 6 _ rfl
                       have f0 := HK2.out.at 0 _ rfl
                       have f1 := HK2.out.at 1 _ rfl
                       have f2 := HK2.out.at 2 _ rfl
                       have f3 := HK2.out.at 3 _ rfl
                       have f4 := HK2.out.at 4 _ rfl
                       have f5 := HK2.out.at 5 _ rfl
                       have f6 := HK2.out.at 6 _ rfl
                       clear hown hgr hat)
          clear HO HU hI hbs HA HK
          have HO := HO2
          have HU := HU2
          clear HO2 HU2
          have HA := HA2
          clear HA2
          have HK := HK2
          clear HK2
          generalize hO16 : (o15 ++ be 4 (a5)) = o16 at *
          have hlen16 : o16.length ≤ o15.length + 4 := by rw [← hO16, List.length_append, be_len]; omega
          have hq16 : o15.length + 4 = o16.length := by rw [← hO16, List.length_append, be_len]
          rw [hq16]
          have HE16 := Lib.hid hO16
          clear hO16 hq16 c0 c1 c2 c3 c4 c5 c6 f0 f1 f2 f3 f4 f5 f6
          refine (number_any _ (a6) 4 (by have := CL.out; omega) (by have := CL.out; omega) (by omega)).mono ?_
          rintro e w17 ⟨A17, cc17, rfl, hI, hb⟩
          have HO' := Lib.hid (HO.out.below hb)
          have HU' := Lib.hid (HU.out.later hb)
          clear HU HO
          have HO := HO'
          have HU := HU'
          clear HO' HU'
          have HA' := Lib.hid (HA.out.later hb)
          clear HA
          have HA := HA'
          clear HA'
          have HK' := Lib.hid (HK.out.later hb)
          clear HK
          have HK := HK'
          clear HK'
          have hbs := HU.out.size
          clear hb
          go_wp2_with (at_builtin
                       go_loud (refine wpList_append_ints rfl (.tmp 159) (.tmp 163) 40 rfl w.heap.size 5 1 (.int .u8 0) Try.underlying40 info_u8 rfl _ o16.length _ (u8s o16) rfl HO.out _ .u8 A17 cc17 (be 4 (a6)) (by rw [be_len]; rfl) hI.1 (by rw [be_len]; unfold maxLen; omega) (by rw [be_len]; omega) hbs (o16.length + 4) (by rw [be_len]) ?_)
                       intro An cn wn hown hgr hat
                       have HU2 : Hid (Bel w wn) := Lib.hid (HU.out.grown hgr hbs (fun g e => (HO.out.block g e).1))
                       have HO2 := Lib.hid (own_app hown)
                       have HA2 := Lib.hid (HA.out.grown hgr (own_type HO.out HA.out (by decide)))
                       have HK2 := Lib.hid (HK.out.grown hgr (own_type HO.out HK.out (by decide)))
                       have c0 := HA2.out.at 0 _ rfl
                       have c1 := HA2.out.at 1 _ rfl
                       have c2 := HA2.out.at 2 _ rfl
                       have c3 := HA2.out.at 3 _ rfl
                       have c4 := HA2.out.at 4 _ rfl
                       have c5 := HA2.out.at 5 _ rfl
                       have c6 := HA2.out.at 6 _ rfl
                       have f0 := HK2.out.at 0 _ rfl
                       have f1 := HK2.out.at 1 _ rfl
                       have f2 := HK2.out.at 2 _ rfl
                       have f3 := HK2.out.at 3 _ rfl
                       have f4 := HK2.out.at 4 _ rfl
                       have f5 := HK2.out.at 5 _ rfl
                       have f6 := HK2.out.at 6 _ rfl
                       clear hown hgr hat)
          clear HO HU hI hbs HA HK
          have HO := HO2
          have HU := HU2
          clear HO2 HU2
          have HA := HA2
          clear HA2
          have HK := HK2
          clear HK2
          generalize hO17 : (o16 ++ be 4 (a6)) = o17 at *
          have hlen17 : o17.length ≤ o16.length + 4 := by rw [← hO17, List.length_append, be_len]; omega
          have hq17 : o16.length + 4 = o17.length := by rw [← hO17, List.length_append, be_len]
          rw [hq17]
          have HE17 := Lib.hid hO17
          clear hO17 hq17 c0 c1 c2 c3 c4 c5 c6 f0 f1 f2 f3 f4 f5 f6
          go_roundg (gk - 1)
          case measure => omega
          case rel =>
            refine ⟨k + 1, An, cn, o17, by omega, by go_num, rfl, Lib.hid ?_, Lib.hid ?_, HA, HO, HU⟩
            · have hb3 : be 3 (a2 + 16777216) = be 3 a2 := by have := be_add 3 a2 1; simpa using this
              rw [← HE17.out, ← HE16.out, ← HE15.out, ← HE14.out, ← HE13.out, ← HE12.out, HEO.out, HST.out, hb3]
              simp [Rep.Bk.bytes, List.append_assoc]
            · have := HLN.out
              omega
        · obtain rfl : k = l.length := by omega
          have hi1 : (l.length : Int) ≤ (l.length : Int) := Int.le_refl _
          have he : out = (⟨false, so, 0, 0, 0, 0, l⟩ : Rep.Rpt).bytes := by rw [HEO.out, HFR.out, List.take_length]; rfl
          have HE := Lib.hid he
          clear he
          have c0 := HA.out.at 0 _ rfl
          have c1 := HA.out.at 1 _ rfl
          have c2 := HA.out.at 2 _ rfl
          have c3 := HA.out.at 3 _ rfl
          have c4 := HA.out.at 4 _ rfl
          have c5 := HA.out.at 5 _ rfl
          have c6 := HA.out.at 6 _ rfl
          go_wp2_with fail
          go_ret2
          refine ⟨A', c', by rw [← HE.out]; rfl, ?_, HU.out⟩
          rw [← HE.out]
          exact IntsNew.of_own HO.out (Nat.le_refl _)
end
end Go.Proofs.Ythmcbmjjngolmaa
