/- Layer 30: slices.Insert of one waiting packet into a queue that the call has made. -/
import Derived.Test.YtnaafjdnmbajjaaJtRunXQ
import Derived.Lib.Overlaps
import Derived.Laws.CopyRow
import Derived.Lib.AppendZerosOnto
import Derived.Shelf.Spec.SlicesInsert
namespace Go.Proofs.Ytnaafjdnmbajjaa
open Go.RowKit
set_option linter.unusedVariables false
set_option linter.unusedSimpArgs false
attribute [local go_sem ↓] run_min_plain run_max_plain
attribute [local go_sem] setCell_drewN alloc_drewN
/-- 'copy(dst, src)' of elements of several cells -/
theorem run_copy_rows {P : Program} (w : World) (dT sT ty elem : TypeId) (size : Nat) (g o dLen dCap : Nat) (a : Addr) (sLen sCap : Nat) (cur : Array Value) (t : TypeId) (cs : List Value)
    (hu : P.underlying dT = some (.slice elem)) (hs : (P.info? elem).map (·.size) = some size)
    (hg : w.heap[g]? = some (.cells cur t (0, 0))) (hn : cs.length = Nat.min sLen dLen * size)
    (hsrc : ∀ j v, cs[j]? = some v → w.cell? (a.add j) = some v) (hfit : o + cs.length ≤ cur.size) (h1 : ∀ v ∈ cs, v.oneCell' = true) :
    (Builtin.copy_ #[dT, sT] ty #[.slice (some ⟨g, o, none⟩) dLen dCap, .slice (some a) sLen sCap]).run P w =
      .ok (goInt (Nat.min sLen dLen)) (w.setRow g (cur.toList.take o ++ cs ++ cur.toList.drop (o + cs.length)).toArray) := by
  have hl := run_loadCells_list (P := P) w a cs hsrc
  have hst := run_storeCells_at P g o t cs 0 cur w hg (by simpa using hfit) h1
  cases hq : P.info? elem with
  | none => simp [hq] at hs
  | some i =>
    have hi : i.size = size := by simpa [hq] using hs
    simp [Builtin.copy_, run_underlying hu, Builtin.lenOf, Builtin.firstCells, sizeOf, typeInfo, hq, hi, ← hn, hl, hst]
theorem size_w (w : World) : (Go.sizeOf 50).run Try.prog w = .ok 6 w := by kernel_rfl
theorem run_overlaps_w (w : World) (vb off m vc g o lb cb : Nat) (hne : vb ≠ g) (tA tB : TypeId) (kA kB : Nat) (hsa : w.shape? vb = some (tA, kA)) (hsb : w.shape? g = some (tB, kB)) (hkB : kB ≠ 0) (hfa : w.frozen? ⟨vb, off, none⟩ = false) (hfe : w.frozen? ⟨vb, kA, none⟩ = false) :
    (callFunc 53 #[.slice (some ⟨vb, off, none⟩) m vc, .slice (some ⟨g, o, none⟩) lb cb]).run Try.prog w = .ok (.value (.bool false)) w := by
  rw [run_callFunc_extern Try.func53 (by kernel_rfl) (by kernel_rfl) (by kernel_rfl) (e := Extern.SlicesOverlaps.overlaps #[24, 24] #[4]) (by kernel_rfl),
    Lib.run_overlaps_apart w 24 4 50 Try.underlying24 6 size_w ⟨vb, off, none⟩ ⟨g, o, none⟩ m vc lb cb hne tA tB kA kB hsa hsb hkB hfa hfe]
  rfl
theorem ins_rows {α : Type} (L cs : List α) (i n c k : Nat) (hk : cs.length = k) (hi : i < n) (hn : n + 1 ≤ c) (hL : L.length = c * k) :
    ((L.take ((i + 1) * k) ++ (L.drop (i * k)).take ((n - i) * k) ++ L.drop ((i + 1) * k + (n - i) * k)).take (i * k) ++ cs ++ (L.take ((i + 1) * k) ++ (L.drop (i * k)).take ((n - i) * k) ++ L.drop ((i + 1) * k + (n - i) * k)).drop (i * k + k)) =
      L.take (i * k) ++ cs ++ (L.drop (i * k)).take ((n - i) * k) ++ L.drop ((n + 1) * k) := by
  have e1 : (i + 1) * k = i * k + k := by rw [Nat.add_mul, Nat.one_mul]
  have e2 : (i + 1) * k + (n - i) * k = (n + 1) * k := by rw [← Nat.add_mul]; congr 1; omega
  have hle : (i + 1) * k ≤ L.length := by rw [hL]; exact Nat.mul_le_mul_right k (by omega)
  have hl : (L.take ((i + 1) * k)).length = i * k + k := by rw [List.length_take, ← e1]; omega
  rw [e2]
  have h1 : (L.take ((i + 1) * k) ++ (L.drop (i * k)).take ((n - i) * k) ++ L.drop ((n + 1) * k)).take (i * k) = L.take (i * k) := by
    rw [List.append_assoc, List.take_append_of_le_length (by rw [hl]; omega), List.take_take, Nat.min_eq_left (by omega)]
  have h2 : (L.take ((i + 1) * k) ++ (L.drop (i * k)).take ((n - i) * k) ++ L.drop ((n + 1) * k)).drop (i * k + k) = (L.drop (i * k)).take ((n - i) * k) ++ L.drop ((n + 1) * k) := by
    rw [List.append_assoc, ← hl, List.drop_left]
  rw [h1, h2]
  simp
theorem Blk.shape {w : World} {g : Nat} {t : TypeId} {cs : Array Value} (h : Blk w g t cs) : w.shape? g = some (t, cs.size) := by
  unfold Blk at h
  simp [World.shape?, h]
set_option maxRecDepth 100000 in
set_option maxHeartbeats 12800000 in
theorem insert_room (g n c i vb : Nat) (cur : Array Value) (cs : List Value) (w : World) (hi : i < n) (hroom : n + 1 ≤ c) (hcm : c ≤ maxLen) (hne : vb ≠ g) (hB : Blk w g 50 cur) (hV : Blk w vb 50 cs.toArray) (hcl : cs.length = 6) (hcur : cur.size = c * 6) (h1 : ∀ v ∈ cur.toList.take (n * 6), v.oneCell' = true) (h2 : ∀ v ∈ cs, v.oneCell' = true) :
    Calls Try.prog 37 #[.slice (some ⟨g, 0, none⟩) n c, .int .i64 i, .slice (some ⟨vb, 0, none⟩) 1 1] w fun e w' => e = .returned (.slice (some ⟨g, 0, none⟩) (n + 1) c) ∧ Blk w' g 50 (cur.toList.take (i * 6) ++ (cs ++ ((cur.toList.drop (i * 6)).take ((n - i) * 6) ++ cur.toList.drop ((n + 1) * 6)))).toArray ∧ w.grownBy w' (some g) := by
  unfold maxLen at hcm
  have hov0 := fun (o lb cb : Nat) => run_overlaps_w w vb 0 1 1 g o lb cb hne _ _ _ _ hV.shape hB.shape (by rw [hcur]; omega) (hV.frozen 0) (hV.frozen _)
  have hz2 : ¬((i : Int) = (n : Int)) := by omega
  have hw1 : IntKind.i64.wrap ((i : Int) + 1) = (i : Int) + 1 := i64_small _ (by omega) (by omega)
  have hw2 : IntKind.i64.wrap ((n : Int) + 1) = (n : Int) + 1 := i64_small _ (by omega) (by omega)
  have hin : i ≤ n := by omega
  have hb1 : (0 : Int) ≤ (i : Int) + 1 := by omega
  have htn : ((i : Int) + 1).toNat = i + 1 := by omega
  have hb2 : ¬(c = i + 1) := by omega
  have hb3 : (i : Int) ≤ (n : Int) + 1 := by omega
  have hb4 : ¬(c = i) := by omega
  have hb5 : (n : Int) + 1 ≤ (c : Int) := by omega
  have HB := Lib.hid hB
  have HV := Lib.hid hV
  have HCL := Lib.hid hcl
  have HCUR := Lib.hid hcur
  have H1 := Lib.hid h1
  have H2 := Lib.hid h2
  clear hB hV hcl hcur h1 h2
  obtain ⟨C1, hC1⟩ : ∃ C1 : List Value, C1 = (cur.toList.drop (i * 6)).take ((n - i) * 6) := ⟨_, rfl⟩
  have hlc : cur.toList.length = c * 6 := by simpa using HCUR.out
  have hC1l : C1.length = (n - i) * 6 := by rw [hC1, List.length_take, List.length_drop, hlc]; omega
  have hsz : (Try.prog.info? 50).map (·.size) = some 6 := by kernel_rfl
  have hcp1 : ∀ ty dc sc, (Builtin.copy_ #[24, 24] ty #[.slice (some ⟨g, (i + 1) * 6, none⟩) (n - i) dc, .slice (some ⟨g, i * 6, none⟩) (n + 1 - i) sc]).run Try.prog w.drew = .ok (goInt (Nat.min (n + 1 - i) (n - i))) (w.drew.setRow g (cur.toList.take ((i + 1) * 6) ++ C1 ++ cur.toList.drop ((i + 1) * 6 + C1.length)).toArray) := fun ty dc sc =>
    run_copy_rows w.drew _ _ ty 50 6 g ((i + 1) * 6) (n - i) dc ⟨g, i * 6, none⟩ (n + 1 - i) sc cur 50 C1 Try.underlying24 hsz HB.out (by rw [hC1l, show Nat.min (n + 1 - i) (n - i) = n - i by simp only [Nat.min_def]; split <;> omega])
      (fun j v hj => by
        have h9 := HB.out.cell (i * 6 + j)
        rw [hC1, List.getElem?_take] at hj
        split at hj
        · rw [List.getElem?_drop] at hj
          rw [Addr.add_lit]
          exact h9.trans (by simpa using hj)
        · cases hj)
      (by rw [hC1l, HCUR.out]; omega)
      (fun v hv => by
        rw [hC1, show (n - i) * 6 = n * 6 - i * 6 by omega, ← List.drop_take] at hv
        exact H1.out v (List.mem_of_mem_drop hv))
  obtain ⟨R1, hR1⟩ : ∃ R1 : List Value, R1 = cur.toList.take ((i + 1) * 6) ++ C1 ++ cur.toList.drop ((i + 1) * 6 + C1.length) := ⟨_, rfl⟩
  have hR1l : R1.length = c * 6 := by rw [hR1, hC1l]; simp only [List.length_append, List.length_take, List.length_drop, hlc, hC1l]; omega
  rw [← hR1] at hcp1
  obtain ⟨W1, hW1⟩ : ∃ W1, W1 = w.drew.setRow g R1.toArray := ⟨_, rfl⟩
  have hB1 : Blk W1 g 50 R1.toArray := by rw [hW1]; exact setRow_heap w.drew g cur R1.toArray _ _ HB.out
  have hV1 : Blk W1 vb 50 cs.toArray := by rw [hW1]; exact (setRow_other w.drew g vb R1.toArray hne).trans HV.out
  rw [← hW1] at hcp1
  have hcp2 : ∀ (W : World), W.heap = W1.heap → ∀ ty dc, (Builtin.copy_ #[24, 24] ty #[.slice (some ⟨g, i * 6, none⟩) (n + 1 - i) dc, .slice (some ⟨vb, 0, none⟩) 1 1]).run Try.prog W = .ok (goInt (Nat.min 1 (n + 1 - i))) (W.setRow g (R1.take (i * 6) ++ cs ++ R1.drop (i * 6 + cs.length)).toArray) := fun W hW ty dc => by
    have hBW : Blk W g 50 R1.toArray := by unfold Blk; rw [hW]; exact hB1
    have hVW : Blk W vb 50 cs.toArray := by unfold Blk; rw [hW]; exact hV1
    have := run_copy_rows (P := Try.prog) W 24 24 ty 50 6 g (i * 6) (n + 1 - i) dc ⟨vb, 0, none⟩ 1 1 R1.toArray 50 cs Try.underlying24 hsz hBW (by rw [HCL.out, show Nat.min 1 (n + 1 - i) = 1 by simp only [Nat.min_def]; split <;> omega])
      (fun j v hj => by rw [Addr.add_lit, hVW.cell]; simpa using hj) (by rw [HCL.out]; simp [hR1l]; omega) H2.out
    exact this
  have hfin : R1.take (i * 6) ++ cs ++ R1.drop (i * 6 + cs.length) = cur.toList.take (i * 6) ++ (cs ++ ((cur.toList.drop (i * 6)).take ((n - i) * 6) ++ cur.toList.drop ((n + 1) * 6))) := by
    have := ins_rows cur.toList cs i n c 6 HCL.out hi hroom hlc
    rw [hR1, hC1l, hC1, HCL.out]
    rw [this]
    simp only [List.append_assoc]
  rw [hfin] at hcp2
  have HB1 := Lib.hid hB1
  have HW1 := Lib.hid hW1
  clear hC1l hlc hR1l hfin hB1 hV1 hW1 hR1 hC1 hsz
  have hcp2a := fun ty dc => hcp2 W1 rfl ty dc
  go_enter Try.func37, Try.ntmps37
  go_wp2_with (simp only [hov0])
  go_region_law (refine step_copy_runI rfl _ _ 24 24 rfl _ _ (by simp [Act.eval, Act.put]) (by simp [Act.eval, Act.put]) (hcp1 _ _ _) ?_)
  go_wp2_with (at_builtin; refine wpList_copy_runI _ rfl _ _ 24 24 rfl _ _ rfl rfl (hcp2 _ rfl _ _) ?_)
  go_ret
  refine ⟨by first | rfl | simp, ?_, ?_⟩
  · exact setRow_heap W1 g R1.toArray _ _ _ HB1.out
  · rw [HW1.out]
    refine ⟨rfl, rfl, rfl, by simp, fun k hk hne2 => ?_⟩
    have hkg : k ≠ g := fun e => hne2 (by rw [e])
    rw [setRow_other _ _ _ _ hkg, setRow_other _ _ _ _ hkg]
    rfl
end Go.Proofs.Ytnaafjdnmbajjaa
/- Layer 30: slices.Insert at the queue's end, and where there is no room. -/
namespace Go.Proofs.Ytnaafjdnmbajjaa
open Go.RowKit
set_option linter.unusedVariables false
set_option linter.unusedSimpArgs false
attribute [local go_sem ↓] run_min_plain run_max_plain
attribute [local go_sem] setCell_drewN alloc_drewN
/-- what Insert leaves -/
def InsR (base : Nat) (A : Option Addr) (n : Nat) (ys : List Value) (w : World) (e : Ending) (w' : World) : Prop :=
  ∃ (A' : Option Addr) (c' : Nat), e = .returned (.slice A' (n + 1) c') ∧ Owns w' base 50 6 A' (n + 1) c' ys ∧ w.grownBy w' (ownB A) ∧ (ownB A' = ownB A ∨ ∀ g, ownB A' = some g → w.heap.size ≤ g)
set_option maxRecDepth 100000 in
set_option maxHeartbeats 12800000 in
theorem insert_end (base n c vb : Nat) (A : Option Addr) (xs cs : List Value) (w : World) (hn : n ≤ 100000) (hbase : base ≤ w.heap.size) (hO : Owns w base 50 6 A n c xs) (hV : Blk w vb 50 cs.toArray) (hcl : cs.length = 6) (h2 : ∀ v ∈ cs, v.oneCell' = true) :
    Calls Try.prog 37 #[.slice A n c, .int .i64 n, .slice (some ⟨vb, 0, none⟩) 1 1] w (InsR base A n (xs ++ cs) w) := by
  obtain ⟨i, hi, hz0, hz1, hz2⟩ := info_parts info_w
  have hcap := hO.cap
  have hcm := Owns.capm hO
  unfold maxLen at hcm
  have hnn : (n : Int) ≤ (n : Int) := Int.le_refl _
  have hnc : (n : Int) ≤ (c : Int) := by omega
  have hn0 : (0 : Int) ≤ (n : Int) := by omega
  have HO := Lib.hid hO
  have HV := Lib.hid hV
  have HCL := Lib.hid hcl
  have H2 := Lib.hid h2
  have HI := Lib.hid hi
  have HZ0 := Lib.hid hz0
  have HZ1 := Lib.hid hz1
  have HZ2 := Lib.hid hz2
  clear hO hV hcl h2 hi hz0 hz1 hz2
  by_cases hq : c = n
  · have hq' : n = c := hq.symm
    clear hq
    subst hq'
    go_enter Try.func37, Try.ntmps37
    go_wp2_with (at_builtin; refine wpList_append_lies w rfl _ _ 24 rfl base 50 i _ 6 56 Try.underlying24 HI.out HZ0.out HZ1.out HZ2.out rfl (by decide) (.slice A n n) n xs rfl HO.out ⟨vb, 0, none⟩ 1 1 cs rfl (by rw [HCL.out]) (fun j u hj => by rw [Addr.add_lit]; exact (HV.out.cell _).trans (by simpa using hj)) H2.out (by decide) (by unfold maxLen; omega) (by omega) hbase _ rfl ?_; intro g' cap w' hown' hg hat hlt)
    go_ret
    exact ⟨some ⟨g', 0, none⟩, cap, by first | rfl | simp, hown', by rw [ownB_eq] at hg; exact hg, by rw [ownB_eq] at hat; rcases hat with e | e; exact .inl e.symm; exact .inr fun g hg' => by injection hg' with hg'; rw [← hg', e]; exact Nat.le_refl _⟩
  · go_enter Try.func37, Try.ntmps37
    go_wp2_with (at_builtin; refine wpList_append_lies w rfl _ _ 24 rfl base 50 i _ 6 56 Try.underlying24 HI.out HZ0.out HZ1.out HZ2.out rfl (by decide) (.slice A n c) n xs rfl HO.out ⟨vb, 0, none⟩ 1 1 cs rfl (by rw [HCL.out]) (fun j u hj => by rw [Addr.add_lit]; exact (HV.out.cell _).trans (by simpa using hj)) H2.out (by decide) (by unfold maxLen; omega) (by omega) hbase _ rfl ?_; intro g' cap w' hown' hg hat hlt)
    go_ret
    exact ⟨some ⟨g', 0, none⟩, cap, by first | rfl | simp, hown', by rw [ownB_eq] at hg; exact hg, by rw [ownB_eq] at hat; rcases hat with e | e; exact .inl e.symm; exact .inr fun g hg' => by injection hg' with hg'; rw [← hg', e]; exact Nat.le_refl _⟩
set_option maxRecDepth 100000 in
set_option maxHeartbeats 12800000 in
theorem insert_grow (g n i vb : Nat) (xs cs : List Value) (w : World) (hi : i < n) (hn : n ≤ 100000) (hvw : vb < w.heap.size) (hgw : g < w.heap.size) (hxs : ∀ j v, xs[j]? = some v → w.cell? ⟨g, j, none⟩ = some v) (hxl : xs.length = n * 6) (hV : Blk w vb 50 cs.toArray) (hcl : cs.length = 6) (h1 : ∀ v ∈ xs, v.oneCell' = true) (h2 : ∀ v ∈ cs, v.oneCell' = true) :
    Calls Try.prog 37 #[.slice (some ⟨g, 0, none⟩) n n, .int .i64 i, .slice (some ⟨vb, 0, none⟩) 1 1] w fun e w' => ∃ G : Nat, n + 1 ≤ G ∧ G ≤ maxLen ∧ e = .returned (.slice (some ⟨w.heap.size, 0, none⟩) (n + 1) G) ∧ (∃ row : List Value, row.length = G * 6 ∧ row.take ((n + 1) * 6) = xs.take (i * 6) ++ (cs ++ xs.drop (i * 6)) ∧ Blk w' w.heap.size 50 row.toArray) ∧ w.grownBy w' none := by
  obtain ⟨i0, hi0, hz0, hzs, hzb⟩ := info_parts info_w
  have hz2 : ¬((i : Int) = (n : Int)) := by omega
  have hw1 : IntKind.i64.wrap ((i : Int) + 1) = (i : Int) + 1 := i64_small _ (by omega) (by omega)
  have hw2 : IntKind.i64.wrap ((n : Int) + 1) = (n : Int) + 1 := i64_small _ (by omega) (by omega)
  have hw3 : IntKind.i64.wrap ((n : Int) + 1 - (i : Int)) = (n : Int) + 1 - (i : Int) := i64_small _ (by omega) (by omega)
  have hin : i ≤ n := by omega
  have hb0 : (0 : Int) ≤ (i : Int) := by omega
  have hb1 : (0 : Int) ≤ (i : Int) + 1 := by omega
  have htn : ((i : Int) + 1).toNat = i + 1 := by omega
  have hb2 : ¬(n = i) := by omega
  have hb3 : (i : Int) ≤ (n : Int) := by omega
  have hb5 : (n : Int) < (n : Int) + 1 := by omega
  have hsz : (Try.prog.info? 50).map (·.size) = some 6 := by kernel_rfl
  have hkk : (n : Int) + 1 - (i : Int) = ((n + 1 - i : Nat) : Int) := by omega
  have hik : i + (n + 1 - i) = n + 1 := by omega
  have hold : (Builtin.firstCells i0.size i (.slice (some ⟨g, 0, none⟩) i n)).run Try.prog w.drew = .ok (xs.take (i * 6)).toArray w.drew := by
    rw [hzs]
    exact run_firstCells_some w.drew 6 i ⟨g, 0, none⟩ i n (xs.take (i * 6)) (by rw [List.length_take, hxl]; omega) (fun j v hj => by
      rw [Addr.add_lit, Nat.zero_add]
      rw [List.getElem?_take] at hj
      split at hj
      · exact hxs j v hj
      · cases hj)
  have hrz : ∀ ty, (Builtin.append_ #[24, 3] ty #[.slice (some ⟨g, 0, none⟩) i n, .int .i64 ((n : Int) + 1 - (i : Int))]).run Try.prog w = .ok (.slice (some ⟨w.heap.size, 0, none⟩) (n + 1) (grownCap w (n + 1) n 50)) (w.drew.alloc (.cells ((xs.take (i * 6)).toArray ++ Builtin.zeroCells (Value.agg #[.int .i64 0, .int .i64 0, .int .i64 0, .bool false, .int .u8 0, .slice none 0 0]).cells (n + 1 - i) ++ Builtin.zeroCells (Value.agg #[.int .i64 0, .int .i64 0, .int .i64 0, .bool false, .int .u8 0, .slice none 0 0]).cells (grownCap w (n + 1) n 50 - (n + 1))) 50)) := fun ty => by
    have h := Lib.run_append_grow_zeros w 24 3 ty 50 i0 _ .i64 .i64 Try.underlying24 Try.underlying3 hi0 hz0 (some ⟨g, 0, none⟩) i n (xs.take (i * 6)) hold (n + 1 - i) (by omega) (by omega) (by omega) (by omega) (by rw [hzb]; omega) (by rw [hzb, hik]; exact growslice_fits (by omega) (by omega))
    rw [hik] at h
    rw [hkk]
    exact h
  obtain ⟨G, hG⟩ : ∃ G, G = grownCap w (n + 1) n 50 := ⟨_, rfl⟩
  have hGn : n + 1 ≤ G := by rw [hG]; exact grownCap_ge w _ _ _
  have hGm : G ≤ maxLen := by rw [hG]; exact grownCap_le_maxLen w (n + 1) n _ (by unfold maxLen; omega)
  obtain ⟨ROW, hROW⟩ : ∃ ROW : Array Value, ROW = (xs.take (i * 6)).toArray ++ Builtin.zeroCells (Value.agg #[.int .i64 0, .int .i64 0, .int .i64 0, .bool false, .int .u8 0, .slice none 0 0]).cells (n + 1 - i) ++ Builtin.zeroCells (Value.agg #[.int .i64 0, .int .i64 0, .int .i64 0, .bool false, .int .u8 0, .slice none 0 0]).cells (G - (n + 1)) := ⟨_, rfl⟩
  rw [← hG, ← hROW] at hrz
  have hRl : ROW.size = G * 6 := by
    rw [hROW]
    simp [Builtin.zeroCells, Value.cells, hxl]
    omega
  have hRt : ROW.toList.take (i * 6) = xs.take (i * 6) := by
    rw [hROW]
    simp only [Array.toList_append, List.append_assoc]
    rw [List.take_append_of_le_length (by simp [hxl]; omega)]
    rw [List.take_take, Nat.min_self]
  obtain ⟨W1, hW1⟩ : ∃ W1, W1 = w.drew.alloc (.cells ROW 50) := ⟨_, rfl⟩
  have hB1 : Blk W1 w.heap.size 50 ROW := by rw [hW1]; exact Blk.new w.drew _ _
  have hV1 : Blk W1 vb 50 cs.toArray := by rw [hW1]; exact (Below.heap_alloc w.drew _ vb hvw).trans hV
  have hX1 : ∀ j v, xs[j]? = some v → W1.cell? ⟨g, j, none⟩ = some v := fun j v h => by rw [hW1]; exact (World.cell?_alloc_lt w.drew _ ⟨g, j, none⟩ hgw).trans (hxs j v h)
  rw [← hW1] at hrz
  have hne : vb ≠ w.heap.size := by omega
  have hneg : g ≠ w.heap.size := by omega
  -- the first copy
  obtain ⟨R1, hR1⟩ : ∃ R1 : List Value, R1 = ROW.toList.take (i * 6) ++ cs ++ ROW.toList.drop (i * 6 + cs.length) := ⟨_, rfl⟩
  have hR1l : R1.length = G * 6 := by rw [hR1]; simp only [List.length_append, List.length_take, List.length_drop, Array.length_toList, hRl, hcl]; omega
  have hcpA : ∀ (W : World), W.heap = W1.heap → ∀ ty dc, (Builtin.copy_ #[24, 24] ty #[.slice (some ⟨w.heap.size, i * 6, none⟩) (n + 1 - i) dc, .slice (some ⟨vb, 0, none⟩) 1 1]).run Try.prog W = .ok (goInt (Nat.min 1 (n + 1 - i))) (W.setRow w.heap.size R1.toArray) := fun W hW ty dc => by
    have hBW : Blk W w.heap.size 50 ROW := by unfold Blk; rw [hW]; exact hB1
    have hVW : Blk W vb 50 cs.toArray := by unfold Blk; rw [hW]; exact hV1
    have := run_copy_rows (P := Try.prog) W 24 24 ty 50 6 w.heap.size (i * 6) (n + 1 - i) dc ⟨vb, 0, none⟩ 1 1 ROW 50 cs Try.underlying24 hsz hBW (by rw [hcl, show Nat.min 1 (n + 1 - i) = 1 by simp only [Nat.min_def]; split <;> omega])
      (fun j v hj => by rw [Addr.add_lit, hVW.cell]; simpa using hj) (by rw [hcl, hRl]; omega) h2
    rw [← hR1] at this
    exact this
  -- the second copy
  obtain ⟨C2, hC2⟩ : ∃ C2 : List Value, C2 = xs.drop (i * 6) := ⟨_, rfl⟩
  have hC2l : C2.length = (n - i) * 6 := by rw [hC2, List.length_drop, hxl]; omega
  obtain ⟨R2, hR2⟩ : ∃ R2 : List Value, R2 = R1.take ((i + 1) * 6) ++ C2 ++ R1.drop ((i + 1) * 6 + C2.length) := ⟨_, rfl⟩
  have hR2l : R2.length = G * 6 := by rw [hR2]; simp only [List.length_append, List.length_take, List.length_drop, hR1l, hC2l]; omega
  have hR2t : R2.take ((n + 1) * 6) = xs.take (i * 6) ++ (cs ++ xs.drop (i * 6)) := by
    have e1 : R1.take ((i + 1) * 6) = xs.take (i * 6) ++ cs := by
      rw [hR1, hRt]
      have hl6 : (xs.take (i * 6) ++ cs).length = (i + 1) * 6 := by simp [hxl, hcl]; omega
      rw [← hl6, List.take_left]
    have hl7 : (xs.take (i * 6) ++ (cs ++ xs.drop (i * 6))).length = (n + 1) * 6 := by simp [hxl, hcl]; omega
    have key : R2 = (xs.take (i * 6) ++ (cs ++ xs.drop (i * 6))) ++ R1.drop ((i + 1) * 6 + (xs.drop (i * 6)).length) := by rw [hR2, e1, hC2]; simp only [List.append_assoc]
    rw [key, ← hl7, List.take_left]
  have hcpB : ∀ (W : World), W.heap = (W1.setRow w.heap.size R1.toArray).heap → ∀ ty dc sc, (Builtin.copy_ #[24, 24] ty #[.slice (some ⟨w.heap.size, (i + 1) * 6, none⟩) (n - i) dc, .slice (some ⟨g, i * 6, none⟩) (n - i) sc]).run Try.prog W = .ok (goInt (Nat.min (n - i) (n - i))) (W.setRow w.heap.size R2.toArray) := fun W hW ty dc sc => by
    have hBW : Blk W w.heap.size 50 R1.toArray := by unfold Blk; rw [hW]; exact setRow_heap W1 w.heap.size ROW R1.toArray _ _ hB1
    have hXW : ∀ j v, xs[j]? = some v → W.cell? ⟨g, j, none⟩ = some v := fun j v h => by
      have h9 := hX1 j v h
      have h8 : W.heap[g]? = W1.heap[g]? := by rw [hW]; exact setRow_other W1 w.heap.size g R1.toArray hneg
      simp only [World.cell?] at h9 ⊢
      rw [h8]; exact h9
    have := run_copy_rows (P := Try.prog) W 24 24 ty 50 6 w.heap.size ((i + 1) * 6) (n - i) dc ⟨g, i * 6, none⟩ (n - i) sc R1.toArray 50 C2 Try.underlying24 hsz hBW (by rw [hC2l, show Nat.min (n - i) (n - i) = n - i by simp])
      (fun j v hj => by rw [Addr.add_lit]; exact hXW _ v (by rw [hC2, List.getElem?_drop] at hj; exact hj)) (by rw [hC2l]; simp [hR1l]; omega) (fun v hv => h1 v (by rw [hC2] at hv; exact List.mem_of_mem_drop hv))
    rw [List.toList_toArray] at this
    rw [← hR2] at this
    exact this
  have hcpB' := fun ty dc sc => hcpB (W1.setRow w.heap.size R1.toArray).drew rfl ty dc sc
  have HB1 := Lib.hid hB1
  have HW1 := Lib.hid hW1
  have HR2L := Lib.hid hR2l
  have HR2T := Lib.hid hR2t
  have HGN := Lib.hid hGn
  have HGM := Lib.hid hGm
  have hGi : ¬(G = i) := by omega
  have hGi1 : ¬(G = i + 1) := by omega
  have hG63 : G ≤ 9223372036854775807 := by unfold maxLen at hGm; exact hGm
  have hGii : (n : Int) + 1 ≤ (G : Int) := by omega
  clear hold hkk hik hG hGn hGm hROW hRl hRt hB1 hV1 hX1 hR1 hR1l hC2 hC2l hR2 hR2l hR2t hW1 hi0 hz0 hzs hzb hsz hxs hxl hV hcl h1 h2
  go_enter Try.func37, Try.ntmps37
  go_wp2_with (first
    | (at_builtin; refine Lib.wpList_append_run _ rfl _ _ _ _ rfl _ _ rfl rfl _ _ (hrz _) ?_)
    | (at_builtin; refine wpList_copy_runI _ rfl _ _ 24 24 rfl _ _ rfl rfl (hcpA _ rfl _ _) ?_))
  go_region_law (refine step_copy_runI rfl _ _ 24 24 rfl _ _ (by simp [Act.eval, Act.put]) (by simp [Act.eval, Act.put]) (hcpB' _ _ _) ?_)
  go_wp2_with fail
  go_ret
  refine ⟨G, HGN.out, HGM.out, by first | rfl | simp, ⟨R2, HR2L.out, HR2T.out, ?_⟩, ?_⟩
  · exact setRow_heap _ w.heap.size R1.toArray R2.toArray _ _ (setRow_heap W1 w.heap.size ROW R1.toArray _ _ HB1.out)
  · rw [HW1.out]
    refine ⟨rfl, rfl, rfl, by simp, fun k hk hne2 => ?_⟩
    have hkg : k ≠ w.heap.size := by omega
    exact (setRow_other _ _ _ _ hkg).trans ((setRow_other _ _ _ _ hkg).trans (Below.heap_alloc w.drew _ k hk))
end Go.Proofs.Ytnaafjdnmbajjaa
