/- Layer 32: the map of the codecs, and what is looked up in it. -/
import Derived.Maps.OwnOps
import Derived.Maps.Views
import Derived.Laws.EntriesVeiled
import Derived.Test.YtahbecinkciahaaGreatJtPlainQ
import Derived.Test.YtahbecinkciahaaGreatCmpLawsQ
import Derived.Test.YtahbecinkciahaaGreatShelf
import Derived.Deep.QuietTactic
import Derived.BigQuiet
import Derived.Deep.RegionHeld3
import Derived.Deep.RegionWith
import Derived.RegionTactic
import Derived.ChangeAlike
namespace Go.Proofs.YtahbecinkciahaaGreat
open Go.RowKit
open Go.Maps (Keyed)
set_option linter.unusedVariables false
set_option linter.unusedSimpArgs false
/-- an element that reads as itself -/
def heldV (v : Value) : Option (DataW Value × List MemPlace) := some (.held v, [])
/-- the codec of a law whose number lies in block g -/
def cLaw (g : Nat) : Value := .agg #[.func (.func 136) #[] #[.pointer (some ⟨g, 0, none⟩)], .func (.func 138) #[] #[.pointer (some ⟨g, 0, none⟩)]]
def cDel : Value := .agg #[.func (.func 92) #[] #[], .func (.func 93) #[] #[]]
def cNil : Value := .agg #[.nilFunc, .nilFunc]
theorem keyedU8 : Maps.Keyed Tryz.prog 5 := Maps.int_keyed Tryz.underlying5
theorem zero_codec (w : World) : (zeroValue 97).run Tryz.prog w = .ok cNil w := by kernel_rfl
theorem key8 (n : Int) (h0 : 0 ≤ n) (h1 : n ≤ 255) : keyOf Tryz.prog 5 (.int .u8 n) = some (.int .u8 n) := Maps.keyOf_int_mk Tryz.underlying5 (by simp [Lit.wf, IntKind.min, IntKind.max, IntKind.signed, IntKind.bits]; omega)
/-- the codecs -/
def cMap (b1 b2 : Nat) : DataW Value := (((DataW.map []).put (.int .u8 0) (.held (cLaw b1))).put (.int .u8 8) (.held (cLaw b2))).put (.int .u8 96) (.held cDel)
def cAt (b1 b2 : Nat) (k : Int) : Value := if k = 0 then cLaw b1 else if k = 8 then cLaw b2 else if k = 96 then cDel else cNil
theorem cMap_at (b1 b2 : Nat) (k : Int) (z : DataW Value) : (cMap b1 b2).atKey (.int .u8 k) z = if k = 0 ∨ k = 8 ∨ k = 96 then .held (cAt b1 b2 k) else z := by
  have m0 : Maps.IsMap (DataW.map ([] : List (Lit × DataW Value))) := Maps.isMap_empty
  have m1 := m0.put (.int .u8 0) (.held (cLaw b1))
  have m2 := m1.put (.int .u8 8) (.held (cLaw b2))
  unfold cMap cAt
  by_cases h2 : k = 96
  · subst h2
    rw [Maps.atKey_put_same m2 (by unfold WideAt.IsKeyLit; trivial)]
    simp
  rw [Maps.atKey_put_other (fun e => h2 (by injection e))]
  by_cases h1 : k = 8
  · subst h1
    rw [Maps.atKey_put_same m1 (by unfold WideAt.IsKeyLit; trivial)]
    simp
  rw [Maps.atKey_put_other (fun e => h1 (by injection e))]
  by_cases h0 : k = 0
  · subst h0
    rw [Maps.atKey_put_same m0 (by unfold WideAt.IsKeyLit; trivial)]
    simp
  rw [Maps.atKey_put_other (fun e => h0 (by injection e)), if_neg (by omega)]
  rfl
/-- the map of the codecs lies in block b; the laws' numbers in b1, b2 -/
structure Cods (w : World) (n b b1 b2 : Nat) : Prop where
  map : w.ownsMap Tryz.prog 5 heldV b 3 (cMap b1 b2)
  l1 : Blk w b1 5 #[.int .u8 1]
  l2 : Blk w b2 5 #[.int .u8 2]
  n0 : n ≤ b
  n1 : n ≤ b1
  n2 : n ≤ b2
theorem ownsMap_below' {H : Type} {P : Program} {k : TypeId} {R : Value → Option (DataW H × List MemPlace)} {w w' : World} {b n : Nat} {D : DataW H} (h : w.ownsMap P k R b n D) (hb : Below w.heap.size w w') : w'.ownsMap P k R b n D := by
  have hlt := h.lt
  obtain ⟨es, clock, h1, r⟩ := h
  exact ⟨es, clock, (hb.block b hlt).trans h1, r⟩
theorem Cods.later {w w' : World} {n b b1 b2 : Nat} (h : Cods w n b b1 b2) (hb : Below w.heap.size w w') : Cods w' n b b1 b2 := ⟨ownsMap_below' h.map hb, h.l1.later hb, h.l2.later hb, h.n0, h.n1, h.n2⟩
theorem look_codec {w : World} {n b b1 b2 : Nat} (h : Cods w n b b1 b2) (k : Int) (h0 : 0 ≤ k) (h1 : k ≤ 255) : (Instr.lookup 99 (.map (some b)) (.int .u8 k) false).run Tryz.prog w = .ok (cAt b1 b2 k) w ∧
    (Instr.lookup 99 (.map (some b)) (.int .u8 k) true).run Tryz.prog w = .ok (.tuple #[cAt b1 b2 k, .bool (speechB k)]) w := by
  obtain ⟨es, clock, hb, F, _, hD⟩ := h.map
  have hk := key8 k h0 h1
  have hz := zero_codec w
  have hat := cMap_at b1 b2 k
  rw [hD] at hat
  have hno : ¬(k = 0 ∨ k = 8 ∨ k = 96) → cAt b1 b2 k = cNil := fun hn => by unfold cAt; rw [if_neg (by omega), if_neg (by omega), if_neg (by omega)]
  have both : ∀ c, (Instr.lookup 99 (.map (some b)) (.int .u8 k) c).run Tryz.prog w = .ok (if c then .tuple #[cAt b1 b2 k, .bool (speechB k)] else cAt b1 b2 k) w := by
    intro c
    rcases Maps.fit_look c keyedU8 Tryz.underlying99 hz hb F hk with ⟨hrun, _, ha⟩ | ⟨e0, y, hk0, hk1, hrun, hRv, ha, hx⟩
    · have hn : ¬(k = 0 ∨ k = 8 ∨ k = 96) := fun hin => by
        have h1 := hat .nil
        rw [ha .nil, if_pos hin] at h1
        cases h1
      rw [hrun, hno hn, speechB_f hn]
    · have hy : y.1 = .held e0.val := congrArg Prod.fst (Option.some.inj hRv).symm
      have hin : k = 0 ∨ k = 8 ∨ k = 96 := by
        rcases Classical.em (k = 0 ∨ k = 8 ∨ k = 96) with hin | hn
        · exact hin
        · have h1 := hat .nil
          rw [ha .nil, if_neg hn, hy] at h1
          cases h1
      have h1 := hat .nil
      rw [ha .nil, if_pos hin, hy] at h1
      replace h1 := DataW.held.inj h1
      rw [hrun, h1, speechB_t hin]
  exact ⟨both false, both true⟩
def CompR (w : World) (l : Int) (e : Ending) (w' : World) : Prop := ∃ g, e = .returned (cLaw g) ∧ Blk w' g 5 #[.int .u8 l] ∧ w.heap.size ≤ g ∧ Below w.heap.size w w'
set_option maxRecDepth 100000 in
set_option maxHeartbeats 12800000 in
theorem companding_any (l : Int) (w : World) : Calls Tryz.prog 91 #[.int .u8 l] w (CompR w l) := by
  have hmf : ∀ (fn : Fn) (first cap : Array Value) (w : World), (Instr.makeFunc fn first cap).run Tryz.prog w = .ok (.func fn first cap) w := fun _ _ _ _ => rfl
  go_enter Tryz.func91, Tryz.ntmps91
  go_wp2_with fail
  exact bodyPost_ret (v := cLaw w.heap.size) (by simp [results, Tryz.results91, go_sem, cLaw]) rfl ⟨w.heap.size, rfl, (Blk.new w _ _).push _, Nat.le_refl _, ((Bel.refl w).push _).push _⟩
/-- 'm[k] = v' in a literal -/
theorem wpList_insert_own {H : Type} {P : Program} (w : World) {ops : Array Oper} {rest : List Oper} {o : Oper} {a : Act} {Q : Exit → Act → World → Prop}
    (hg : o.guard = none) (m x v : Operand) (t : TypeId) (hop : o.op = Op.insert t m x v)
    (k e : TypeId) (K : Keyed P k) (ht : P.underlying t = some (.map k e)) (R : Value → Option (DataW H × List MemPlace)) (b n : Nat) (D : DataW H)
    (hm : a.eval m = .map (some b)) (hown : w.ownsMap P k R b n D) (hn : n < maxLen) (key val : Value) (kl : Lit) (hx : a.eval x = key) (hv : a.eval v = val) (hkey : keyOf P k key = some kl)
    (d : DataW H) (ps : List MemPlace) (hval : R val = some (d, ps))
    (hK : ∀ w', w'.ownsMap P k R b (n + 1) (D.put kl d) → w.grownBy w' (some b) → wpList P ops Q rest (a.put o.dst undef) w') :
    wpList P ops Q (o :: rest) a w := by
  refine wpList_plain hg fun K' hK' => ?_
  obtain ⟨w', hrun, r1, r2⟩ := hown.update K ht hn hkey hval
  unfold Oper.wp
  simp [execOp, hop, hm, hx, hv, hrun, Result.andThen]
  exact hK' _ _ (hK w' r1 r2)
def CodsR (w : World) (e : Ending) (w' : World) : Prop := ∃ b b1 b2, e = .returned (.map (some b)) ∧ Cods w' w.heap.size b b1 b2 ∧ Below w.heap.size w w'
set_option maxRecDepth 100000 in
set_option maxHeartbeats 12800000 in
theorem codecs_any (w : World) : Calls Tryz.prog 36 #[] w (CodsR w) := by
  have hmm := @run_makeMap Tryz.prog
  have hm0 := Lib.hid (World.ownsMap_made w Tryz.prog 5 heldV)
  have U0 := Lib.hid ((Bel.refl w).push (.map #[] 0))
  go_enter Tryz.func36, Tryz.ntmps36
  go_wp2_with fail
  refine (companding_any 1 _).mono ?_
  rintro e w1 ⟨g1, rfl, HB1, hg1, hb1⟩
  have hm1 := Lib.hid (ownsMap_below' hm0.out hb1)
  have U1 := Lib.hid (U0.out.later hb1)
  have B1 := Lib.hid HB1
  have hn1 : w.heap.size + 1 ≤ g1 := by simpa using hg1
  clear hb1 HB1 hg1
  go_wp2_with (refine wpList_insert_own _ rfl _ _ _ 99 rfl 5 97 keyedU8 Tryz.underlying99 heldV _ 0 _ rfl hm1.out (by unfold maxLen; omega) _ _ (.int .u8 0) rfl rfl (key8 0 (by omega) (by omega)) (.held (cLaw g1)) [] rfl ?_; intro w2 hm2 hg2)
  replace B1 := Lib.hid (B1.out.grown hg2 (fun e => by injection e with e; omega))
  have U2 := Lib.hid (show Bel w w2 from U1.out.grown hg2 U1.out.size (fun g e => by injection e with e; omega))
  have hm2 := Lib.hid hm2
  clear hg2 hm1 U1
  refine (companding_any 2 _).mono ?_
  rintro e w3 ⟨g2, rfl, HB2, hg2, hb3⟩
  have hm3 := Lib.hid (ownsMap_below' hm2.out hb3)
  have U3 := Lib.hid (U2.out.later hb3)
  replace B1 := Lib.hid (B1.out.later hb3)
  have B2 := Lib.hid HB2
  have hn2 : w.heap.size + 1 ≤ g2 := by have := B1.out.lt; have := hm2.out.lt; omega
  clear hb3 HB2 hg2 hm2 U2
  go_wp2_with (refine wpList_insert_own _ rfl _ _ _ 99 rfl 5 97 keyedU8 Tryz.underlying99 heldV _ 1 _ rfl hm3.out (by unfold maxLen; omega) _ _ (.int .u8 8) rfl rfl (key8 8 (by omega) (by omega)) (.held (cLaw g2)) [] rfl ?_; intro w4 hm4 hg4; obtain ⟨w5, hrun5, hm5, hg5⟩ := hm4.update keyedU8 Tryz.underlying99 (by unfold maxLen; omega) (key8 96 (by omega) (by omega)) (show heldV (.agg #[.func (.func 92) #[] #[], .func (.func 93) #[] #[]]) = some (.held cDel, []) from rfl))
  replace B1 := Lib.hid (B1.out.grown hg4 (fun e => by injection e with e; omega))
  replace B2 := Lib.hid (B2.out.grown hg4 (fun e => by injection e with e; omega))
  have U4 := Lib.hid (show Bel w w4 from U3.out.grown hg4 U3.out.size (fun g e => by injection e with e; omega))
  replace B1 := Lib.hid (B1.out.grown hg5 (fun e => by injection e with e; omega))
  replace B2 := Lib.hid (B2.out.grown hg5 (fun e => by injection e with e; omega))
  have U5 := Lib.hid (show Bel w w5 from U4.out.grown hg5 U4.out.size (fun g e => by injection e with e; omega))
  go_ret
  exact ⟨w.heap.size, g1, g2, rfl, ⟨hm5, B1.out, B2.out, Nat.le_refl _, by omega, by omega⟩, U5.out⟩
theorem cAt_cases (b1 b2 : Nat) (k : Int) : cAt b1 b2 k = cLaw b1 ∨ cAt b1 b2 k = cLaw b2 ∨ cAt b1 b2 k = cDel ∨ cAt b1 b2 k = cNil := by
  unfold cAt
  split
  · exact .inl rfl
  split
  · exact .inr (.inl rfl)
  split
  · exact .inr (.inr (.inl rfl))
  · exact .inr (.inr (.inr rfl))
set_option maxRecDepth 100000 in
set_option maxHeartbeats 12800000 in
theorem speech_any (k : Int) (w : World) (h0 : 0 ≤ k) (h1 : k ≤ 255) : Calls Tryz.prog 39 #[.int .u8 k] w fun e w' => e = .returned (.bool (speechB k)) ∧ Below w.heap.size w w' := by
  go_enter Tryz.func39, Tryz.ntmps39
  go_wp2_with fail
  refine (codecs_any _).mono ?_
  rintro e w1 ⟨b, b1, b2, rfl, C, hb1⟩
  have kl := (look_codec C k h0 h1).2
  have hU := Lib.hid (Bel.later (Bel.refl w) hb1)
  clear hb1 C
  rcases cAt_cases b1 b2 k with h | h | h | h
  all_goals
    rw [h] at kl
    simp only [cLaw, cDel, cNil] at kl
    clear h
    go_wp2_with fail
    go_ret
    exact ⟨rfl, hU.out.push _⟩
end Go.Proofs.YtahbecinkciahaaGreat
/- Layer 29: Level of the program and of the reference; Silence. -/
namespace Go.Proofs.YtahbecinkciahaaGreat
open Go.RowKit
set_option linter.unusedVariables false
set_option linter.unusedSimpArgs false
attribute [local go_sem ↓] run_min_plain run_max_plain
attribute [local go_sem] setCell_drewN alloc_drewN
theorem Ev.u64_in (x : Int) (h0 : 0 ≤ x) (h1 : x ≤ 9223372036854775807) : IntKind.u64.wrap x = x := by
  simp [IntKind.wrap, IntKind.bits, IntKind.signed]
  omega
theorem ev_ret1 {k : IntKind} {a b : Int} (h : a = b) : Ending.returned (.int k a) = .returned (.int k b) := by rw [h]
section
variable (A : Option Addr) (zs : List Int) (cap : Nat) (w : World)
theorem Ev.sum_step (zs : List Int) (hz : Within (-32768) 32767 zs) (k : Nat) (h : k < zs.length) : (Ev.sumSq (zs.take (k + 1)) : Int) = (Ev.sumSq (zs.take k) : Int) + zs.getD k 0 * zs.getD k 0 ∧ 0 ≤ zs.getD k 0 * zs.getD k 0 ∧ zs.getD k 0 * zs.getD k 0 ≤ 1073741824 ∧ (Ev.sumSq (zs.take k) : Int) ≤ k * 1073741824 := by
  obtain ⟨z0, z1⟩ := hz.at h
  have hs := Ev.sq_bd _ z0 z1
  have h2 := Ev.sumSq_take zs k h
  have h3 := Ev.sumSq_bd (zs.take k) (hz.take k)
  have h4 : (zs.take k).length = k := by simp; omega
  rw [h4] at h3
  omega
set_option maxRecDepth 100000 in
set_option maxHeartbeats 800000 in
theorem Level_any (hA : IntsAt w w.heap.size .i16 A zs) (hz : Within (-32768) 32767 zs) (hl : zs.length ≤ 8000) :
    Calls Tryz.prog 75 #[.slice A zs.length cap] w fun e w' => e = .returned (.int .u8 (Ev.lev zs)) ∧ w = w' := by
  by_cases h0 : zs.length = 0
  · obtain rfl := List.eq_nil_of_length_eq_zero h0
    clear h0
    go_enter Tryz.func75, Tryz.ntmps75
    go_wp2
    go_ret
    exact ⟨rfl, rfl⟩
  · obtain ⟨b, off, rfl, hb, hcell⟩ := hA (by omega)
    have hmean := Ev.mean_bd zs hz
    have hbd := Ev.sumSq_bd zs hz
    have hL : Ev.lev zs = if Ev.sumSq zs / zs.length = 0 then 127 else 3 * (30 - (Nat.log2 (Ev.sumSq zs / zs.length) : Int)) := by unfold Ev.lev; rw [if_neg h0]
    have HL := Lib.hid hL
    have HZ := Lib.hid hz
    have h0' : ((zs.length : Int) == 0) = false := by simpa using h0
    have h1 : 1 ≤ (zs.length : Int) := by omega
    clear hL hz hA h0
    go_enter Tryz.func75, Tryz.ntmps75
    go_wp2
    go_loop [3, 12] (fun s i => ∃ k : Nat, k ≤ zs.length ∧ i = .int .i64 k ∧ s = .int .u64 (Ev.sumSq (zs.take k))) (fun _ i => zs.length - (intOf i).toNat)
    case atStart => exact ⟨0, Nat.zero_le _, rfl, rfl⟩
    case round =>
      obtain ⟨k, hk, rfl, rfl⟩ := hrel
      by_cases hlt : k < zs.length
      · have hc := hcell k hlt
        obtain ⟨s1, s2, s3, s4⟩ := Ev.sum_step zs HZ.out k hlt
        obtain ⟨z0, z1⟩ := HZ.out.at hlt
        have HS := Lib.hid s1
        have s5 : (0 : Int) ≤ (Ev.sumSq (zs.take k) : Int) := by omega
        clear hcell s1
        generalize zs.getD k 0 = z at *
        generalize (Ev.sumSq (zs.take k) : Int) = S at *
        have hi0 : (0 : Int) ≤ (k : Int) := by omega
        have hi1 : (k : Int) < (zs.length : Int) := by omega
        go_wp2
        go_round
        case rel => exact ⟨k + 1, by omega, by go_num, by rw [HS.out]⟩
        case measure => simp [intOf]; omega
      · obtain rfl : k = zs.length := by omega
        rw [List.take_length] at *
        have hq : (Ev.sumSq zs : Int) / (zs.length : Int) = ((Ev.sumSq zs / zs.length : Nat) : Int) := (Int.natCast_ediv _ _).symm
        have hq2 : (Ev.sumSq zs : Int).tdiv (zs.length : Int) = ((Ev.sumSq zs / zs.length : Nat) : Int) := by rw [Int.tdiv_eq_ediv_of_nonneg (by omega), hq]
        have HQ := Lib.hid hq2
        clear hq2
        have hS : (Ev.sumSq zs : Int) ≤ 8589934592000 := by omega
        clear hq hcell hbd
        obtain ⟨P, hP⟩ : ∃ P, P = Ev.sumSq zs / zs.length := ⟨_, rfl⟩
        rw [← hP] at HL HQ hmean
        clear hP
        by_cases hp : P = 0
        · subst hp
          have hq := HQ.out
          have hw := Ev.u64_in ((0 : Nat) : Int) (by omega) (by omega)
          have hlv := HL.out
          rw [if_pos rfl] at hlv
          have HLV := Lib.hid hlv
          clear hlv
          generalize (Ev.sumSq zs : Int) = S at *
          go_wp2
          go_ret
          exact ⟨ev_ret1 HLV.out.symm, rfl⟩
        · have hlv := HL.out
          rw [if_neg hp] at hlv
          have hb2 := Ev.log2_bd P hmean hp
          have hbl : (Lib.bitLen ((P : Nat) : Int).toNat : Int) = (Nat.log2 P : Int) + 1 := by
            rw [Int.toNat_natCast, Ev.bitLen_eq P (by omega), if_neg hp]; simp
          have HLV := Lib.hid hlv
          have HBL := Lib.hid hbl
          have hq := HQ.out
          have hw := Ev.u64_in (P : Int) (by omega) (by omega)
          clear hlv hbl
          generalize Nat.log2 P = L at *
          generalize (Ev.sumSq zs : Int) = S at *
          have hp' : ((P : Int) == 0) = false := by simpa using hp
          have k1 := Lib.hid fun W => Tryz.bits_Len64 (P : Int) W (by omega) (by omega)
          rw [HBL.out] at k1
          clear HBL
          go_wp2_with (go_at_call 129; refine (k1.out _).mono ?_; rintro e w1 ⟨rfl, rfl⟩)
          go_ret
          exact ⟨ev_ret1 (by rw [HLV.out]; omega), rfl⟩
end
end Go.Proofs.YtahbecinkciahaaGreat
/- Layer 29: Amplitude, Noise of the program and of the reference. -/
namespace Go.Proofs.YtahbecinkciahaaGreat
open Go.RowKit
set_option linter.unusedVariables false
set_option linter.unusedSimpArgs false
attribute [local go_sem] setCell_drewN alloc_drewN
theorem Ev.amp_bd : ∀ k, 0 ≤ Ev.amp k ∧ Ev.amp k ≤ 32767
  | 0 => by decide
  | k + 1 => by
    have := Ev.amp_bd k
    unfold Ev.amp
    omega
theorem Ev.amp_pow : ∀ k : Fin 43, (32767 : Int) / 2 ^ k.val = Ev.amp k.val := by decide +kernel
theorem Ev.info_i16 : (Tryz.prog.info? 93).map (fun i => (i.zero, i.size, i.bytes)) = some (some (.int .i16 0), 1, 2) := by kernel_rfl
theorem Ev.seed_bd (s : Int) (h0 : 0 ≤ s) (h1 : s ≤ 4294967295) : ∀ k, 0 ≤ Ev.seed s k ∧ Ev.seed s k ≤ 4294967295
  | 0 => ⟨h0, h1⟩
  | k + 1 => by unfold Ev.seed; omega
theorem Ev.nsamp_bd (a s : Int) (ha : 0 ≤ a) (k : Nat) : -a ≤ Ev.nsamp a s k ∧ Ev.nsamp a s k ≤ a := by
  unfold Ev.nsamp
  have h1 := Int.emod_nonneg (Ev.seed s (k + 1) / 65536) (b := 2 * a + 1) (by omega)
  have h2 := Int.emod_lt_of_pos (Ev.seed s (k + 1) / 65536) (b := 2 * a + 1) (by omega)
  omega
section
variable (l s n : Int) (w : World)
def NoiseR (a s : Int) (m : Nat) (w : World) (e : Ending) (w' : World) : Prop :=
  ∃ (A' : Option Addr) (c' : Nat), e = .returned (.tuple #[.slice A' m c', .int .u32 (Ev.seed s m), .int .u8 0]) ∧ IntsAt w' w'.heap.size .i16 A' ((List.range m).map fun k => Ev.nsamp a s k) ∧ Below w.heap.size w w'
end
end Go.Proofs.YtahbecinkciahaaGreat
/- Layer 32: what decoders make is new (Unpack of the two laws, Noise, Unpack of delta). -/
namespace Go.Proofs.YtahbecinkciahaaGreat
open Go.RowKit
set_option linter.unusedVariables false
set_option linter.unusedSimpArgs false
section
set_option maxRecDepth 100000 in
set_option maxHeartbeats 1600000 in
theorem Unpack_muN (A : Option Addr) (zs : List Int) (cap : Nat) (w : World) (hA : IntsAt w w.heap.size .u8 A zs) (hz : Within (0) 255 zs) (h8 : zs.length ≤ 8000) :
    Calls Tryz.prog 139 #[.int .u8 1, .slice A zs.length cap] w fun e w' => ∃ A' : Option Addr, e = .returned (.tuple #[.slice A' zs.length zs.length, .int .u8 0]) ∧
      IntsNew w.heap.size w' .i16 A' (zs.map Cmp.fromMuZ) ∧ Below w.heap.size w w' := by
  have hmk := run_make_row' (P := Tryz.prog) 66 93 (.int .i16 0) 2 Tryz.underlying66 cmp_i16 rfl .i64 .i64 zs.length (by omega) (by omega) w
  obtain ⟨W1, hW1⟩ : ∃ W1, W1 = w.alloc (.cells (madeCells #[.int .i16 0] zs.length) 93) := ⟨_, rfl⟩
  have hrow : W1.rowIs w.heap.size 93 zs.length (fun _ => .int .i16 0) := by rw [hW1]; exact World.rowIs_made w _ _ _
  have hbel : Below w.heap.size w W1 := by rw [hW1]; exact (Below.refl _ _).alloc (Nat.le_refl _) _
  rw [← hW1] at hmk
  clear hW1
  go_enter Tryz.func139, Tryz.ntmps139
  go_wp2_with (go_at_call 161; refine (find_mu _).mono ?_; rintro e w' ⟨rfl, rfl⟩)
  go_loopw [25] (fun i wr => ∃ k : Nat, k ≤ zs.length ∧ i = .int .i64 k ∧ wr.rowIs w.heap.size 93 zs.length (fun j => .int .i16 (if j < k then Cmp.fromMuZ (zs.getD j 0) else 0)) ∧ Below w.heap.size w wr)
    (fun i _ => zs.length - (intOf i).toNat)
  case atStart => exact ⟨0, Nat.zero_le _, rfl, hrow.congr (by simp), hbel⟩
  case round =>
    obtain ⟨k, hk, rfl, hr, hb⟩ := hrel
    by_cases hlt : k < zs.length
    · obtain ⟨b, off, rfl, hbB, hcell⟩ := hA (by omega)
      have hzk := hz.at hlt
      have hck : wr.cell? ⟨b, off + k, none⟩ = some (.int .u8 (zs.getD k 0)) := (hb.cell (p := ⟨b, off + k, none⟩) hbB).trans (hcell k hlt)
      have hcr : wr.cell? ⟨w.heap.size, k, none⟩ = some (.int .i16 0) := by rw [hr.cell hlt]; simp
      have hfr := hr.frozen k
      have hrl := hr.lt
      have hn1 : b ≠ w.heap.size := by omega
      have hn2 : w.heap.size ≠ b := by omega
      have HR := Lib.hid hr
      have hbs := hb.size
      clear hr hcell hrow hbel hmk
      generalize hzz : zs.getD k 0 = z at hck hzk
      have HZ := Lib.hid hzz
      clear hzz
      obtain ⟨hz1, hz2⟩ := hzk
      have hi0 : (0 : Int) ≤ (k : Int) := by omega
      have hi1 : (k : Int) < (zs.length : Int) := by omega
      have hna := nil_musample
      have hme := met_musample
      go_wp2
      go_region_held3 (fun w' => w'.cell? ⟨b, off + k, none⟩ = some (.int .u8 z)) (go_keep)
        (first | (go_at_call 183; refine (musample _ _ (by omega) (by omega)).mono ?_; rintro e w' ⟨rfl, rfl⟩) | fail)
      go_wp2
      go_roundw
      case rel =>
        refine ⟨k + 1, by omega, by go_num, ?_, ((hb.setCell (Nat.le_refl _) _).alloc (by simpa using hbs) _).drew⟩
        rw [← HZ.out]
        exact (rowIs_fill (g := fun j => Cmp.fromMuZ (zs.getD j 0)) HR.out).alloc _
      case measure => simp [intOf]; omega
    · obtain rfl : k = zs.length := by omega
      have HR := Lib.hid hr
      clear hr hrow hbel hmk
      go_wp2
      go_ret2
      exact ⟨_, rfl, ⟨IntsAt.of_fill HR.out, fun _ b' o' e => by cases e; exact Nat.le_refl _⟩, hb⟩

set_option maxRecDepth 100000 in
set_option maxHeartbeats 1600000 in
theorem Unpack_aN (A : Option Addr) (zs : List Int) (cap : Nat) (w : World) (hA : IntsAt w w.heap.size .u8 A zs) (hz : Within (0) 255 zs) (h8 : zs.length ≤ 8000) :
    Calls Tryz.prog 139 #[.int .u8 2, .slice A zs.length cap] w fun e w' => ∃ A' : Option Addr, e = .returned (.tuple #[.slice A' zs.length zs.length, .int .u8 0]) ∧
      IntsNew w.heap.size w' .i16 A' (zs.map Cmp.fromAZ) ∧ Below w.heap.size w w' := by
  have hmk := run_make_row' (P := Tryz.prog) 66 93 (.int .i16 0) 2 Tryz.underlying66 cmp_i16 rfl .i64 .i64 zs.length (by omega) (by omega) w
  obtain ⟨W1, hW1⟩ : ∃ W1, W1 = w.alloc (.cells (madeCells #[.int .i16 0] zs.length) 93) := ⟨_, rfl⟩
  have hrow : W1.rowIs w.heap.size 93 zs.length (fun _ => .int .i16 0) := by rw [hW1]; exact World.rowIs_made w _ _ _
  have hbel : Below w.heap.size w W1 := by rw [hW1]; exact (Below.refl _ _).alloc (Nat.le_refl _) _
  rw [← hW1] at hmk
  clear hW1
  go_enter Tryz.func139, Tryz.ntmps139
  go_wp2_with (go_at_call 161; refine (find_a _).mono ?_; rintro e w' ⟨rfl, rfl⟩)
  go_loopw [25] (fun i wr => ∃ k : Nat, k ≤ zs.length ∧ i = .int .i64 k ∧ wr.rowIs w.heap.size 93 zs.length (fun j => .int .i16 (if j < k then Cmp.fromAZ (zs.getD j 0) else 0)) ∧ Below w.heap.size w wr)
    (fun i _ => zs.length - (intOf i).toNat)
  case atStart => exact ⟨0, Nat.zero_le _, rfl, hrow.congr (by simp), hbel⟩
  case round =>
    obtain ⟨k, hk, rfl, hr, hb⟩ := hrel
    by_cases hlt : k < zs.length
    · obtain ⟨b, off, rfl, hbB, hcell⟩ := hA (by omega)
      have hzk := hz.at hlt
      have hck : wr.cell? ⟨b, off + k, none⟩ = some (.int .u8 (zs.getD k 0)) := (hb.cell (p := ⟨b, off + k, none⟩) hbB).trans (hcell k hlt)
      have hcr : wr.cell? ⟨w.heap.size, k, none⟩ = some (.int .i16 0) := by rw [hr.cell hlt]; simp
      have hfr := hr.frozen k
      have hrl := hr.lt
      have hn1 : b ≠ w.heap.size := by omega
      have hn2 : w.heap.size ≠ b := by omega
      have HR := Lib.hid hr
      have hbs := hb.size
      clear hr hcell hrow hbel hmk
      generalize hzz : zs.getD k 0 = z at hck hzk
      have HZ := Lib.hid hzz
      clear hzz
      obtain ⟨hz1, hz2⟩ := hzk
      have hi0 : (0 : Int) ≤ (k : Int) := by omega
      have hi1 : (k : Int) < (zs.length : Int) := by omega
      have hna := nil_asample
      have hme := met_asample
      go_wp2
      go_region_held3 (fun w' => w'.cell? ⟨b, off + k, none⟩ = some (.int .u8 z)) (go_keep)
        (first | (go_at_call 188; refine (asample _ _ (by omega) (by omega)).mono ?_; rintro e w' ⟨rfl, rfl⟩) | fail)
      go_wp2
      go_roundw
      case rel =>
        refine ⟨k + 1, by omega, by go_num, ?_, ((hb.setCell (Nat.le_refl _) _).alloc (by simpa using hbs) _).drew⟩
        rw [← HZ.out]
        exact (rowIs_fill (g := fun j => Cmp.fromAZ (zs.getD j 0)) HR.out).alloc _
      case measure => simp [intOf]; omega
    · obtain rfl : k = zs.length := by omega
      have HR := Lib.hid hr
      clear hr hrow hbel hmk
      go_wp2
      go_ret2
      exact ⟨_, rfl, ⟨IntsAt.of_fill HR.out, fun _ b' o' e => by cases e; exact Nat.le_refl _⟩, hb⟩
set_option maxRecDepth 100000 in
set_option maxHeartbeats 1600000 in
theorem Pack_muN (A : Option Addr) (zs : List Int) (cap : Nat) (w : World) (hA : IntsAt w w.heap.size .i16 A zs) (hz : Within (-32768) 32767 zs) (h8 : zs.length ≤ 8000) :
    Calls Tryz.prog 137 #[.int .u8 1, .slice A zs.length cap] w fun e w' => ∃ A' : Option Addr, e = .returned (.tuple #[.slice A' zs.length zs.length, .int .u8 0]) ∧
      IntsNew w.heap.size w' .u8 A' (zs.map Cmp.muZ) ∧ Below w.heap.size w w' := by
  have hmk := run_make_row' (P := Tryz.prog) 22 5 (.int .u8 0) 1 Tryz.underlying22 cmp_u8 rfl .i64 .i64 zs.length (by omega) (by omega) w
  obtain ⟨W1, hW1⟩ : ∃ W1, W1 = w.alloc (.cells (madeCells #[.int .u8 0] zs.length) 5) := ⟨_, rfl⟩
  have hrow : W1.rowIs w.heap.size 5 zs.length (fun _ => .int .u8 0) := by rw [hW1]; exact World.rowIs_made w _ _ _
  have hbel : Below w.heap.size w W1 := by rw [hW1]; exact (Below.refl _ _).alloc (Nat.le_refl _) _
  rw [← hW1] at hmk
  clear hW1
  go_enter Tryz.func137, Tryz.ntmps137
  go_wp2_with (go_at_call 161; refine (find_mu _).mono ?_; rintro e w' ⟨rfl, rfl⟩)
  go_loopw [25] (fun i wr => ∃ k : Nat, k ≤ zs.length ∧ i = .int .i64 k ∧ wr.rowIs w.heap.size 5 zs.length (fun j => .int .u8 (if j < k then Cmp.muZ (zs.getD j 0) else 0)) ∧ Below w.heap.size w wr)
    (fun i _ => zs.length - (intOf i).toNat)
  case atStart => exact ⟨0, Nat.zero_le _, rfl, hrow.congr (by simp), hbel⟩
  case round =>
    obtain ⟨k, hk, rfl, hr, hb⟩ := hrel
    by_cases hlt : k < zs.length
    · obtain ⟨b, off, rfl, hbB, hcell⟩ := hA (by omega)
      have hzk := hz.at hlt
      have hck : wr.cell? ⟨b, off + k, none⟩ = some (.int .i16 (zs.getD k 0)) := (hb.cell (p := ⟨b, off + k, none⟩) hbB).trans (hcell k hlt)
      have hcr : wr.cell? ⟨w.heap.size, k, none⟩ = some (.int .u8 0) := by rw [hr.cell hlt]; simp
      have hfr := hr.frozen k
      have hrl := hr.lt
      have hn1 : b ≠ w.heap.size := by omega
      have hn2 : w.heap.size ≠ b := by omega
      have HR := Lib.hid hr
      have hbs := hb.size
      clear hr hcell hrow hbel hmk
      generalize hzz : zs.getD k 0 = z at hck hzk
      have HZ := Lib.hid hzz
      clear hzz
      obtain ⟨hz1, hz2⟩ := hzk
      have hi0 : (0 : Int) ≤ (k : Int) := by omega
      have hi1 : (k : Int) < (zs.length : Int) := by omega
      have hna := nil_mucode
      have hme := met_mucode
      go_wp2
      go_region_held3 (fun w' => w'.cell? ⟨b, off + k, none⟩ = some (.int .i16 z)) (go_keep)
        (first | (go_at_call 182; refine (mucode _ _ (by omega) (by omega)).mono ?_; rintro e w' ⟨rfl, rfl⟩) | fail)
      go_wp2
      go_roundw
      case rel =>
        refine ⟨k + 1, by omega, by go_num, ?_, ((hb.setCell (Nat.le_refl _) _).alloc (by simpa using hbs) _).drew⟩
        rw [← HZ.out]
        exact (rowIs_fill (g := fun j => Cmp.muZ (zs.getD j 0)) HR.out).alloc _
      case measure => simp [intOf]; omega
    · obtain rfl : k = zs.length := by omega
      have HR := Lib.hid hr
      clear hr hrow hbel hmk
      go_wp2
      go_ret2
      exact ⟨_, rfl, ⟨IntsAt.of_fill HR.out, fun _ b' o' e => by cases e; exact Nat.le_refl _⟩, hb⟩

set_option maxRecDepth 100000 in
set_option maxHeartbeats 1600000 in
theorem Pack_aN (A : Option Addr) (zs : List Int) (cap : Nat) (w : World) (hA : IntsAt w w.heap.size .i16 A zs) (hz : Within (-32768) 32767 zs) (h8 : zs.length ≤ 8000) :
    Calls Tryz.prog 137 #[.int .u8 2, .slice A zs.length cap] w fun e w' => ∃ A' : Option Addr, e = .returned (.tuple #[.slice A' zs.length zs.length, .int .u8 0]) ∧
      IntsNew w.heap.size w' .u8 A' (zs.map Cmp.aZ) ∧ Below w.heap.size w w' := by
  have hmk := run_make_row' (P := Tryz.prog) 22 5 (.int .u8 0) 1 Tryz.underlying22 cmp_u8 rfl .i64 .i64 zs.length (by omega) (by omega) w
  obtain ⟨W1, hW1⟩ : ∃ W1, W1 = w.alloc (.cells (madeCells #[.int .u8 0] zs.length) 5) := ⟨_, rfl⟩
  have hrow : W1.rowIs w.heap.size 5 zs.length (fun _ => .int .u8 0) := by rw [hW1]; exact World.rowIs_made w _ _ _
  have hbel : Below w.heap.size w W1 := by rw [hW1]; exact (Below.refl _ _).alloc (Nat.le_refl _) _
  rw [← hW1] at hmk
  clear hW1
  go_enter Tryz.func137, Tryz.ntmps137
  go_wp2_with (go_at_call 161; refine (find_a _).mono ?_; rintro e w' ⟨rfl, rfl⟩)
  go_loopw [25] (fun i wr => ∃ k : Nat, k ≤ zs.length ∧ i = .int .i64 k ∧ wr.rowIs w.heap.size 5 zs.length (fun j => .int .u8 (if j < k then Cmp.aZ (zs.getD j 0) else 0)) ∧ Below w.heap.size w wr)
    (fun i _ => zs.length - (intOf i).toNat)
  case atStart => exact ⟨0, Nat.zero_le _, rfl, hrow.congr (by simp), hbel⟩
  case round =>
    obtain ⟨k, hk, rfl, hr, hb⟩ := hrel
    by_cases hlt : k < zs.length
    · obtain ⟨b, off, rfl, hbB, hcell⟩ := hA (by omega)
      have hzk := hz.at hlt
      have hck : wr.cell? ⟨b, off + k, none⟩ = some (.int .i16 (zs.getD k 0)) := (hb.cell (p := ⟨b, off + k, none⟩) hbB).trans (hcell k hlt)
      have hcr : wr.cell? ⟨w.heap.size, k, none⟩ = some (.int .u8 0) := by rw [hr.cell hlt]; simp
      have hfr := hr.frozen k
      have hrl := hr.lt
      have hn1 : b ≠ w.heap.size := by omega
      have hn2 : w.heap.size ≠ b := by omega
      have HR := Lib.hid hr
      have hbs := hb.size
      clear hr hcell hrow hbel hmk
      generalize hzz : zs.getD k 0 = z at hck hzk
      have HZ := Lib.hid hzz
      clear hzz
      obtain ⟨hz1, hz2⟩ := hzk
      have hi0 : (0 : Int) ≤ (k : Int) := by omega
      have hi1 : (k : Int) < (zs.length : Int) := by omega
      have hna := nil_acode
      have hme := met_acode
      go_wp2
      go_region_held3 (fun w' => w'.cell? ⟨b, off + k, none⟩ = some (.int .i16 z)) (go_keep)
        (first | (go_at_call 187; refine (acode _ _ (by omega) (by omega)).mono ?_; rintro e w' ⟨rfl, rfl⟩) | fail)
      go_wp2
      go_roundw
      case rel =>
        refine ⟨k + 1, by omega, by go_num, ?_, ((hb.setCell (Nat.le_refl _) _).alloc (by simpa using hbs) _).drew⟩
        rw [← HZ.out]
        exact (rowIs_fill (g := fun j => Cmp.aZ (zs.getD j 0)) HR.out).alloc _
      case measure => simp [intOf]; omega
    · obtain rfl : k = zs.length := by omega
      have HR := Lib.hid hr
      clear hr hrow hbel hmk
      go_wp2
      go_ret2
      exact ⟨_, rfl, ⟨IntsAt.of_fill HR.out, fun _ b' o' e => by cases e; exact Nat.le_refl _⟩, hb⟩

end
attribute [local go_sem] setCell_drewN alloc_drewN
section
variable (l s n : Int) (w : World)
def NoiseN (a s : Int) (m : Nat) (w : World) (e : Ending) (w' : World) : Prop :=
  ∃ (A' : Option Addr) (c' : Nat), e = .returned (.tuple #[.slice A' m c', .int .u32 (Ev.seed s m), .int .u8 0]) ∧ IntsNew w.heap.size w' .i16 A' ((List.range m).map fun k => Ev.nsamp a s k) ∧ Below w.heap.size w w'
set_option maxRecDepth 100000 in
set_option maxHeartbeats 800000 in
theorem Noise_okN (m : Nat) (h0 : 0 ≤ l) (h1 : l ≤ 255) (s0 : 0 ≤ s) (s1 : s ≤ 4294967295) (hm : m ≤ 8000) :
    Calls Tryz.prog 155 #[.int .u8 l, .int .u32 s, .int .i64 m] w (NoiseN (Ev.amp (l / 6).toNat) s m w) := by
  obtain ⟨p, hp⟩ := Int.eq_ofNat_of_zero_le (a := l / 6) (by omega)
  have hsh : (32767 : Int) / 2 ^ p = Ev.amp p := Ev.amp_pow ⟨p, by omega⟩
  have hmk := run_make_row' (P := Tryz.prog) 66 93 (.int .i16 0) 2 Tryz.underlying66 Ev.info_i16 rfl .i64 .i64 m (by omega) (by omega) w
  obtain ⟨W1, hW1⟩ : ∃ W1, W1 = w.alloc (.cells (madeCells #[.int .i16 0] m) 93) := ⟨_, rfl⟩
  have hrow : W1.rowIs w.heap.size 93 m (fun _ => .int .i16 0) := by rw [hW1]; exact World.rowIs_made w _ _ _
  have hbel : Below w.heap.size w W1 := by rw [hW1]; exact (Below.refl _ _).alloc (Nat.le_refl _) _
  rw [← hW1] at hmk
  clear hW1
  rw [hp, Int.toNat_natCast]
  have ha := Ev.amp_bd p
  obtain ⟨a0, a1⟩ := ha
  generalize Ev.amp p = a at *
  go_enter Tryz.func155, Tryz.ntmps155
  go_wp2
  go_loopw [1, 24] (fun sd i wr => ∃ k : Nat, k ≤ m ∧ i = .int .i64 k ∧ sd = .int .u32 (Ev.seed s k) ∧ wr.rowIs w.heap.size 93 m (fun j => .int .i16 (if j < k then Ev.nsamp a s j else 0)) ∧ Below w.heap.size w wr) (fun _ i _ => m - (intOf i).toNat)
  case atStart => exact ⟨0, Nat.zero_le _, rfl, rfl, hrow.congr (by simp), hbel⟩
  case round =>
    obtain ⟨k, hk, rfl, rfl, hr, hb⟩ := hrel
    clear hrow hbel hmk
    by_cases hlt : k < m
    · have hcr : wr.cell? ⟨w.heap.size, k, none⟩ = some (.int .i16 0) := by rw [hr.cell hlt]; simp
      have hfr := hr.frozen k
      have hsb := Ev.seed_bd s s0 s1 k
      obtain ⟨b0, b1⟩ := hsb
      have hss : Ev.seed s (k + 1) = (Ev.seed s k * 1103515245 + 12345) % 4294967296 := rfl
      have hns : Ev.nsamp a s k = Ev.seed s (k + 1) / 65536 % (2 * a + 1) - a := rfl
      have hnb := Ev.nsamp_bd a s a0 k
      have HR := Lib.hid hr
      have HSS := Lib.hid hss
      have HNS := Lib.hid hns
      have HNB := Lib.hid hnb
      have hi0 : (0 : Int) ≤ (k : Int) := by omega
      have hi1 : (k : Int) < (m : Int) := by omega
      clear hr hss hns hnb
      generalize Ev.seed s k = x at *
      have hv : IntKind.i16.wrap (wrap64 ((1103515245 * x + 12345) % 4294967296 / 65536 % (2 * a + 1) - a)) = Ev.nsamp a s k := by
        have h1 := HNB.out
        rw [HNS.out, HSS.out, show x * 1103515245 + 12345 = 1103515245 * x + 12345 by omega] at h1 ⊢
        rw [IntWalk.wrap64_in _ ⟨by omega, by omega⟩]
        simp only [IntKind.wrap, IntKind.bits, IntKind.signed]
        simp
        omega
      have HV := Lib.hid hv
      clear hv
      go_wp2
      go_roundw
      case rel =>
        refine ⟨k + 1, by omega, by go_num, ?_, ?_, hb.setCell (Nat.le_refl _) _⟩
        · rw [HSS.out]; congr 1; omega
        · rw [HV.out]; exact rowIs_fill (g := fun j => Ev.nsamp a s j) HR.out
      case measure => simp [intOf]; omega
    · obtain rfl : k = m := by omega
      have HR := Lib.hid hr
      clear hr
      go_wp2
      go_ret3
      refine ⟨_, _, rfl, ⟨?_, fun _ b' o' e => by cases e; exact Nat.le_refl _⟩, hb⟩
      refine IntsAt.of_row HR.out (by simp) fun i hi => ?_
      have hi' : i < k := by simpa using hi
      rw [if_pos hi']
      simp [List.getD_eq_getElem?_getD, List.getElem?_range hi']
end
section
set_option maxRecDepth 100000 in
set_option maxHeartbeats 12800000 in
theorem Unpack_okN (n : Nat) (A : Option Addr) (bs : List Int) (cap : Nat) (w : World) (hn : n ≤ 8000) (hn1 : 0 < n) (hA : IntsAt w w.heap.size .u8 A bs) (hz : Within 0 255 bs) (hok : Dlt.okB bs n) (hcap : bs.length ≤ cap) :
    Calls Tryz.prog 94 #[.slice A bs.length cap, .int .i64 n] w fun e w' => ∃ (A' : Option Addr) (c' : Nat), e = .returned (.tuple #[.slice A' n c', .agg #[.int .i64 (Dlt.dAt (Dlt.headS bs) bs n).1, .int .i64 (Dlt.dAt (Dlt.headS bs) bs n).2], .int .u8 0]) ∧
      IntsNew w.heap.size w' .i16 A' (Dlt.unpackL bs n) ∧ Below w.heap.size w w' := by
  have HVAL := Lib.hid (Dlt.headS_valid bs n hok hz)
  obtain ⟨ok1, ok2, ok3, ok4⟩ := hok
  obtain ⟨b, off, rfl, hbB, hcell⟩ := hA (by omega)
  have c0 := hcell 0 (by omega)
  have c1 := hcell 1 (by omega)
  have c2 := hcell 2 (by omega)
  have c3 := hcell 3 (by omega)
  have cl := hcell (bs.length - 1) (by omega)
  obtain ⟨l0, l1⟩ := hz.at (i := bs.length - 1) (by omega)
  obtain ⟨a0, a1⟩ := hz.at (i := 0) (by omega)
  obtain ⟨b0, b1⟩ := hz.at (i := 1) (by omega)
  obtain ⟨g0, g1⟩ := hz.at (i := 2) (by omega)
  have hb' : b ≠ w.heap.size := by omega
  have hb'' : b ≠ w.heap.size + 1 := by omega
  generalize hx0 : bs.getD 0 0 = x0 at *
  generalize hx1 : bs.getD 1 0 = x1 at *
  generalize hx2 : bs.getD 2 0 = x2 at *
  generalize hx3 : bs.getD 3 0 = x3 at *
  have HX3 := Lib.hid (show bs.getD 3 0 = 0 by rw [hx3, ok3])
  subst ok3
  generalize bs.getD (bs.length - 1) 0 = xl at *
  have HX0 := Lib.hid hx0
  have HX1 := Lib.hid hx1
  have HX2 := Lib.hid hx2
  have HCELL := Lib.hid hcell
  have HZ := Lib.hid hz
  generalize hM : bs.length = M at *
  have HMM := Lib.hid hM
  clear hA hz hcell hx0 hx1 hx2 hM
  have hM4 : (4 : Int) ≤ (M : Int) := by omega
  have hM2 : (2 : Int) < (M : Int) := by omega
  have hM3 : (3 : Int) < (M : Int) := by omega
  have hM1 : (1 : Int) < (M : Int) := by omega
  have hM0 : (0 : Int) < (M : Int) := by omega
  have hl0 : (0 : Int) ≤ (M : Int) - 1 := by omega
  have hl1 : (M : Int) - 1 < (M : Int) := by omega
  have hl2 : ((M : Int) - 1).toNat = M - 1 := by omega
  have cc0 : (w.alloc (.cells #[.int .i64 0, .int .i64 0] 24)).cell? ⟨b, off, none⟩ = some (.int .u8 x0) := (World.cell?_alloc_lt w _ _ hbB).trans c0
  have cc1 : (w.alloc (.cells #[.int .i64 0, .int .i64 0] 24)).cell? ⟨b, off + 1, none⟩ = some (.int .u8 x1) := (World.cell?_alloc_lt w _ _ hbB).trans c1
  have cc2 : (w.alloc (.cells #[.int .i64 0, .int .i64 0] 24)).cell? ⟨b, off + 2, none⟩ = some (.int .u8 x2) := (World.cell?_alloc_lt w _ _ hbB).trans c2
  have cc3 : (w.alloc (.cells #[.int .i64 0, .int .i64 0] 24)).cell? ⟨b, off + 3, none⟩ = some (.int .u8 0) := (World.cell?_alloc_lt w _ _ hbB).trans c3
  have ccl : (w.alloc (.cells #[.int .i64 0, .int .i64 0] 24)).cell? ⟨b, off + (M - 1), none⟩ = some (.int .u8 xl) := (World.cell?_alloc_lt w _ _ hbB).trans cl
  have cd0 : ((w.alloc (.cells #[.int .i64 0, .int .i64 0] 24)).alloc (.cells #[.int .i64 0, .int .i64 0] 24)).cell? ⟨b, off, none⟩ = some (.int .u8 x0) := (World.cell?_alloc_lt _ _ _ (by simp; omega)).trans ((World.cell?_alloc_lt w _ _ hbB).trans c0)
  have cd1 : ((w.alloc (.cells #[.int .i64 0, .int .i64 0] 24)).alloc (.cells #[.int .i64 0, .int .i64 0] 24)).cell? ⟨b, off + 1, none⟩ = some (.int .u8 x1) := (World.cell?_alloc_lt _ _ _ (by simp; omega)).trans ((World.cell?_alloc_lt w _ _ hbB).trans c1)
  have cd2 : ((w.alloc (.cells #[.int .i64 0, .int .i64 0] 24)).alloc (.cells #[.int .i64 0, .int .i64 0] 24)).cell? ⟨b, off + 2, none⟩ = some (.int .u8 x2) := (World.cell?_alloc_lt _ _ _ (by simp; omega)).trans ((World.cell?_alloc_lt w _ _ hbB).trans c2)
  clear c0 c1 c2 c3 cl
  obtain ⟨N, hN⟩ : ∃ N, N = 4 + (n + 1) / 2 := ⟨_, rfl⟩
  obtain rfl : M = N := by omega
  have HS := Lib.hid hN.symm
  have h5 : 5 ≤ M := by omega
  have h5' : M ≤ 4005 := by omega
  clear hN ok1
  have hpar : (n : Int) % 2 = 0 ∨ ((n : Int) % 2 = 1 ∧ (xl % 16 != 0) = false) := by
    by_cases h : n % 2 = 1
    · exact .inr ⟨by omega, by have := ok4 h; simp [this]⟩
    · exact .inl (by omega)
  clear ok4
  go_enter Tryz.func94, Tryz.ntmps94
  go_wp2_with fail
  refine (blockSize_any n _ hn).mono ?_
  rintro e w' ⟨rfl, rfl⟩
  rw [HS.out]
  go_wp2_with fail
  refine (blockSize_any n _ hn).mono ?_
  rintro e w' ⟨rfl, rfl⟩
  rw [HS.out]
  have HI2 := Lib.hid szA_info
  have hz89 := zero89
  rcases hpar with hp | ⟨hp, hq⟩
  all_goals
    go_wp2_with fail
    go_region
    go_wp2_with fail
    have hhw := head_word x0 x1 a0 a1 b0 b1
    generalize wrap64 (IntKind.i16.wrap (bits BinOp.or IntKind.u16 (x0 * 256) x1)) = V0 at *
    refine (sizes_any _).mono ?_
    rintro e w3 ⟨rfl, hb3⟩
    have b0 : Blk ((w.alloc (.cells #[.int .i64 0, .int .i64 0] 24)).alloc (.cells #[.int .i64 V0, .int .i64 x2] 24)).drew w.heap.size 24 #[.int .i64 0, .int .i64 0] := ((Blk.new w _ _).alloc _).drew
    have b1 : Blk ((w.alloc (.cells #[.int .i64 0, .int .i64 0] 24)).alloc (.cells #[.int .i64 V0, .int .i64 x2] 24)).drew (w.heap.size + 1) 24 #[.int .i64 V0, .int .i64 x2] := by
      have h := Blk.new (w.alloc (.cells #[.int .i64 0, .int .i64 0] 24)) 24 #[.int .i64 V0, .int .i64 x2]
      rw [show (w.alloc (.cells #[.int .i64 0, .int .i64 0] 24)).heap.size = w.heap.size + 1 by simp] at h
      exact h.drew
    have hbw : Below w.heap.size w ((w.alloc (.cells #[.int .i64 0, .int .i64 0] 24)).alloc (.cells #[.int .i64 V0, .int .i64 x2] 24)).drew := (((Below.refl _ w).alloc (Nat.le_refl _) _).alloc (by simp) _).drew
    have hs3 : w.heap.size + 1 + 1 ≤ w3.heap.size := by have := hb3.size; simpa using this
    have HB0 := Lib.hid ((b0.later hb3).later (laid_below w3))
    have HB1 := Lib.hid ((b1.later hb3).later (laid_below w3))
    have HBW := Lib.hid ((hbw.trans (hb3.mono hbw.size)).trans ((laid_below w3).mono (by omega)))
    have HST := Lib.hid (laid_steps w3)
    have HT := Lib.hid (laid_there w3)
    have HSZ := Lib.hid (laid_size w3)
    have hmk := run_make_row' (P := Tryz.prog) 66 93 (.int .i16 0) 2 Tryz.underlying66 del_i16 rfl .i64 .i64 n (by omega) (by omega) (laidW w3)
    clear b0 b1 hbw hb3 cc0 cc1 cc2 cc3 ccl cd0 cd1 cd2
    go_wp2_with (first
      | (refine wpList_store_mid rfl 198 (.tmp 9) (.tmp 82) (by rfl) w3.heap.size 0 Dlt.szA (by rfl) (by rfl) HT.out HI2.out szA_one ?_; change wpList _ _ _ _ _ (laidW w3); generalize laidW w3 = W4 at *; generalize w3.heap.size = gt at *; clear hz89 HT HI2)
      | fail)
    have HH : Hid (Dlt.headS bs = (V0, x2)) := Lib.hid (by unfold Dlt.headS; rw [HX0.out, HX1.out, HX2.out, hhw])
    have HSV0 : Hid (Dlt.valid V0 x2 = true) := Lib.hid (by have h := HVAL.out; rw [HH.out] at h; exact h)
    generalize hr : W4.heap.size = r at *
    have hs4 : w.heap.size + 1 + 1 ≤ r := by have := HSZ.out; omega
    have HSZ' := Lib.hid HSZ.out
    clear hmk hhw
    go_loopw [86] (fun q wr => ∃ k : Nat, k ≤ n ∧ q = .int .i64 k ∧ Blk wr w.heap.size 24 #[.int .i64 0, .int .i64 0] ∧
        Blk wr (w.heap.size + 1) 24 #[.int .i64 (Dlt.dAt (V0, x2) bs k).1, .int .i64 (Dlt.dAt (V0, x2) bs k).2] ∧
        wr.rowIs r 93 n (fun j => .int .i16 (if j < k then (Dlt.dAt (V0, x2) bs (j + 1)).1 else 0)) ∧ StepsAt wr gt ∧ Below w.heap.size w wr)
      (fun q _ => n - (intOf q).toNat)
    case atStart =>
      refine ⟨0, Nat.zero_le _, rfl, HB0.out.alloc _, HB1.out.alloc _, ?_, ?_, ?_⟩
      · have h := World.rowIs_made W4 (.int .i16 0) n 93
        rw [hr] at h
        exact h.congr fun j _ => by simp
      · exact HST.out.below ((Below.refl _ _).alloc (Nat.le_refl _) _)
      · exact HBW.out.alloc (by omega) _
    case round =>
      obtain ⟨k, hk, rfl, B0, B1, R, hst, hb⟩ := hrel
      clear HB0 HB1 HST HBW
      have HSV := Lib.hid (Dlt.dAt_valid (V0, x2) HSV0.out bs k)
      have HNX : Hid (Dlt.dAt (V0, x2) bs (k + 1) = (Dlt.nextV (Dlt.dAt (V0, x2) bs k).1 (Dlt.dAt (V0, x2) bs k).2 (Dlt.nib bs k), Dlt.nextI (Dlt.dAt (V0, x2) bs k).2 (Dlt.nib bs k))) := Lib.hid rfl
      by_cases hlt : k < n
      · have hM6 : 4 + k / 2 < M := by have := HS.out; omega
        have hck : wr.cell? ⟨b, off + 4 + k / 2, none⟩ = some (.int .u8 (bs.getD (4 + k / 2) 0)) := by
          rw [Nat.add_assoc]
          exact (hb.cell (p := ⟨b, off + (4 + k / 2), none⟩) hbB).trans (HCELL.out _ hM6)
        have hzk := HZ.out.at (i := 4 + k / 2) (by rw [HMM.out]; exact hM6)
        have hnib : Dlt.nib bs k = if k % 2 = 0 then bs.getD (4 + k / 2) 0 / 16 else bs.getD (4 + k / 2) 0 % 16 := rfl
        generalize bs.getD (4 + k / 2) 0 = x at hck hzk hnib
        obtain ⟨z0, z1⟩ := hzk
        generalize hc : Dlt.nib bs k = c at *
        generalize hV : (Dlt.dAt (V0, x2) bs k).1 = V at *
        generalize hI : (Dlt.dAt (V0, x2) bs k).2 = I at *
        have HC := Lib.hid hnib
        have c0 := B1.at 0 _ rfl
        have c1 := B1.at 1 _ rfl
        have f0 := B1.frozen 0
        have f1 := B1.frozen 1
        have HB0 := Lib.hid B0
        have HB1 := Lib.hid B1
        have HR := Lib.hid R
        have HST := Lib.hid hst
        have HB := Lib.hid hb
        have hn0 : (0 : Int) ≤ (k : Int) / 2 := by omega
        have hn2 : (k : Int) / 2 < ((M - 4 : Nat) : Int) := by omega
        have hk0 : (0 : Int) ≤ (k : Int) := by omega
        have hk1 : (k : Int) < (n : Int) := by omega
        clear B0 B1 R hst hb hV hI hc hnib
        by_cases hpar : k % 2 = 0
        · have hpar' : (k : Int) % 2 = 0 := by omega
          have hce : x / 16 % 16 = c := by have := HC.out; rw [if_pos hpar] at this; omega
          have HCE := Lib.hid hce
          have z2 : 0 ≤ c := by omega
          have z3 : c ≤ 15 := by omega
          clear hpar hce
          go_wp2_with fail
          rw [HCE.out]
          refine (decode_any gt V I c _ HST.out HSV.out z2 z3).mono ?_
          rintro e w6 ⟨rfl, hb6⟩
          have HB06 := Lib.hid (HB0.out.later hb6)
          have HB16 := Lib.hid (HB1.out.later hb6)
          have HR6 := Lib.hid (rowIs_below HR.out hb6 HR.out.lt)
          have HST6 := Lib.hid (HST.out.below hb6)
          have HBW6 := Lib.hid (HB.out.trans (hb6.mono HB.out.size))
          clear hb6 HB0 HB1 HR HST HB c0 c1 f0 f1 hck
          have c0 := HB16.out.at 0 _ rfl
          have c1 := HB16.out.at 1 _ rfl
          have f0 := HB16.out.frozen 0
          have f1 := HB16.out.frozen 1
          have hrc := HR6.out.cell (i := k) (by omega)
          have hrf := HR6.out.frozen k
          have hd1 : w.heap.size + 1 ≠ r := by omega
          have hd2 : r ≠ w.heap.size + 1 := by omega
          obtain ⟨nv0, nv1⟩ := Dlt.nextV_bd V I c
          go_wp2
          go_roundw
          case rel =>
            have h := unpack_round hs3 HSZ'.out HB06.out HB16.out HR6.out HST6.out HBW6.out HNX.out
            exact ⟨k + 1, by omega, by go_num, h⟩
          case measure => simp [intOf]; omega
        · have hpar' : (k : Int) % 2 = 1 := by omega
          have hce : x % 16 = c := by have := HC.out; rw [if_neg hpar] at this; omega
          have HCE := Lib.hid hce
          have z2 : 0 ≤ c := by omega
          have z3 : c ≤ 15 := by omega
          clear hpar hce
          go_wp2_with fail
          rw [HCE.out]
          refine (decode_any gt V I c _ HST.out HSV.out z2 z3).mono ?_
          rintro e w6 ⟨rfl, hb6⟩
          have HB06 := Lib.hid (HB0.out.later hb6)
          have HB16 := Lib.hid (HB1.out.later hb6)
          have HR6 := Lib.hid (rowIs_below HR.out hb6 HR.out.lt)
          have HST6 := Lib.hid (HST.out.below hb6)
          have HBW6 := Lib.hid (HB.out.trans (hb6.mono HB.out.size))
          clear hb6 HB0 HB1 HR HST HB c0 c1 f0 f1 hck
          have c0 := HB16.out.at 0 _ rfl
          have c1 := HB16.out.at 1 _ rfl
          have f0 := HB16.out.frozen 0
          have f1 := HB16.out.frozen 1
          have hrc := HR6.out.cell (i := k) (by omega)
          have hrf := HR6.out.frozen k
          have hd1 : w.heap.size + 1 ≠ r := by omega
          have hd2 : r ≠ w.heap.size + 1 := by omega
          obtain ⟨nv0, nv1⟩ := Dlt.nextV_bd V I c
          go_wp2
          go_roundw
          case rel =>
            have h := unpack_round hs3 HSZ'.out HB06.out HB16.out HR6.out HST6.out HBW6.out HNX.out
            exact ⟨k + 1, by omega, by go_num, h⟩
          case measure => simp [intOf]; omega
      · obtain rfl : k = n := by omega
        have HB0 := Lib.hid B0
        have HB1 := Lib.hid B1
        have HR := Lib.hid R
        have HB := Lib.hid hb
        have HHH := Lib.hid (show Dlt.headS bs = (V0, x2) from HH.out)
        generalize hV : (Dlt.dAt (V0, x2) bs k).1 = V at *
        generalize hI : (Dlt.dAt (V0, x2) bs k).2 = I at *
        have HV := Lib.hid hV
        have HI := Lib.hid hI
        have c0 := B1.at 0 _ rfl
        have c1 := B1.at 1 _ rfl
        have d0 := B0.at 0 _ rfl
        have d1 := B0.at 1 _ rfl
        have f0 := B0.frozen 0
        have f1 := B0.frozen 1
        clear B0 B1 R hst hb hV hI
        go_wp2
        go_region
        go_wp2
        refine bodyPost_ret (v := .tuple #[.slice (some ⟨r, 0, none⟩) k k, .agg #[.int .i64 V, .int .i64 I], .int .u8 0]) (by simp [results, Tryz.results94, go_sem, d0, d1]) rfl ?_
        refine ⟨some ⟨r, 0, none⟩, k, by rw [HHH.out, HV.out, HI.out], ?_, ?_⟩
        · refine ⟨?_, fun _ b' o' e => by cases e; omega⟩
          refine IntsAt.of_row (((HR.out.setOther (by simp; omega) _).setOther (by simp; omega) _).drew) (by simp [Dlt.unpackL]) fun j hj => ?_
          have hj' : j < k := by simpa [Dlt.unpackL] using hj
          rw [if_pos hj', Dlt.unpackL, HHH.out]
          simp [List.getD_eq_getElem?_getD, List.getElem?_range hj']
        · exact ((HB.out.setCell (by simp) _).setCell (by simp) _).drew
end
end Go.Proofs.YtahbecinkciahaaGreat
/- Layer 32: the codecs' decoders, called by value. -/
namespace Go.Proofs.YtahbecinkciahaaGreat
open Go.RowKit
set_option linter.unusedVariables false
set_option linter.unusedSimpArgs false
attribute [local go_sem ↓] run_min_plain run_max_plain
attribute [local go_sem] setCell_drewN alloc_drewN
/-- what a decoder leaves -/
def DecR (zs : List Int) (er : Int) (w : World) (e : Ending) (w' : World) : Prop := ∃ (A' : Option Addr) (c' : Nat), e = .returned (.tuple #[.slice A' zs.length c', .int .u8 er]) ∧ IntsNew w.heap.size w' .i16 A' zs ∧ Below w.heap.size w w'
theorem Unpack_anyN (A : Option Addr) (bs : List Int) (cap : Nat) (n : Int) (w : World) (hA : IntsAt w w.heap.size .u8 A bs) (hz : Within 0 255 bs) (hcap : bs.length ≤ cap) (hmax : bs.length ≤ maxLen) :
    Calls Tryz.prog 94 #[.slice A bs.length cap, .int .i64 n] w fun e w' => ∃ (A' : Option Addr) (c' : Nat), e = .returned (.tuple #[.slice A' (Dlt.unpR bs n).1.length c', .agg #[.int .i64 (Dlt.unpR bs n).2.1, .int .i64 (Dlt.unpR bs n).2.2.1], .int .u8 (Dlt.unpR bs n).2.2.2]) ∧
      IntsNew w.heap.size w' .i16 A' (Dlt.unpR bs n).1 ∧ Below w.heap.size w w' := by
  unfold Dlt.unpR
  by_cases hr : n < 0 ∨ 8000 < n
  · rw [if_pos hr]
    refine (Unpack_range n A bs.length cap w hr).mono ?_
    rintro e w' ⟨rfl, hb⟩
    exact ⟨none, 0, rfl, IntsNew.nil, hb⟩
  · rw [if_neg hr]
    obtain ⟨m, rfl⟩ := Int.eq_ofNat_of_zero_le (a := n) (by omega)
    rw [Int.toNat_natCast]
    by_cases hs : bs.length < 4 + (m + 1) / 2
    · rw [if_pos hs]
      refine (Unpack_short m A bs.length cap w (by omega) hs).mono ?_
      rintro e w' ⟨rfl, hb⟩
      exact ⟨none, 0, rfl, IntsNew.nil, hb⟩
    · rw [if_neg hs]
      by_cases hk : Dlt.okB bs m
      · rw [if_pos hk]
        rcases Nat.eq_zero_or_pos m with h0 | h0
        · subst h0
          refine (Unpack_zero A bs cap w hA hz hk hcap).mono ?_
          rintro e w' ⟨A', c', rfl, h, hb⟩
          exact ⟨A', c', rfl, ⟨h, fun h0 => absurd h0 (by simp [Dlt.unpackL])⟩, hb⟩
        · refine (Unpack_okN m A bs cap w (by omega) h0 hA hz hk hcap).mono ?_
          rintro e w' ⟨A', c', rfl, h⟩
          exact ⟨A', c', by rw [Dlt.unpackL_len], h⟩
      · rw [if_neg hk]
        refine (Unpack_syntax m A bs cap w (by omega) hA hz (by omega) hk hmax).mono ?_
        rintro e w' ⟨rfl, hb⟩
        exact ⟨none, 0, rfl, IntsNew.nil, hb⟩
set_option maxRecDepth 100000 in
set_option maxHeartbeats 12800000 in
theorem dec_mu (n : Int) (A : Option Addr) (bs : List Int) (c b : Nat) (w : World) (hA : IntsAt w w.heap.size .u8 A bs) (hz : Within 0 255 bs) (h8 : bs.length ≤ 8000) (hb : Blk w b 5 #[.int .u8 1]) : Calls Tryz.prog 138 #[.slice A bs.length c, .int .i64 n, .pointer (some ⟨b, 0, none⟩)] w (DecR (bs.map Cmp.fromMuZ) 0 w) := by
  have k1 := Lib.hid fun (W : World) hW => Unpack_muN A bs c W hW hz h8
  have IA := Lib.hid hA
  have BB := Lib.hid hb
  have hlt := hb.lt
  clear hA hb hz
  go_enter Tryz.func138, Tryz.ntmps138
  have d0 := BB.out.at 0 _ rfl
  go_wp2_with fail
  refine (k1.out _ IA.out).mono ?_
  rintro e w1 ⟨A1, rfl, hI, hb1⟩
  clear d0
  go_wp2_with fail
  exact bodyPost_ret (v := .tuple #[.slice A1 bs.length bs.length, .int .u8 0]) (by simp [results, Tryz.results138, go_sem]) rfl ⟨A1, bs.length, by rw [List.length_map], hI, hb1⟩
set_option maxRecDepth 100000 in
set_option maxHeartbeats 12800000 in
theorem dec_a (n : Int) (A : Option Addr) (bs : List Int) (c b : Nat) (w : World) (hA : IntsAt w w.heap.size .u8 A bs) (hz : Within 0 255 bs) (h8 : bs.length ≤ 8000) (hb : Blk w b 5 #[.int .u8 2]) : Calls Tryz.prog 138 #[.slice A bs.length c, .int .i64 n, .pointer (some ⟨b, 0, none⟩)] w (DecR (bs.map Cmp.fromAZ) 0 w) := by
  have k1 := Lib.hid fun (W : World) hW => Unpack_aN A bs c W hW hz h8
  have IA := Lib.hid hA
  have BB := Lib.hid hb
  have hlt := hb.lt
  clear hA hb hz
  go_enter Tryz.func138, Tryz.ntmps138
  have d0 := BB.out.at 0 _ rfl
  go_wp2_with fail
  refine (k1.out _ IA.out).mono ?_
  rintro e w1 ⟨A1, rfl, hI, hb1⟩
  clear d0
  go_wp2_with fail
  exact bodyPost_ret (v := .tuple #[.slice A1 bs.length bs.length, .int .u8 0]) (by simp [results, Tryz.results138, go_sem]) rfl ⟨A1, bs.length, by rw [List.length_map], hI, hb1⟩
set_option maxRecDepth 100000 in
set_option maxHeartbeats 12800000 in
theorem dec_del (n : Int) (A : Option Addr) (bs : List Int) (c : Nat) (w : World) (hA : IntsAt w w.heap.size .u8 A bs) (hz : Within 0 255 bs) (hc : bs.length ≤ c) (hm : bs.length ≤ maxLen) : Calls Tryz.prog 93 #[.slice A bs.length c, .int .i64 n] w (DecR (Dlt.unpR bs n).1 (Dlt.unpR bs n).2.2.2 w) := by
  have k1 := Lib.hid fun (W : World) hW => Unpack_anyN A bs c n W hW hz hc hm
  generalize Dlt.unpR bs n = R at *
  obtain ⟨R1, R2, R3, R4⟩ := R
  have IA := Lib.hid hA
  clear hA hz
  go_enter Tryz.func93, Tryz.ntmps93
  go_wp2_with fail
  refine (k1.out _ IA.out).mono ?_
  rintro e w1 ⟨A1, c1, rfl, hI, hb1⟩
  have HI := Lib.hid hI
  have U := Lib.hid hb1
  clear hI hb1
  go_wp2_with fail
  go_ret2
  exact ⟨A1, c1, rfl, HI.out.push _, Bel.push U.out _⟩
end Go.Proofs.YtahbecinkciahaaGreat
/- Layer 32: the codecs' encoders, called by value. -/
namespace Go.Proofs.YtahbecinkciahaaGreat
open Go.RowKit
set_option linter.unusedVariables false
set_option linter.unusedSimpArgs false
attribute [local go_sem ↓] run_min_plain run_max_plain
attribute [local go_sem] setCell_drewN alloc_drewN
/-- what an encoder leaves -/
def EncR (bs : List Int) (s : Int × Int) (w : World) (e : Ending) (w' : World) : Prop := ∃ (A' : Option Addr) (c' : Nat), e = .returned (.tuple #[.slice A' bs.length c', .agg #[.int .i64 s.1, .int .i64 s.2], .int .u8 0]) ∧ IntsNew w.heap.size w' .u8 A' bs ∧ Below w.heap.size w w'
set_option maxRecDepth 100000 in
set_option maxHeartbeats 12800000 in
theorem enc_mu (v i : Int) (A : Option Addr) (zs : List Int) (c b : Nat) (w : World) (hA : IntsAt w w.heap.size .i16 A zs) (hz : Within (-32768) 32767 zs) (h8 : zs.length ≤ 8000) (hb : Blk w b 5 #[.int .u8 1]) : Calls Tryz.prog 136 #[.agg #[.int .i64 v, .int .i64 i], .slice A zs.length c, .pointer (some ⟨b, 0, none⟩)] w (EncR (zs.map Cmp.muZ) (v, i) w) := by
  have k1 := Lib.hid fun (W : World) hW => Pack_muN A zs c W hW hz h8
  have U0 := Lib.hid (((Bel.refl w).push (.cells #[.int .i64 v, .int .i64 i] 24)).push (.cells #[.int .i64 0, .int .i64 0] 24))
  have BS := Lib.hid ((Blk.new w 24 #[.int .i64 v, .int .i64 i]).push (.cells #[.int .i64 0, .int .i64 0] 24))
  have BR := Lib.hid (Blk.new1 w (.cells #[.int .i64 v, .int .i64 i] 24) 24 #[.int .i64 0, .int .i64 0])
  have IA := Lib.hid ((hA.push (.cells #[.int .i64 v, .int .i64 i] 24)).push (.cells #[.int .i64 0, .int .i64 0] 24))
  have BB := Lib.hid ((hb.push (.cells #[.int .i64 v, .int .i64 i] 24)).push (.cells #[.int .i64 0, .int .i64 0] 24))
  have hlt := hb.lt
  clear hA hb hz
  go_enter Tryz.func136, Tryz.ntmps136
  have d0 := BB.out.at 0 _ rfl
  go_wp2_with fail
  refine (k1.out _ IA.out).mono ?_
  rintro e w1 ⟨A1, rfl, hI, hb1⟩
  have U1 := Lib.hid (U0.out.later hb1)
  have BS1 := Lib.hid (BS.out.later hb1)
  have BR1 := Lib.hid (BR.out.later hb1)
  have HI := Lib.hid hI
  clear hb1 hI d0
  have c0 := BS1.out.at 0 _ rfl
  have c1 := BS1.out.at 1 _ rfl
  have r0 := BR1.out.at 0 _ rfl
  have r1 := BR1.out.at 1 _ rfl
  have rz := BR1.out.frozen
  go_upto_region 2 with fail
  go_region
  have RF := BR1.out.set_ 0 (.int .i64 v)
  have RG := RF.set_ 1 (.int .i64 i)
  have q1 := RF.at 1 _ rfl
  have RI : IntsNew w.heap.size ((w1.setCell ⟨w.heap.size + 1, 0, none⟩ (.int .i64 v)).setCell ⟨w.heap.size + 1, 1, none⟩ (.int .i64 i)) .u8 A1 _ := ((HI.out.setCell (p := ⟨w.heap.size + 1, 0, none⟩) (by simp) (.int .i64 v)).setCell (p := ⟨w.heap.size + 1, 1, none⟩) (by simp) (.int .i64 i)).less (by simp; omega)
  have UF : Bel w ((w1.setCell ⟨w.heap.size + 1, 0, none⟩ (.int .i64 v)).setCell ⟨w.heap.size + 1, 1, none⟩ (.int .i64 i)) := below_set_old (below_set_old U1.out (by simp) _) (by simp) _
  go_wp2_with fail
  refine bodyPost_ret (v := .tuple #[.slice A1 zs.length zs.length, .agg #[.int .i64 v, .int .i64 i], .int .u8 0]) (res_tct Tryz.results136 rfl rfl (run_loadVar_row (P := Tryz.prog) _ _ _ _ _ _ _ RG.drew Tryz.underlying24 rfl (by kernel_rfl)) rfl) rfl ⟨A1, zs.length, by rw [List.length_map], ?_, UF.drew⟩
  exact RI
set_option maxRecDepth 100000 in
set_option maxHeartbeats 12800000 in
theorem enc_a (v i : Int) (A : Option Addr) (zs : List Int) (c b : Nat) (w : World) (hA : IntsAt w w.heap.size .i16 A zs) (hz : Within (-32768) 32767 zs) (h8 : zs.length ≤ 8000) (hb : Blk w b 5 #[.int .u8 2]) : Calls Tryz.prog 136 #[.agg #[.int .i64 v, .int .i64 i], .slice A zs.length c, .pointer (some ⟨b, 0, none⟩)] w (EncR (zs.map Cmp.aZ) (v, i) w) := by
  have k1 := Lib.hid fun (W : World) hW => Pack_aN A zs c W hW hz h8
  have U0 := Lib.hid (((Bel.refl w).push (.cells #[.int .i64 v, .int .i64 i] 24)).push (.cells #[.int .i64 0, .int .i64 0] 24))
  have BS := Lib.hid ((Blk.new w 24 #[.int .i64 v, .int .i64 i]).push (.cells #[.int .i64 0, .int .i64 0] 24))
  have BR := Lib.hid (Blk.new1 w (.cells #[.int .i64 v, .int .i64 i] 24) 24 #[.int .i64 0, .int .i64 0])
  have IA := Lib.hid ((hA.push (.cells #[.int .i64 v, .int .i64 i] 24)).push (.cells #[.int .i64 0, .int .i64 0] 24))
  have BB := Lib.hid ((hb.push (.cells #[.int .i64 v, .int .i64 i] 24)).push (.cells #[.int .i64 0, .int .i64 0] 24))
  have hlt := hb.lt
  clear hA hb hz
  go_enter Tryz.func136, Tryz.ntmps136
  have d0 := BB.out.at 0 _ rfl
  go_wp2_with fail
  refine (k1.out _ IA.out).mono ?_
  rintro e w1 ⟨A1, rfl, hI, hb1⟩
  have U1 := Lib.hid (U0.out.later hb1)
  have BS1 := Lib.hid (BS.out.later hb1)
  have BR1 := Lib.hid (BR.out.later hb1)
  have HI := Lib.hid hI
  clear hb1 hI d0
  have c0 := BS1.out.at 0 _ rfl
  have c1 := BS1.out.at 1 _ rfl
  have r0 := BR1.out.at 0 _ rfl
  have r1 := BR1.out.at 1 _ rfl
  have rz := BR1.out.frozen
  go_upto_region 2 with fail
  go_region
  have RF := BR1.out.set_ 0 (.int .i64 v)
  have RG := RF.set_ 1 (.int .i64 i)
  have q1 := RF.at 1 _ rfl
  have RI : IntsNew w.heap.size ((w1.setCell ⟨w.heap.size + 1, 0, none⟩ (.int .i64 v)).setCell ⟨w.heap.size + 1, 1, none⟩ (.int .i64 i)) .u8 A1 _ := ((HI.out.setCell (p := ⟨w.heap.size + 1, 0, none⟩) (by simp) (.int .i64 v)).setCell (p := ⟨w.heap.size + 1, 1, none⟩) (by simp) (.int .i64 i)).less (by simp; omega)
  have UF : Bel w ((w1.setCell ⟨w.heap.size + 1, 0, none⟩ (.int .i64 v)).setCell ⟨w.heap.size + 1, 1, none⟩ (.int .i64 i)) := below_set_old (below_set_old U1.out (by simp) _) (by simp) _
  go_wp2_with fail
  refine bodyPost_ret (v := .tuple #[.slice A1 zs.length zs.length, .agg #[.int .i64 v, .int .i64 i], .int .u8 0]) (res_tct Tryz.results136 rfl rfl (run_loadVar_row (P := Tryz.prog) _ _ _ _ _ _ _ RG.drew Tryz.underlying24 rfl (by kernel_rfl)) rfl) rfl ⟨A1, zs.length, by rw [List.length_map], ?_, UF.drew⟩
  exact RI
end Go.Proofs.YtahbecinkciahaaGreat
