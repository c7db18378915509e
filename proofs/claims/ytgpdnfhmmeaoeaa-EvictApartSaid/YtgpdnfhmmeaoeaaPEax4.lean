-- printed by wip/tools/print2.sh (the kit's print, with given texts of this repo); not trusted: Lean checks it
import Derived.Test.YtgpdnfhmmeaoeaaPEax0
import Derived.Test.YtgpdnfhmmeaoeaaPEax1
import Derived.Test.YtgpdnfhmmeaoeaaPEax2
import Derived.Test.YtgpdnfhmmeaoeaaPEax3
namespace Go.Proofs.Ytgpdnfhmmeaoeaa.PEa
open Go.RowKit Go.Proofs.YtgpdnfhmmeaoeaaW.PrintWords Go.Proofs.YtgpdnfhmmeaoeaaW.PrintLast Go.Proofs.YtgpdnfhmmeaoeaaW.PrintMore
attribute [local go_sem] max2_int min2_int max_two min_two max_three min_three max_four min_four   -- for this text's walks alone
set_option linter.unusedVariables false
set_option linter.unusedSimpArgs false

/-- evict.Common's closure: 'len(l) != c.Sets', c in block B. -/
theorem Common1.calls (W : World) (B : Nat) (s0 s1 s2 : Int) (A1 : Option Addr) (c1 : Nat) (x : List (List Int)) (hB : W.heap[B]? = some (.cells #[.int .i64 s0, .int .i64 s1, .int .i64 s2] 26 (0, 0))) (hm : x.length ≤ 9223372036854775807) :
    Calls Try.prog 29 #[.slice A1 x.length c1, .pointer (some ⟨B, 0, none⟩)] W fun e w' => e = .returned (.bool (decide ((x.length : Int) ≠ s0))) ∧ Below W.heap.size W w' := by
  have hc0 : W.cell? ⟨B, 0, none⟩ = some (.int .i64 s0) := (blk_cell hB 0).trans rfl
  clear hB
  go_enter Try.func29, Try.ntmps29
  go_wp2
  go_ret
  exact ⟨by simp [bne]; rfl, Below.refl _ _⟩

/-- The lines that all others have in set s, in order. -/
def linesAt (others : List (List (List Int))) (s : Nat) : List Int := others.flatMap (fun o => o.getD s [])
/-- How many different numbers a list has. -/
def different (l : List Int) : Nat := ((l.map (Lit.int .i64)).foldl Maps.addKey []).length
/-- What the sets below k give. -/
def sumC (ways : Int) (mine : List (List Int)) (others : List (List (List Int))) : Nat → Int
  | 0 => 0
  | k + 1 => sumC ways mine others k + if (mine.getD k []).length = 0 then 0 else min ways (different (linesAt others k) : Int)
def okCache (a b c : Int) : Bool := decide (0 ≤ a ∧ a ≤ 8 ∧ 1 ≤ b ∧ b ≤ 4 ∧ 1 ≤ c ∧ c ≤ 8)
def okLines (others : List (List (List Int))) : Bool := others.all fun o => o.all fun l => l.all fun x => (Lit.int .i64 x).wf
def fewLines (others : List (List (List Int))) (n : Nat) : Bool := (List.range n).all fun s => decide ((linesAt others s).length ≤ 1000000)
def apartC (sets : Int) (mine : List (List Int)) (others : List (List (List Int))) : Bool := decide ((mine.length : Int) ≠ sets) || others.any (fun x => decide ((x.length : Int) ≠ sets))
def evict_Common.f (a0_0 : Int) (a0_1 : Int) (a0_2 : Int) (l1 : List (List Int)) (l2 : List (List (List Int))) : Option Int :=
  if (okLines l2 && fewLines l2 l1.length) = true then
    if (okCache a0_0 a0_1 a0_2 && !apartC a0_0 l1 l2) = true then some (sumC a0_1 l1 l2 l1.length) else some 0
  else none
theorem check_is (a b c : Int) : cache_Check.f a b c = some (if okCache a b c = true then 0 else 3) := by
  unfold cache_Check.f cache_between.f okCache
  by_cases h1 : a ≥ 0 <;> by_cases h2 : a ≤ 8 <;> by_cases h3 : b ≥ 1 <;> by_cases h4 : b ≤ 4 <;> by_cases h5 : c ≥ 1 <;> by_cases h6 : c ≤ 8 <;> simp [h1, h2, h3, h4, h5, h6] <;> omega

theorem linesAt_take (others : List (List (List Int))) (s j : Nat) (h : j < others.length) : linesAt (others.take (j + 1)) s = linesAt (others.take j) s ++ (others.getD j []).getD s [] := by
  unfold linesAt
  rw [List.take_succ_eq_append_getElem h, List.flatMap_append]
  simp [List.getD_eq_getElem?_getD, List.getElem?_eq_getElem h]
theorem any_false_len {others : List (List (List Int))} {n : Nat} {s : Int} (hn : (n : Int) = s) (h : others.any (fun x => decide ((x.length : Int) ≠ s)) = false) (j : Nat) (hj : j < others.length) : (others.getD j []).length = n := by
  have := List.any_eq_false.1 h (others.getD j []) (by simp [List.getD_eq_getElem?_getD, List.getElem?_eq_getElem hj])
  rw [decide_eq_true_eq] at this
  omega
theorem okLines_wf {others : List (List (List Int))} (h : okLines others = true) (j s i : Nat) (hj : j < others.length) (hs : s < (others.getD j []).length) (hi : i < ((others.getD j []).getD s []).length) : (Lit.int .i64 (((others.getD j []).getD s []).getD i 0)).wf = true := by
  unfold okLines at h
  have h1 := List.all_eq_true.1 h (others.getD j []) (by simp [List.getD_eq_getElem?_getD, List.getElem?_eq_getElem hj])
  have h2 := List.all_eq_true.1 h1 ((others.getD j []).getD s []) (by rw [List.getD_eq_getElem?_getD (l := others.getD j []), List.getElem?_eq_getElem hs]; simp)
  exact List.all_eq_true.1 h2 _ (by rw [List.getD_eq_getElem?_getD (l := (others.getD j []).getD s []), List.getElem?_eq_getElem hi]; simp)
theorem linesAt_le (others : List (List (List Int))) (s j : Nat) : (linesAt (others.take j) s).length ≤ (linesAt others s).length := by
  have : linesAt others s = linesAt (others.take j) s ++ linesAt (others.drop j) s := by
    unfold linesAt
    rw [← List.flatMap_append, List.take_append_drop]
  rw [this, List.length_append]; omega
theorem fewLines_le {others : List (List (List Int))} {n s : Nat} (h : fewLines others n = true) (hs : s < n) : (linesAt others s).length ≤ 1000000 := by
  have := List.all_eq_true.1 h s (List.mem_range.2 hs)
  simpa using this
theorem sumC_bd (ways : Int) (mine : List (List Int)) (others : List (List (List Int))) (h0 : 0 ≤ ways) (h4 : ways ≤ 4) : ∀ k, 0 ≤ sumC ways mine others k ∧ sumC ways mine others k ≤ 4 * k
  | 0 => by simp [sumC]
  | k + 1 => by
    have := sumC_bd ways mine others h0 h4 k
    unfold sumC
    split
    · omega
    · have h1 : 0 ≤ (different (linesAt others k) : Int) := Int.natCast_nonneg _
      omega
/-- The set of a list of numbers, as the map reads. -/
def setD (l : List Int) : DataW Unit := Maps.setOf (.lit (.bool true)) (l.map (Lit.int .i64))
theorem setD_nil : setD [] = .map [] := rfl
theorem setD_snoc (l : List Int) (x : Int) : setD (l ++ [x]) = (setD l).put (.int .i64 x) (.lit (.bool true)) := by
  unfold setD
  rw [List.map_append]
  exact Maps.setOf_snoc _ _ _
theorem setD_size (l : List Int) : Maps.size (setD l) = different l := Maps.size_setOf _ _ (fun x hx => by obtain ⟨y, _, rfl⟩ := List.mem_map.1 hx; trivial)
theorem plain_bool_inv {P : Program} {e : TypeId} (he : P.underlying e = some .bool) {v : Value} {z : DataW Unit × List MemPlace} (h : plainElem P e v = some z) : ∃ c, v = .bool c := by
  unfold plainElem at h
  rw [he] at h
  cases v <;> simp at h
  exact ⟨_, rfl⟩
theorem countP_strike {H : Type} (left : Lit → Bool) (kl : Lit) (hkl : WideAt.IsKeyLit kl) : ∀ (E : List (Lit × DataW H)), E.Pairwise (fun p q => p.1 ≠ q.1) → (∃ p ∈ E, p.1 = kl) → left kl = true → E.countP (fun p => left p.1 && !p.1.sameKey kl) + 1 = E.countP (fun p => left p.1)
  | [], _, h, _ => by obtain ⟨p, hp, _⟩ := h; simp at hp
  | q :: r, hd, h, hl => by
    obtain ⟨h1, h2⟩ := List.pairwise_cons.1 hd
    rw [List.countP_cons, List.countP_cons]
    by_cases e : q.1 = kl
    · have hs : q.1.sameKey kl = true := by rw [e]; exact WideAt.sameKey_self hkl
      have hrest : r.countP (fun p => left p.1 && !p.1.sameKey kl) = r.countP (fun p => left p.1) := by
        apply List.countP_congr
        intro p hp
        have : p.1.sameKey kl = false := Maps.sameKey_ne (fun e1 => h1 p hp (e.trans e1.symm))
        simp [this]
      rw [hrest, hs, e, hl]
      simp
    · have hs : q.1.sameKey kl = false := Maps.sameKey_ne e
      have ih := countP_strike left kl hkl r h2 (by obtain ⟨p, hp, hpk⟩ := h; rcases List.mem_cons.1 hp with rfl | hp; exact absurd hpk e; exact ⟨p, hp, hpk⟩) hl
      rw [hs]
      simp only [Bool.not_false, Bool.and_true]
      omega
theorem ranges_count {H : Type} {P : Program} {k : TypeId} {R : Value → Option (DataW H × List MemPlace)} {w : World} {b r n : Nat} {D : DataW H} {left : Lit → Bool} {cnt : Nat} (h : w.ranges P k R b r n D left cnt) (K : Maps.Keyed P k) :
    ∃ E, D = .map E ∧ E.Pairwise (fun p q => p.1 ≠ q.1) ∧ (∀ p ∈ E, WideAt.IsKeyLit p.1) ∧ cnt = E.countP (fun p => left p.1) ∧ ∀ kl, left kl = true → ∃ p ∈ E, p.1 = kl := by
  obtain ⟨E, hD, hp, hk⟩ := h.owns.entries K
  obtain ⟨es, clock, since, seen, c0, hb, F, hs, hD', hr, hold, hc, hl1, hl2, hsc, hsk⟩ := h
  have hE : E = (es.toList.map (WideElems.rg P k R)).foldr DataW.insert [] := by rw [hD] at hD'; injection hD'
  refine ⟨E, hD, hp, hk, ?_, fun kl hkl => ?_⟩
  · rw [← hc, hE, (WideShapes.sorted_perm _).countP_eq, List.countP_map]
    have e1 : (leftOf es seen).size = (es.toList.filter fun e => !seen.contains e.born).length := by
      unfold leftOf
      rw [← Array.toList_filter, Array.length_toList]
    rw [e1, ← List.countP_eq_length_filter]
    apply List.countP_congr
    intro x hx
    rw [Function.comp, hl1 x hx]
  · obtain ⟨x, hx, e⟩ := hl2 kl hkl
    exact ⟨_, by rw [hE]; exact (WideShapes.sorted_perm _).mem_iff.2 (List.mem_map.2 ⟨x, hx, rfl⟩), e⟩
/-- One step strikes just one entry. -/
theorem ranges_step {H : Type} {P : Program} {k : TypeId} {R : Value → Option (DataW H × List MemPlace)} {w w' : World} {b r n : Nat} {D : DataW H} {left : Lit → Bool} {cnt cnt' : Nat} {kl : Lit} (h : w.ranges P k R b r n D left cnt) (h' : w'.ranges P k R b r n D (fun z => left z && !z.sameKey kl) cnt') (K : Maps.Keyed P k) (hl : left kl = true) :
    cnt' + 1 = cnt := by
  obtain ⟨E, hD, hp, hk, hc, hm⟩ := ranges_count h K
  obtain ⟨E', hD', _, _, hc', _⟩ := ranges_count h' K
  rw [hD] at hD'
  injection hD' with hE
  subst hE
  obtain ⟨p, hpE, hpk⟩ := hm kl hl
  rw [hc, hc']
  exact countP_strike left kl (by rw [← hpk]; exact hk p hpE) E hp ⟨p, hpE, hpk⟩ hl
theorem keyInt_inv (key : Value) (kl : Lit) (h : keyOf Try.prog 3 key = some kl) : ∃ x, key = .int .i64 x := by
  obtain ⟨x, rfl, _⟩ := Maps.keyOf_int_inv Try.underlying3 h
  exact ⟨x, rfl⟩

set_option maxHeartbeats 2000000 in
set_option maxRecDepth 100000 in
theorem evict_Common.good (a0_0 : Int) (a0_1 : Int) (a0_2 : Int) (A1 : Option Addr) (c1 : Nat) (l1 : List (List Int)) (A2 : Option Addr) (c2 : Nat) (l2 : List (List (List Int))) (w : World)
    (hr1 : Kd.C (Kd.slice 3 (Kd.int .i64)) w A1 l1.length l1) (hc1 : l1.length ≤ c1) (hr2 : Kd.C (Kd.slice 22 (Kd.slice 3 (Kd.int .i64))) w A2 l2.length l2) (hc2 : l2.length ≤ c2)
    (hl : okLines l2 = true) (hfew : fewLines l2 l1.length = true) (hcache : okCache a0_0 a0_1 a0_2 = true) (hlen : (l1.length : Int) = a0_0) (hany : l2.any (fun x => decide ((x.length : Int) ≠ a0_0)) = false) :
    Calls Try.prog 11 #[.agg #[.int .i64 a0_0, .int .i64 a0_1, .int .i64 a0_2], .slice A1 l1.length c1, .slice A2 l2.length c2] w fun e w' => e = .returned (.int .i64 (sumC a0_1 l1 l2 l1.length)) ∧ Below w.heap.size w w' := by
  have hu26 := Try.underlying26
  have HR1 := Aside0.mk hr1
  have HR2 := Aside0.mk hr2
  have HL := Aside0.mk hl
  have HF := Aside0.mk hfew
  have HQ := Aside0.mk hlen
  have HY := Aside0.mk hany
  have hm1 : l1.length ≤ 9223372036854775807 := hr1.2.1
  have hm2 : l2.length ≤ 9223372036854775807 := hr2.2.1
  have HCK := Aside0.mk (check_is a0_0 a0_1 a0_2)
  rw [hcache] at HCK
  have HZ := Aside0.mk hcache
  clear hr1 hr2 hl hfew hany hcache hlen
  have HB := Aside0.mk (Below.refl w.heap.size w)
  go_enter Try.func11, Try.ntmps11
  go_wp2_with (first | ((with_reducible refine gate_dst (N := 3) rfl ?_); refine box_event ?hg (N := 3) ?hd (cs := #[.int .i64 a0_0, .int .i64 a0_1, .int .i64 a0_2]) (t := 26) ?hr ?_; (case hd => rfl); (case hg => rfl); (case hr => first | (go_simp; done) | (go_simp; rfl)); intro gb hg w2 hbox hb; have n0_ := Aside0.mk (below_step HB.out hb); have BK := Aside0.mk hbox; have GE := Aside0.mk (show w.heap.size ≤ gb by rw [hg]; exact Nat.le_refl _); clear HB; have HB := n0_; clear n0_ hb hbox hg; have hc0 := (blk_cell BK.out 0).trans rfl; have hc1_ := (blk_cell BK.out 1).trans rfl; have hc2_ := (blk_cell BK.out 2).trans rfl) | fail)
  refine (cache_Check.calls _ _ _ _ _ HCK.out).mono ?_
  rintro e w3 ⟨rfl, hb3⟩
  have hc0 := (hb3.cell (p := ⟨gb, 0, none⟩) (blk_lt BK.out)).trans hc0
  have BK3 := Aside0.mk (blk_below BK.out hb3)
  have HB3 := Aside0.mk (below_step HB.out hb3)
  clear hb3 BK HB HCK hc1_ hc2_
  have t1 : ((l1.length : Int) != a0_0) = false := bne_eq_false_iff_eq.mpr HQ.out
  go_wp2_with fail
  refine (ContainsFunc28.calls (P := fun x => decide ((x.length : Int) ≠ a0_0)) 29 #[.pointer (some ⟨gb, 0, none⟩)] (entersF 29 Try.func29 (by kernel_rfl) rfl) A2 c2 l2 _ (Kd.C_below HR2.out HB3.out) hm2 (fun W A c x hb hC hc => Common1.calls W gb _ _ _ A c x (blk_below BK3.out hb) hC.2.1)).mono ?_
  rintro e w4 ⟨rfl, hb4⟩
  rw [HY.out]
  replace hc0 := (hb4.cell (p := ⟨gb, 0, none⟩) (blk_lt BK3.out)).trans hc0
  have BK := Aside0.mk (blk_below BK3.out hb4)
  have HB := Aside0.mk (below_step HB3.out hb4)
  have HO := Aside0.mk (fun j hj => any_false_len HQ.out HY.out j hj)
  clear hb4 BK3 HB3 HY
  go_wp2_with fail
  clear hc0
  go_loopg [7, 33] l1.length (fun gg s7 s33 wr => ∃ kk : Nat, kk ≤ l1.length ∧ l1.length - kk ≤ gg ∧ s33 = .int .i64 kk ∧ s7 = .int .i64 (sumC a0_1 l1 l2 kk) ∧ Aside0 (Below w.heap.size w wr) ∧ Aside0 (wr.heap[gb]? = some (.cells #[.int .i64 a0_0, .int .i64 a0_1, .int .i64 a0_2] 26 (0, 0))))
  case atStart => exact ⟨0, Nat.zero_le _, by omega, rfl, rfl, HB, BK⟩
  case round =>
    clear BK HB
    obtain ⟨kk, hkk, hg, rfl, rfl, HB, BK⟩ := hrel
    by_cases hlt : kk < l1.length
    · have hltz : (kk : Int) < (l1.length : Int) := by omega
      obtain ⟨ad, cs, rfl, _, hK, hcell⟩ := Kd.C_get HR1.out ([] : List Int) (kk : Int) (by omega) hltz
      obtain ⟨A9, c9, rfl, hl9, hC9⟩ := hK
      have hx := (HB.out.cell (World.block_lt_of_cell? w _ (hcell 0 _ rfl))).trans (hcell 0 _ rfl)
      clear hcell
      simp only [Int.toNat_natCast, Nat.add_zero, show (Kd.slice 3 (Kd.int .i64)).sz = 1 from rfl, Nat.mul_one] at hx hC9 hl9
      have HC9 := Aside0.mk hC9
      clear hC9 hl9
      have hs : sumC a0_1 l1 l2 (kk + 1) = sumC a0_1 l1 l2 kk + if (l1.getD kk []).length = 0 then 0 else min a0_1 (different (linesAt l2 kk) : Int) := rfl
      have HS := Aside0.mk hs
      clear hs
      generalize hy : l1.getD kk [] = y at hx HC9 HS
      clear hy
      by_cases hz : y.length = 0
      · have HZ0 := Aside0.mk hz
        have hzb : ((y.length : Int) == 0) = true := beq_iff_eq.mpr (by omega)
        clear hz
        go_wp2_with fail
        go_roundg (l1.length - (kk + 1))
        case measure => omega
        case rel => exact ⟨kk + 1, by omega, by omega, by go_num, by rw [HS.out, if_pos HZ0.out, Int.add_zero], HB, BK⟩
      · have HZ0 := Aside0.mk hz
        have hzb : ((y.length : Int) == 0) = false := beq_eq_false_iff_ne.mpr (by omega)
        clear hz HC9
        have hmm := @run_makeMap Try.prog
        have hbd : 0 ≤ sumC a0_1 l1 l2 kk ∧ sumC a0_1 l1 l2 kk ≤ 32 ∧ 0 ≤ a0_1 ∧ a0_1 ≤ 4 := by
          have h1 := of_decide_eq_true HZ.out
          have h2 := sumC_bd a0_1 l1 l2 (by omega) (by omega) kk
          have h3 := HQ.out
          omega
        obtain ⟨hb1, hb2, hb3, hb4⟩ := hbd
        go_wp2_with fail
        clear hmm
        have HM0 := Aside0.mk (World.ownsMap_made (H := Unit) wr Try.prog 3 (plainElem Try.prog 4))
        have hbb : w.heap.size ≤ wr.heap.size := HB.out.size
        have hgb : gb < wr.heap.size := blk_lt BK.out
        have HB1 := Aside0.mk (HB.out.alloc hbb (.map #[] 0))
        have BK1 := Aside0.mk (blk_alloc BK.out (.map #[] 0))
        have hfew := fewLines_le HF.out hlt
        have HFW := Aside0.mk hfew
        generalize hbe : wr.heap.size = b at hbb hgb HM0 ⊢
        clear HB BK hbe hfew
        go_loopg [44] l2.length (fun gg s44 wr2 => ∃ j : Nat, j ≤ l2.length ∧ l2.length - j ≤ gg ∧ s44 = .int .i64 j ∧ Aside0 (wr2.ownsMap Try.prog 3 (plainElem Try.prog 4) b (linesAt (l2.take j) kk).length (setD (linesAt (l2.take j) kk))) ∧ Aside0 (Below w.heap.size w wr2) ∧ Aside0 (wr2.heap[gb]? = some (.cells #[.int .i64 a0_0, .int .i64 a0_1, .int .i64 a0_2] 26 (0, 0))))
        case atStart => exact ⟨0, Nat.zero_le _, by omega, rfl, HM0, HB1, BK1⟩
        case round =>
          clear HM0 HB1 BK1
          obtain ⟨j, hj, hg2, rfl, HM, HB, BK⟩ := hrel
          by_cases hlt2 : j < l2.length
          · have hltz2 : (j : Int) < (l2.length : Int) := by omega
            obtain ⟨ad2, cs2, rfl, _, hK2, hcell2⟩ := Kd.C_get HR2.out ([] : List (List Int)) (j : Int) (by omega) hltz2
            obtain ⟨A12, c12, rfl, hl12, hC12⟩ := hK2
            have hx2 := (HB.out.cell (World.block_lt_of_cell? w _ (hcell2 0 _ rfl))).trans (hcell2 0 _ rfl)
            clear hcell2
            simp only [Int.toNat_natCast, Nat.add_zero, show (Kd.slice 22 (Kd.slice 3 (Kd.int .i64))).sz = 1 from rfl, show (Kd.slice 3 (Kd.int .i64)).sz = 1 from rfl, Nat.mul_one] at hx2 hC12 hl12
            have HLT := Aside0.mk (linesAt_take l2 kk j hlt2)
            have HWF := Aside0.mk (fun s i h1 h2 => okLines_wf HL.out j s i hlt2 h1 h2)
            have hol := HO.out j hlt2
            generalize l2.getD j [] = o at hx2 hC12 hl12 HLT HWF hol
            have hko : (kk : Int) < (o.length : Int) := by omega
            obtain ⟨ad3, cs3, rfl, _, hK3, hcell3⟩ := Kd.C_get hC12 ([] : List Int) (kk : Int) (by omega) hko
            obtain ⟨A51, c51, rfl, hl51, hC51⟩ := hK3
            have hx3 := (HB.out.cell (World.block_lt_of_cell? w _ (hcell3 0 _ rfl))).trans (hcell3 0 _ rfl)
            clear hcell3
            simp only [Int.toNat_natCast, Nat.add_zero, show (Kd.slice 3 (Kd.int .i64)).sz = 1 from rfl, Nat.mul_one] at hx3 hC51 hl51
            have HC51 := Aside0.mk hC51
            have hm51 : (o.getD kk []).length ≤ 9223372036854775807 := hC51.2.1
            have HWF2 := Aside0.mk (fun i h => HWF.out kk i (by omega) h)
            clear hC12 hl12 hol hC51 hl51 HWF
            generalize o.getD kk [] = m at hx3 HC51 HLT HWF2 hm51
            go_wp2_with fail
            generalize hpre : linesAt (l2.take j) kk = pre at HM HLT
            have hpl : pre.length + m.length ≤ 1000000 := by
              have h1 := linesAt_le l2 kk (j + 1)
              rw [HLT.out, List.length_append] at h1
              have := HFW.out
              omega
            clear hpre hx hx2 hx3
            go_loopg [53] m.length (fun gg s53 wr3 => ∃ i : Nat, i ≤ m.length ∧ m.length - i ≤ gg ∧ s53 = .int .i64 i ∧ Aside0 (wr3.ownsMap Try.prog 3 (plainElem Try.prog 4) b (pre.length + i) (setD (pre ++ m.take i))) ∧ Aside0 (Below w.heap.size w wr3) ∧ Aside0 (wr3.heap[gb]? = some (.cells #[.int .i64 a0_0, .int .i64 a0_1, .int .i64 a0_2] 26 (0, 0))))
            case atStart => exact ⟨0, Nat.zero_le _, by omega, rfl, ⟨by simpa using HM.out⟩, HB, BK⟩
            case round =>
              clear HM HB BK
              obtain ⟨i, hi, hg3, rfl, HM, HB, BK⟩ := hrel
              by_cases hlt3 : i < m.length
              · have hltz3 : (i : Int) < (m.length : Int) := by omega
                obtain ⟨ad4, cs4, rfl, _, hK4, hcell4⟩ := Kd.C_get HC51.out (0 : Int) (i : Int) (by omega) hltz3
                obtain rfl := hK4
                have hx4 := (HB.out.cell (World.block_lt_of_cell? w _ (hcell4 0 _ rfl))).trans (hcell4 0 _ rfl)
                clear hcell4
                simp only [Int.toNat_natCast, Nat.add_zero, show (Kd.int .i64).sz = 1 from rfl, Nat.mul_one] at hx4
                have hwf := HWF2.out i hlt3
                have htk : pre ++ m.take (i + 1) = (pre ++ m.take i) ++ [m.getD i 0] := by
                  rw [List.take_succ_eq_append_getElem hlt3, List.append_assoc]
                  simp [List.getD_eq_getElem?_getD, List.getElem?_eq_getElem hlt3]
                have HTK := Aside0.mk htk
                clear htk
                generalize m.getD i 0 = x at hx4 hwf HTK
                have HWX := Aside0.mk hwf
                clear hwf
                go_wp2_with (first | (at_mapUpdate; refine wpList_mapUpdate_own _ rfl _ _ _ 57 rfl 3 4 (Maps.int_keyed Try.underlying3) Try.underlying57 _ b (pre.length + i) _ rfl HM.out (by unfold maxLen; omega) _ _ (.int .i64 x) rfl rfl (Maps.keyOf_int_mk Try.underlying3 HWX.out) (.lit (.bool true)) [] (plainElem_bool Try.underlying4 true) ?_; intro w5 hown5 hgrow5; have HM5 := Aside0.mk hown5; have HG5 := Aside0.mk hgrow5; clear hown5 hgrow5) | fail)
                go_roundg (m.length - (i + 1))
                case measure => omega
                case rel => exact ⟨i + 1, by omega, by omega, by go_num, ⟨by rw [HTK.out, setD_snoc]; exact HM5.out⟩, ⟨pw_below_grown HB.out (some b) (HB.out.size) HG5.out (by rintro k ⟨⟩; exact hbb)⟩, ⟨blk_grown BK.out HG5.out (by intro h; injection h with h; omega)⟩⟩
              · have : i = m.length := by omega
                subst this
                have hltz3 : ¬ (m.length : Int) < (m.length : Int) := by omega
                go_wp2_with fail
                go_roundg (l2.length - (j + 1))
                case measure => omega
                case rel => exact ⟨j + 1, by omega, by omega, by go_num, ⟨by rw [HLT.out, List.length_append]; simpa using HM.out⟩, HB, BK⟩
          · have : j = l2.length := by omega
            subst this
            have hltz2 : ¬ (l2.length : Int) < (l2.length : Int) := by omega
            rw [List.take_length] at HM
            go_wp2_with (first | (at_range; refine wpList_range_own _ rfl _ 57 rfl 3 4 (Maps.int_keyed Try.underlying3) Try.underlying57 _ b _ _ rfl HM.out ?_; intro w6 hrg6 hgr6 hsz6; have HR6 := Aside0.mk hrg6; have HG6 := Aside0.mk hgr6; clear hrg6 hgr6 hsz6) | fail)
            try go_frame
            have hqs : w.heap.size ≤ wr.heap.size := HB.out.size
            have HBr := Aside0.mk (pw_below_grown HB.out none HB.out.size HG6.out (by intro k h; cases h))
            have BKr := Aside0.mk (blk_grown BK.out HG6.out (by simp))
            have hgr : gb < wr.heap.size := blk_lt BK.out
            have hbr : b < wr.heap.size := HM.out.lt
            rw [setD_size] at HR6
            have hdl : different (linesAt l2 kk) ≤ 1000000 := by
              have h1 := HM.out.size_le
              rw [setD_size] at h1
              have := HFW.out
              omega
            clear HB BK HM HG6
            generalize wr.heap.size = r at HR6 hqs hgr hbr ⊢
            generalize hdi : different (linesAt l2 kk) = dl at HS HR6 hdl
            clear hdi hx HFW
            generalize setD (linesAt l2 kk) = D at HR6
            go_loopg [15] dl (fun gg s15 wr4 => ∃ (left : Lit → Bool) (cnt ln : Nat), s15 = .int .i64 ln ∧ ln + cnt = dl ∧ cnt ≤ gg ∧ Aside0 (wr4.ranges Try.prog 3 (plainElem Try.prog 4) b r (linesAt l2 kk).length D left cnt) ∧ Aside0 (Below w.heap.size w wr4) ∧ Aside0 (wr4.heap[gb]? = some (.cells #[.int .i64 a0_0, .int .i64 a0_1, .int .i64 a0_2] 26 (0, 0))))
            case atStart => exact ⟨_, _, 0, rfl, by omega, Nat.le_refl _, HR6, HBr, BKr⟩
            case round =>
              clear HR6 HBr BKr
              obtain ⟨left, cnt, ln, rfl, hsum, hg4, HR6, HB, BK⟩ := hrel
              have HSUM := Aside0.mk hsum
              have hln : ln ≤ 1000000 := by omega
              clear hsum
              have hcw : wr.cell? ⟨gb, 1, none⟩ = some (.int .i64 a0_1) := (blk_cell BK.out 1).trans rfl
              go_wp2_with (first | (at_next; refine wpList_next_ranges _ rfl _ rfl 3 (Maps.int_keyed Try.underlying3) (plainElem Try.prog 4) (Value.int .i64) Value.bool keyInt_inv (fun v y h => plain_bool_inv Try.underlying4 h) b r _ _ _ _ rfl HR6.out ?_ ?_; (intro h0 hl0; have H0 := Aside0.mk h0; clear h0 hl0); rotate_left; (intro x c kl y7 w7 cnt7 hk7 hlk7 hv7 hat7 hrg7 hlt7 hgr7 hsz7 hen7; have HR7 := Aside0.mk hrg7; have HG7 := Aside0.mk hgr7; have HL7 := Aside0.mk (ranges_step HR6.out hrg7 (Maps.int_keyed Try.underlying3) hlk7); clear hk7 hlk7 hv7 hat7 hrg7 hlt7 hgr7 hsz7 hen7)) | fail)
              · go_roundg (gk - 1)
                case measure => have := HL7.out; omega
                case rel => exact ⟨_, cnt7, ln + 1, by go_num, by have := HSUM.out; have := HL7.out; omega, by have := HL7.out; omega, HR7, ⟨pw_below_grown HB.out (some r) HB.out.size HG7.out (by rintro k ⟨⟩; exact hqs)⟩, ⟨blk_grown BK.out HG7.out (by intro h; injection h with h; omega)⟩⟩
              all_goals
                go_roundg (l1.length - (kk + 1))
                case measure => omega
                case rel => exact ⟨kk + 1, by omega, by omega, by go_num, by rw [HS.out, if_neg HZ0.out]; have h1 := H0.out; have h2 := HSUM.out; congr 1; omega, HB, BK⟩
    · have : kk = l1.length := by omega
      subst this
      have hltz : ¬ (l1.length : Int) < (l1.length : Int) := by omega
      go_wp2_with fail
      go_ret
      exact ⟨rfl, HB.out⟩

set_option maxHeartbeats 2000000 in
set_option maxRecDepth 100000 in
theorem evict_Common.zero (a0_0 : Int) (a0_1 : Int) (a0_2 : Int) (A1 : Option Addr) (c1 : Nat) (l1 : List (List Int)) (A2 : Option Addr) (c2 : Nat) (l2 : List (List (List Int))) (w : World)
    (hr1 : Kd.C (Kd.slice 3 (Kd.int .i64)) w A1 l1.length l1) (hc1 : l1.length ≤ c1) (hr2 : Kd.C (Kd.slice 22 (Kd.slice 3 (Kd.int .i64))) w A2 l2.length l2) (hc2 : l2.length ≤ c2)
    (hbad : okCache a0_0 a0_1 a0_2 = false ∨ (l1.length : Int) ≠ a0_0 ∨ l2.any (fun x => decide ((x.length : Int) ≠ a0_0)) = true) :
    Calls Try.prog 11 #[.agg #[.int .i64 a0_0, .int .i64 a0_1, .int .i64 a0_2], .slice A1 l1.length c1, .slice A2 l2.length c2] w fun e w' => e = .returned (.int .i64 0) ∧ Below w.heap.size w w' := by
  have hu26 := Try.underlying26
  have HR2 := Aside0.mk hr2
  have hm1 : l1.length ≤ 9223372036854775807 := hr1.2.1
  have hm2 : l2.length ≤ 9223372036854775807 := hr2.2.1
  have HCK := Aside0.mk (check_is a0_0 a0_1 a0_2)
  have HBAD := Aside0.mk hbad
  clear hr1 hr2 hbad
  have HB := Aside0.mk (Below.refl w.heap.size w)
  go_enter Try.func11, Try.ntmps11
  go_wp2_with (first | ((with_reducible refine gate_dst (N := 3) rfl ?_); refine box_event ?hg (N := 3) ?hd (cs := #[.int .i64 a0_0, .int .i64 a0_1, .int .i64 a0_2]) (t := 26) ?hr ?_; (case hd => rfl); (case hg => rfl); (case hr => first | (go_simp; done) | (go_simp; rfl)); intro gb hg w2 hbox hb; have n0_ := Aside0.mk (below_step HB.out hb); have BK := Aside0.mk hbox; have GE := Aside0.mk (show w.heap.size ≤ gb by rw [hg]; exact Nat.le_refl _); clear HB; have HB := n0_; clear n0_ hb hbox hg; have hc0 := (blk_cell BK.out 0).trans rfl; have hc1_ := (blk_cell BK.out 1).trans rfl; have hc2_ := (blk_cell BK.out 2).trans rfl) | fail)
  refine (cache_Check.calls _ _ _ _ _ HCK.out).mono ?_
  rintro e w3 ⟨rfl, hb3⟩
  have hc0 := (hb3.cell (p := ⟨gb, 0, none⟩) (blk_lt BK.out)).trans hc0
  have BK3 := Aside0.mk (blk_below BK.out hb3)
  have HB3 := Aside0.mk (below_step HB.out hb3)
  clear hb3 BK HB HCK hc1_ hc2_
  by_cases hcache : okCache a0_0 a0_1 a0_2 = true
  · rw [if_pos hcache]
    have HZ := Aside0.mk hcache
    clear hcache
    by_cases hlen : (l1.length : Int) = a0_0
    · have HQ := Aside0.mk hlen
      clear hlen
      have t1 : ((l1.length : Int) != a0_0) = false := bne_eq_false_iff_eq.mpr HQ.out
      have HY := Aside0.mk (show l2.any (fun x => decide ((x.length : Int) ≠ a0_0)) = true by
        rcases HBAD.out with h | h | h
        · rw [HZ.out] at h; cases h
        · exact absurd HQ.out h
        · exact h)
      go_wp2_with fail
      refine (ContainsFunc28.calls (P := fun x => decide ((x.length : Int) ≠ a0_0)) 29 #[.pointer (some ⟨gb, 0, none⟩)] (entersF 29 Try.func29 (by kernel_rfl) rfl) A2 c2 l2 _ (Kd.C_below HR2.out HB3.out) hm2 (fun W A c x hb hC hc => Common1.calls W gb _ _ _ A c x (blk_below BK3.out hb) hC.2.1)).mono ?_
      rintro e w4 ⟨rfl, hb4⟩
      rw [HY.out]
      have HB := Aside0.mk (below_step HB3.out hb4)
      clear hb4 BK3 HB3 HY
      go_wp2_with fail
      go_ret
      exact ⟨rfl, HB.out⟩
    · have t1 : ((l1.length : Int) != a0_0) = true := bne_iff_ne.mpr hlen
      clear hlen
      go_wp2_with fail
      go_ret
      exact ⟨rfl, HB3.out⟩
  · rw [if_neg hcache]
    clear hcache
    go_wp2_with fail
    go_ret
    exact ⟨rfl, HB3.out⟩

theorem evict_Common.calls (a0_0 : Int) (a0_1 : Int) (a0_2 : Int) (A1 : Option Addr) (c1 : Nat) (l1 : List (List Int)) (A2 : Option Addr) (c2 : Nat) (l2 : List (List (List Int))) (r : Int) (w : World)
    (hr1 : Kd.C (Kd.slice 3 (Kd.int .i64)) w A1 l1.length l1) (hc1 : l1.length ≤ c1) (hr2 : Kd.C (Kd.slice 22 (Kd.slice 3 (Kd.int .i64))) w A2 l2.length l2) (hc2 : l2.length ≤ c2)
    (h : evict_Common.f a0_0 a0_1 a0_2 l1 l2 = some r) :
    Calls Try.prog 11 #[.agg #[.int .i64 a0_0, .int .i64 a0_1, .int .i64 a0_2], .slice A1 l1.length c1, .slice A2 l2.length c2] w fun e w' => e = .returned (.int .i64 r) ∧ Below w.heap.size w w' := by
  unfold evict_Common.f at h
  by_cases h1 : (okLines l2 && fewLines l2 l1.length) = true
  · rw [if_pos h1] at h
    obtain ⟨hl, hf⟩ := (Bool.and_eq_true _ _).mp h1
    by_cases h2 : (okCache a0_0 a0_1 a0_2 && !apartC a0_0 l1 l2) = true
    · rw [if_pos h2] at h
      obtain rfl := Option.some.inj h
      obtain ⟨h3, h4⟩ := (Bool.and_eq_true _ _).mp h2
      have h5 : apartC a0_0 l1 l2 = false := by simpa using h4
      unfold apartC at h5
      obtain ⟨h6, h7⟩ := (Bool.or_eq_false_iff).mp h5
      exact evict_Common.good a0_0 a0_1 a0_2 A1 c1 l1 A2 c2 l2 w hr1 hc1 hr2 hc2 hl hf h3 (by have := of_decide_eq_false h6; omega) h7
    · rw [if_neg h2] at h
      obtain rfl := Option.some.inj h
      refine evict_Common.zero a0_0 a0_1 a0_2 A1 c1 l1 A2 c2 l2 w hr1 hc1 hr2 hc2 ?_
      by_cases h3 : okCache a0_0 a0_1 a0_2 = true
      · refine .inr ?_
        have h5 : apartC a0_0 l1 l2 = true := by
          cases h6 : apartC a0_0 l1 l2
          · rw [h3, h6] at h2; simp at h2
          · rfl
        unfold apartC at h5
        rcases (Bool.or_eq_true _ _).mp h5 with h6 | h6
        · exact .inl (of_decide_eq_true h6)
        · exact .inr h6
      · exact .inl (by simpa using h3)
  · rw [if_neg h1] at h
    cases h

end Go.Proofs.Ytgpdnfhmmeaoeaa.PEa
