-- printed by wip/tools/print2.sh (the kit's print, with given texts of this repo); not trusted: Lean checks it
import Derived.Test.YtgpdnfhmmeaoeaaPEvx0
import Derived.Test.YtgpdnfhmmeaoeaaPEvx5
namespace Go.Proofs.Ytgpdnfhmmeaoeaa.PEv
open Go.RowKit Go.Proofs.YtgpdnfhmmeaoeaaW.PrintWords Go.Proofs.YtgpdnfhmmeaoeaaW.PrintLast Go.Proofs.YtgpdnfhmmeaoeaaW.PrintMore
attribute [local go_sem] max2_int min2_int max_two min_two max_three min_three max_four min_four   -- for this text's walks alone
set_option linter.unusedVariables false
set_option linter.unusedSimpArgs false

def timeboundref38_Common.f (a0_0 : Int) (a0_1 : Int) (a0_2 : Int) (l1 : List (List Int)) (l2 : List (List (List Int))) : Option Int :=
  if (okLines l2 && fewLines l2 l1.length && decide (0 ≤ a0_1 ∧ a0_1 ≤ 4 ∧ l1.length ≤ 8)) = true then
    if apartC a0_0 l1 l2 = true then some 0 else some (sumC a0_1 l1 l2 l1.length)
  else none

def badAny (a0_0 : Int) (l2 : List (List (List Int))) : Bool := l2.any (fun x => decide ((x.length : Int) ≠ a0_0))
theorem badAny_at {a : Int} {l2 : List (List (List Int))} {j : Nat} (hj : j < l2.length) (h : ((l2.getD j []).length : Int) ≠ a) : badAny a l2 = true := by
  unfold badAny
  refine List.any_eq_true.2 ⟨l2.getD j [], by simp [List.getD_eq_getElem?_getD, List.getElem?_eq_getElem hj], ?_⟩
  rw [decide_eq_true_eq]; exact h
theorem badAny_none {a : Int} {l2 : List (List (List Int))} (h : ∀ j, j < l2.length → ((l2.getD j []).length : Int) = a) : badAny a l2 = false := by
  unfold badAny
  refine List.any_eq_false.2 (fun x hx => ?_)
  obtain ⟨j, hj, rfl⟩ := List.getElem_of_mem hx
  have := h j hj
  rw [List.getD_eq_getElem?_getD, List.getElem?_eq_getElem hj] at this
  simpa using this

set_option maxHeartbeats 4000000 in
set_option maxRecDepth 100000 in
theorem timeboundref38_Common.good (a0_0 : Int) (a0_1 : Int) (a0_2 : Int) (A1 : Option Addr) (c1 : Nat) (l1 : List (List Int)) (A2 : Option Addr) (c2 : Nat) (l2 : List (List (List Int))) (w : World)
    (hr1 : Kd.C (Kd.slice 3 (Kd.int .i64)) w A1 l1.length l1) (hc1 : l1.length ≤ c1) (hr2 : Kd.C (Kd.slice 22 (Kd.slice 3 (Kd.int .i64))) w A2 l2.length l2) (hc2 : l2.length ≤ c2)
    (hl : okLines l2 = true) (hfew : fewLines l2 l1.length = true) (hw : 0 ≤ a0_1 ∧ a0_1 ≤ 4 ∧ l1.length ≤ 8) (hlen : (l1.length : Int) = a0_0) :
    Calls Try.prog 12 #[.agg #[.int .i64 a0_0, .int .i64 a0_1, .int .i64 a0_2], .slice A1 l1.length c1, .slice A2 l2.length c2] w fun e w' => e = .returned (.int .i64 (if badAny a0_0 l2 = true then 0 else sumC a0_1 l1 l2 l1.length)) ∧ Below w.heap.size w w' := by
  have hu26 := Try.underlying26
  have HR1 := Aside0.mk hr1
  have HR2 := Aside0.mk hr2
  have HL := Aside0.mk hl
  have HF := Aside0.mk hfew
  have HQ := Aside0.mk hlen
  have HZ := Aside0.mk hw
  have hm1 : l1.length ≤ 9223372036854775807 := hr1.2.1
  have hm2 : l2.length ≤ 9223372036854775807 := hr2.2.1
  obtain ⟨hb3, hb4, hb8⟩ := hw
  clear hr1 hr2 hl hfew hlen
  have HB := Aside0.mk (Below.refl w.heap.size w)
  have t1 : ((l1.length : Int) != a0_0) = false := bne_eq_false_iff_eq.mpr HQ.out
  generalize hR : (if badAny a0_0 l2 = true then 0 else sumC a0_1 l1 l2 l1.length) = R
  have HRR := Aside0.mk hR
  clear hR
  go_enter Try.func12, Try.ntmps12
  go_wp2_with (first | ((with_reducible refine gate_dst (N := 3) rfl ?_); refine box_event ?hg (N := 3) ?hd (cs := #[.int .i64 a0_0, .int .i64 a0_1, .int .i64 a0_2]) (t := 26) ?hr ?_; (case hd => rfl); (case hg => rfl); (case hr => first | (go_simp; done) | (go_simp; rfl)); intro gb hg w2 hbox hb; have n0_ := Aside0.mk (below_step HB.out hb); have BK := Aside0.mk hbox; have GE := Aside0.mk (show w.heap.size ≤ gb by rw [hg]; exact Nat.le_refl _); clear HB; have HB := n0_; clear n0_ hb hbox hg; have hc0 := (blk_cell BK.out 0).trans rfl) | fail)
  clear hc0
  go_loopg [7, 21] l1.length (fun gg s7 s21 wr => ∃ kk : Nat, kk ≤ l1.length ∧ l1.length - kk ≤ gg ∧ s21 = .int .i64 kk ∧ s7 = .int .i64 (sumC a0_1 l1 l2 kk) ∧ Aside0 (0 < kk → badAny a0_0 l2 = false) ∧ Aside0 (Below w.heap.size w wr) ∧ Aside0 (wr.heap[gb]? = some (.cells #[.int .i64 a0_0, .int .i64 a0_1, .int .i64 a0_2] 26 (0, 0))))
  case atStart => exact ⟨0, Nat.zero_le _, by omega, rfl, rfl, ⟨fun h => absurd h (by omega)⟩, HB, BK⟩
  case round =>
    clear BK HB
    obtain ⟨kk, hkk, hg, rfl, rfl, HBAD, HB, BK⟩ := hrel
    by_cases hlt : kk < l1.length
    · clear HBAD
      have hltz : (kk : Int) < (l1.length : Int) := by omega
      have HS := Aside0.mk (show sumC a0_1 l1 l2 (kk + 1) = sumC a0_1 l1 l2 kk + if (l1.getD kk []).length = 0 then 0 else min a0_1 (different (linesAt l2 kk) : Int) from rfl)
      have hbd : 0 ≤ sumC a0_1 l1 l2 kk ∧ sumC a0_1 l1 l2 kk ≤ 32 := by
        have h2 := sumC_bd a0_1 l1 l2 (by omega) (by omega) kk
        omega
      obtain ⟨hb1, hb2⟩ := hbd
      have hmm := @run_makeMap Try.prog
      go_wp2_with fail
      clear hmm
      have HM0 := Aside0.mk (World.ownsMap_made (H := Unit) wr Try.prog 3 (plainElem Try.prog 4))
      have hbb : w.heap.size ≤ wr.heap.size := HB.out.size
      have hgb : gb < wr.heap.size := blk_lt BK.out
      have HB1 := Aside0.mk (HB.out.alloc hbb (.map #[] 0))
      have BK1 := Aside0.mk (blk_alloc BK.out (.map #[] 0))
      have HFW := Aside0.mk (fewLines_le HF.out hlt)
      generalize hbe : wr.heap.size = b at hbb hgb HM0 ⊢
      clear HB BK hbe
      go_loopg [27] l2.length (fun gg s27 wr2 => ∃ j : Nat, j ≤ l2.length ∧ l2.length - j ≤ gg ∧ s27 = .int .i64 j ∧ Aside0 (∀ i, i < j → ((l2.getD i []).length : Int) = a0_0) ∧ Aside0 (wr2.ownsMap Try.prog 3 (plainElem Try.prog 4) b (linesAt (l2.take j) kk).length (setD (linesAt (l2.take j) kk))) ∧ Aside0 (Below w.heap.size w wr2) ∧ Aside0 (wr2.heap[gb]? = some (.cells #[.int .i64 a0_0, .int .i64 a0_1, .int .i64 a0_2] 26 (0, 0))))
      case atStart => exact ⟨0, Nat.zero_le _, by omega, rfl, ⟨fun i h => absurd h (by omega)⟩, HM0, HB1, BK1⟩
      case round =>
        clear HM0 HB1 BK1
        obtain ⟨j, hj, hg2, rfl, HOK, HM, HB, BK⟩ := hrel
        by_cases hlt2 : j < l2.length
        · have hltz2 : (j : Int) < (l2.length : Int) := by omega
          obtain ⟨ad2, cs2, rfl, _, hK2, hcell2⟩ := Kd.C_get HR2.out ([] : List (List Int)) (j : Int) (by omega) hltz2
          obtain ⟨A12, c12, rfl, hl12, hC12⟩ := hK2
          have hx2 := (HB.out.cell (World.block_lt_of_cell? w _ (hcell2 0 _ rfl))).trans (hcell2 0 _ rfl)
          clear hcell2
          simp only [Int.toNat_natCast, Nat.add_zero, show (Kd.slice 22 (Kd.slice 3 (Kd.int .i64))).sz = 1 from rfl, show (Kd.slice 3 (Kd.int .i64)).sz = 1 from rfl, Nat.mul_one] at hx2 hC12 hl12
          have HLT := Aside0.mk (linesAt_take l2 kk j hlt2)
          have HWF := Aside0.mk (fun s i h1 h2 => okLines_wf HL.out j s i hlt2 h1 h2)
          have HBA := Aside0.mk (fun h => badAny_at (a := a0_0) hlt2 h)
          have HNX := Aside0.mk (show ((l2.getD j []).length : Int) = a0_0 → ∀ i, i < j + 1 → ((l2.getD i []).length : Int) = a0_0 from fun h i hi => by
            by_cases e : i = j
            · subst e; exact h
            · exact HOK.out i (by omega))
          have hc0 : wr.cell? ⟨gb, 0, none⟩ = some (.int .i64 a0_0) := (blk_cell BK.out 0).trans rfl
          have hmo : (l2.getD j []).length ≤ 9223372036854775807 := hC12.2.1
          generalize l2.getD j [] = o at hx2 hC12 hl12 HLT HWF HBA HNX hmo
          by_cases hol : (o.length : Int) = a0_0
          · have HOL := Aside0.mk hol
            have t2 : ((o.length : Int) != a0_0) = false := bne_eq_false_iff_eq.mpr hol
            clear hol HBA
            have hko : (kk : Int) < (o.length : Int) := by have := HOL.out; have := HQ.out; omega
            obtain ⟨ad3, cs3, rfl, _, hK3, hcell3⟩ := Kd.C_get hC12 ([] : List Int) (kk : Int) (by omega) hko
            obtain ⟨A51, c51, rfl, hl51, hC51⟩ := hK3
            have hx3 := (HB.out.cell (World.block_lt_of_cell? w _ (hcell3 0 _ rfl))).trans (hcell3 0 _ rfl)
            clear hcell3
            simp only [Int.toNat_natCast, Nat.add_zero, show (Kd.slice 3 (Kd.int .i64)).sz = 1 from rfl, Nat.mul_one] at hx3 hC51 hl51
            have HC51 := Aside0.mk hC51
            have hm51 : (o.getD kk []).length ≤ 9223372036854775807 := hC51.2.1
            have HWF2 := Aside0.mk (fun i h => HWF.out kk i (by omega) h)
            clear hC12 hl12 hC51 hl51 HWF
            generalize o.getD kk [] = m at hx3 HC51 HLT HWF2 hm51
            go_wp2_with fail
            generalize hpre : linesAt (l2.take j) kk = pre at HM HLT
            have hpl : pre.length + m.length ≤ 1000000 := by
              have h1 := linesAt_le l2 kk (j + 1)
              rw [HLT.out, List.length_append] at h1
              have := HFW.out
              omega
            clear hpre hx2 hx3 hc0
            go_loopg [41] m.length (fun gg s41 wr3 => ∃ i : Nat, i ≤ m.length ∧ m.length - i ≤ gg ∧ s41 = .int .i64 i ∧ Aside0 (wr3.ownsMap Try.prog 3 (plainElem Try.prog 4) b (pre.length + i) (setD (pre ++ m.take i))) ∧ Aside0 (Below w.heap.size w wr3) ∧ Aside0 (wr3.heap[gb]? = some (.cells #[.int .i64 a0_0, .int .i64 a0_1, .int .i64 a0_2] 26 (0, 0))))
            case atStart => exact ⟨0, Nat.zero_le _, by omega, rfl, ⟨by simpa using HM.out⟩, HB, BK⟩
            case round =>
              clear HM HB BK
              obtain ⟨i, hi, hg3, rfl, HM, HB, BK⟩ := hrel
              by_cases hlt3 : i < m.length
              · have hltz3 : (i : Int) < (m.length : Int) := by omega
                obtain ⟨ad4, cs4, rfl, _, hK4, hcell4⟩ := Kd.C_get HC51.out (0 : Int) (i : Int) (by omega) hltz3
                obtain rfl := hK4
                have hx4 := (HB.out.cell (World.block_lt_of_cell? w _ (hcell4 0 _ rfl))).trans (hcell4 0 _ rfl)
                clear hcell4
                simp only [Int.toNat_natCast, Nat.add_zero, show (Kd.int .i64).sz = 1 from rfl, Nat.mul_one] at hx4
                have hwf := HWF2.out i hlt3
                have htk : pre ++ m.take (i + 1) = (pre ++ m.take i) ++ [m.getD i 0] := by
                  rw [List.take_succ_eq_append_getElem hlt3, List.append_assoc]
                  simp [List.getD_eq_getElem?_getD, List.getElem?_eq_getElem hlt3]
                have HTK := Aside0.mk htk
                clear htk
                generalize m.getD i 0 = x at hx4 hwf HTK
                have HWX := Aside0.mk hwf
                clear hwf
                go_wp2_with (first | (at_mapUpdate; refine wpList_mapUpdate_own _ rfl _ _ _ 57 rfl 3 4 (Maps.int_keyed Try.underlying3) Try.underlying57 _ b (pre.length + i) _ rfl HM.out (by unfold maxLen; omega) _ _ (.int .i64 x) rfl rfl (Maps.keyOf_int_mk Try.underlying3 HWX.out) (.lit (.bool true)) [] (plainElem_bool Try.underlying4 true) ?_; intro w5 hown5 hgrow5; have HM5 := Aside0.mk hown5; have HG5 := Aside0.mk hgrow5; clear hown5 hgrow5) | fail)
                go_roundg (m.length - (i + 1))
                case measure => omega
                case rel => exact ⟨i + 1, by omega, by omega, by go_num, ⟨by rw [HTK.out, setD_snoc]; exact HM5.out⟩, ⟨pw_below_grown HB.out (some b) (HB.out.size) HG5.out (by rintro k ⟨⟩; exact hbb)⟩, ⟨blk_grown BK.out HG5.out (by intro h; injection h with h; omega)⟩⟩
              · have : i = m.length := by omega
                subst this
                have hltz3 : ¬ (m.length : Int) < (m.length : Int) := by omega
                go_wp2_with fail
                go_roundg (l2.length - (j + 1))
                case measure => omega
                case rel => exact ⟨j + 1, by omega, by omega, by go_num, ⟨HNX.out HOL.out⟩, ⟨by rw [HLT.out, List.length_append]; simpa using HM.out⟩, HB, BK⟩
          · have t2 : ((o.length : Int) != a0_0) = true := bne_iff_ne.mpr hol
            have hR0 : R = 0 := by rw [← HRR.out, if_pos (HBA.out hol)]
            clear hol
            have HR0 := Aside0.mk hR0
            clear hR0 hC12 hl12
            go_wp2_with fail
            go_ret
            exact ⟨by rw [HR0.out]; rfl, HB.out⟩
        · have : j = l2.length := by omega
          subst this
          have hltz2 : ¬ (l2.length : Int) < (l2.length : Int) := by omega
          rw [List.take_length] at HM
          have HNB := Aside0.mk (badAny_none HOK.out)
          have hdl : different (linesAt l2 kk) ≤ 1000000 := by
            have h1 := HM.out.size_le
            rw [setD_size] at h1
            have := HFW.out
            omega
          obtain ⟨ad, cs, rfl, _, hK, hcell⟩ := Kd.C_get HR1.out ([] : List Int) (kk : Int) (by omega) hltz
          obtain ⟨A9, c9, rfl, hl9, hC9⟩ := hK
          have hx := (HB.out.cell (World.block_lt_of_cell? w _ (hcell 0 _ rfl))).trans (hcell 0 _ rfl)
          clear hcell
          simp only [Int.toNat_natCast, Nat.add_zero, show (Kd.slice 3 (Kd.int .i64)).sz = 1 from rfl, Nat.mul_one] at hx hC9 hl9
          have hm9 : (l1.getD kk []).length ≤ 9223372036854775807 := hC9.2.1
          clear hC9 hl9 HOK
          generalize hy : l1.getD kk [] = y at hx HS hm9
          clear hy
          have hcw : wr.cell? ⟨gb, 1, none⟩ = some (.int .i64 a0_1) := (blk_cell BK.out 1).trans rfl
          have HSZ := Aside0.mk (setD_size (linesAt l2 kk))
          by_cases hz : y.length = 0
          · have HZ0 := Aside0.mk hz
            obtain rfl : y = [] := List.eq_nil_of_length_eq_zero hz
            clear hz
            go_wp2_with fail
            go_roundg (l1.length - (kk + 1))
            case measure => omega
            case rel => exact ⟨kk + 1, by omega, by omega, by go_num, by rw [HS.out, if_pos HZ0.out, Int.add_zero], ⟨fun _ => HNB.out⟩, HB, BK⟩
          · have HZ0 := Aside0.mk hz
            have hzb : decide ((0 : Int) < (y.length : Int)) = true := decide_eq_true (by omega)
            have hzi : (0 : Int) < (y.length : Int) := by omega
            clear hz
            generalize hdi : different (linesAt l2 kk) = dl at HS hdl HSZ
            clear hdi
            generalize setD (linesAt l2 kk) = D at HM HSZ
            go_wp2_with (first | (at_len; refine wpList_len_own _ rfl _ 57 rfl 3 4 Try.underlying57 _ b _ _ rfl HM.out ?_; rw [HSZ.out]) | fail)
            all_goals
              go_roundg (l1.length - (kk + 1))
              case measure => omega
              case rel => exact ⟨kk + 1, by omega, by omega, by go_num, by rw [HS.out, if_neg HZ0.out]; congr 1; omega, ⟨fun _ => HNB.out⟩, HB, BK⟩
    · have : kk = l1.length := by omega
      subst this
      have hltz : ¬ (l1.length : Int) < (l1.length : Int) := by omega
      have hR0 : R = sumC a0_1 l1 l2 l1.length := by
        rw [← HRR.out]
        by_cases h0 : 0 < l1.length
        · rw [if_neg (by rw [HBAD.out h0]; decide)]
        · have h1 : l1.length = 0 := by omega
          rw [h1]
          simp [sumC]
      have HR0 := Aside0.mk hR0
      clear hR0
      go_wp2_with fail
      go_ret
      exact ⟨by rw [HR0.out]; rfl, HB.out⟩

set_option maxHeartbeats 2000000 in
set_option maxRecDepth 100000 in
theorem timeboundref38_Common.zero (a0_0 : Int) (a0_1 : Int) (a0_2 : Int) (A1 : Option Addr) (c1 : Nat) (l1 : List (List Int)) (A2 : Option Addr) (c2 : Nat) (l2 : List (List (List Int))) (w : World)
    (hm1 : l1.length ≤ 9223372036854775807) (hlen : (l1.length : Int) ≠ a0_0) :
    Calls Try.prog 12 #[.agg #[.int .i64 a0_0, .int .i64 a0_1, .int .i64 a0_2], .slice A1 l1.length c1, .slice A2 l2.length c2] w fun e w' => e = .returned (.int .i64 0) ∧ Below w.heap.size w w' := by
  have hu26 := Try.underlying26
  have HB := Aside0.mk (Below.refl w.heap.size w)
  have t1 : ((l1.length : Int) != a0_0) = true := bne_iff_ne.mpr hlen
  clear hlen
  go_enter Try.func12, Try.ntmps12
  go_wp2_with (first | ((with_reducible refine gate_dst (N := 3) rfl ?_); refine box_event ?hg (N := 3) ?hd (cs := #[.int .i64 a0_0, .int .i64 a0_1, .int .i64 a0_2]) (t := 26) ?hr ?_; (case hd => rfl); (case hg => rfl); (case hr => first | (go_simp; done) | (go_simp; rfl)); intro gb hg w2 hbox hb; have n0_ := Aside0.mk (below_step HB.out hb); have BK := Aside0.mk hbox; clear HB; have HB := n0_; clear n0_ hb hbox hg; have hc0 := (blk_cell BK.out 0).trans rfl) | fail)
  go_ret
  exact ⟨rfl, HB.out⟩

theorem timeboundref38_Common.calls (a0_0 : Int) (a0_1 : Int) (a0_2 : Int) (A1 : Option Addr) (c1 : Nat) (l1 : List (List Int)) (A2 : Option Addr) (c2 : Nat) (l2 : List (List (List Int))) (r : Int) (w : World)
    (hr1 : Kd.C (Kd.slice 3 (Kd.int .i64)) w A1 l1.length l1) (hc1 : l1.length ≤ c1) (hr2 : Kd.C (Kd.slice 22 (Kd.slice 3 (Kd.int .i64))) w A2 l2.length l2) (hc2 : l2.length ≤ c2)
    (h : timeboundref38_Common.f a0_0 a0_1 a0_2 l1 l2 = some r) :
    Calls Try.prog 12 #[.agg #[.int .i64 a0_0, .int .i64 a0_1, .int .i64 a0_2], .slice A1 l1.length c1, .slice A2 l2.length c2] w fun e w' => e = .returned (.int .i64 r) ∧ Below w.heap.size w w' := by
  unfold timeboundref38_Common.f at h
  by_cases h1 : (okLines l2 && fewLines l2 l1.length && decide (0 ≤ a0_1 ∧ a0_1 ≤ 4 ∧ l1.length ≤ 8)) = true
  · rw [if_pos h1] at h
    obtain ⟨h2, h3⟩ := (Bool.and_eq_true _ _).mp h1
    obtain ⟨hl, hf⟩ := (Bool.and_eq_true _ _).mp h2
    by_cases hlen : (l1.length : Int) = a0_0
    · have hG := timeboundref38_Common.good a0_0 a0_1 a0_2 A1 c1 l1 A2 c2 l2 w hr1 hc1 hr2 hc2 hl hf (of_decide_eq_true h3) hlen
      have e : apartC a0_0 l1 l2 = badAny a0_0 l2 := by
        unfold apartC badAny
        rw [decide_eq_false (by simpa using hlen), Bool.false_or]
      rw [e] at h
      have hr : (if badAny a0_0 l2 = true then 0 else sumC a0_1 l1 l2 l1.length) = r := by
        split at h
        · rename_i hb; rw [if_pos hb]; exact Option.some.inj h
        · rename_i hb; rw [if_neg hb]; exact Option.some.inj h
      rw [hr] at hG
      exact hG
    · have e : apartC a0_0 l1 l2 = true := by
        unfold apartC
        rw [decide_eq_true hlen, Bool.true_or]
      rw [if_pos e] at h
      obtain rfl := Option.some.inj h
      exact timeboundref38_Common.zero a0_0 a0_1 a0_2 A1 c1 l1 A2 c2 l2 w hr1.2.1 hlen
  · rw [if_neg h1] at h
    cases h

end Go.Proofs.Ytgpdnfhmmeaoeaa.PEv
