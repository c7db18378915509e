/- The lines of an access: the reference's are those of persist. -/
import Derived.Test.YtcaanbicgpfonaaPPlx1
import Derived.Test.YtcaanbicgpfonaaPPlx2
import Derived.Test.YtcaanbicgpfonaaPPlx8
import Derived.Test.YtcaanbicgpfonaaPPlx9
import Derived.Test.YtcaanbicgpfonaaPPlx10
namespace Go.Proofs.Ytcaanbicgpfonaa.PPl
open Go.RowKit Go.Proofs.YtcaanbicgpfonaaW.PrintWords Go.Proofs.YtcaanbicgpfonaaW.PrintLast Go.Proofs.YtcaanbicgpfonaaW.PrintMore
set_option linter.unusedVariables false
set_option linter.unusedSimpArgs false

/-! ### one after another, without what repeats -/
theorem addL_last (out : List Int) (n : Int) : (addL out n).getLast? = some n := by
  unfold addL
  split
  · assumption
  · simp
theorem compact_fold (c : List Int) : ∀ m, m ≤ c.length → Go.Lib.compactUpTo c.toArray m = (c.take m).foldl addL [] ∧ (0 < m → ((c.take m).foldl addL []).getLast? = c[m - 1]?)
  | 0, _ => ⟨by simp [Go.Lib.compactUpTo], fun h => absurd h (by omega)⟩
  | m + 1, h => by
    obtain ⟨e, hl⟩ := compact_fold c m (by omega)
    have hm : m < c.length := by omega
    have et : c.take (m + 1) = c.take m ++ [c[m]] := by rw [List.take_add_one, List.getElem?_eq_getElem hm]; rfl
    rw [et, List.foldl_append]
    refine ⟨?_, fun _ => ?_⟩
    · rw [Go.Lib.compactUpTo_succ, e]
      show _ = addL _ _
      have eg : c.toArray[m]! = c[m] := by simp [hm]
      rcases Nat.eq_zero_or_pos m with rfl | hp
      · rw [addL_new (by simp)]
        simp [Go.Lib.keeps]
        rw [List.getElem?_eq_getElem (by omega)]
        rfl
      · have eg2 : c.toArray[m - 1]! = c[m - 1] := by simp [show m - 1 < c.length by omega]
        have hl' := hl hp
        rw [List.getElem?_eq_getElem (by omega)] at hl'
        by_cases hq : c[m - 1] = c[m]
        · rw [addL_same (by rw [hl', hq]), Go.Lib.keeps_neg hp (by rw [eg, eg2]; exact hq.symm)]
          simp
        · rw [addL_new (by rw [hl']; exact fun h => hq (Option.some.inj h)), Go.Lib.keeps_pos (by rw [eg, eg2]; exact fun h => hq h.symm), eg]
          rfl
    · show (addL _ _).getLast? = _
      rw [addL_last, Nat.add_sub_cancel, List.getElem?_eq_getElem hm]
theorem compact_is (c : List Int) : Go.Lib.compact c = c.foldl addL [] := by
  have h := (compact_fold c c.length (Nat.le_refl _)).1
  rw [List.take_length] at h
  exact h

/-! ### the lines are in their order -/
theorem cacheIn_ok {s y n : Int} (h : CacheIn s y n) : cacheOk s y n = true := by
  obtain ⟨a, b, c, d, e, f⟩ := h
  unfold cacheOk cacheOk.withinC
  rw [decide_eq_true (show (0 : Int) ≤ s by omega), decide_eq_true (show s ≤ 8 by omega), decide_eq_true (show (1 : Int) ≤ y by omega), decide_eq_true (show y ≤ 4 by omega), decide_eq_true (show (1 : Int) ≤ n by omega), decide_eq_true (show n ≤ 8 by omega)]
  rfl
theorem lineP_val {s y n at_ : Int} (h : CacheIn s y n) (h0 : 0 ≤ at_) (h1 : at_ ≤ 5000) : lineP s y n at_ = at_ / n := by
  have hn : 1 ≤ n := h.2.2.2.2.1
  unfold lineP
  rw [if_pos (cacheIn_ok h), if_neg (by omega), Int.tdiv_eq_ediv_of_nonneg h0]
  have h2 : 0 ≤ at_ / n := Int.ediv_nonneg h0 (by omega)
  have h3 : at_ / n ≤ at_ := Int.ediv_le_self n h0
  unfold wrap64
  omega
theorem collP_ge {s y n : Int} (free : List S53) (h : CacheIn s y n) : ∀ (d : Nat) (at_ : Int), 0 ≤ at_ → at_ + d ≤ 5000 → (∀ x ∈ collP s y n free d at_, at_ / n ≤ x) ∧ (collP s y n free d at_).Pairwise (· ≤ ·)
  | 0, _, _, _ => ⟨fun x hx => by simp [collP] at hx, by simp [collP]⟩
  | d + 1, at_, h0, h1 => by
    have hn : 1 ≤ n := h.2.2.2.2.1
    obtain ⟨i1, i2⟩ := collP_ge free h d (at_ + 1) (by omega) (by omega)
    have hm : at_ / n ≤ (at_ + 1) / n := Int.ediv_le_ediv (by omega) (by omega)
    have hv := lineP_val h h0 (by omega)
    unfold collP
    rw [hv]
    refine ⟨fun x hx => ?_, ?_⟩
    · rcases List.mem_append.1 hx with hx | hx
      · split at hx
        · simp at hx; omega
        · simp at hx
      · exact Int.le_trans hm (i1 x hx)
    · rw [List.pairwise_append]
      refine ⟨?_, i2, fun a ha b hb => ?_⟩
      · split <;> simp
      · split at ha
        · simp at ha
          have := i1 b hb
          omega
        · simp at ha
theorem coll_sorted {s y n : Int} (free : List S53) (h : CacheIn s y n) (d : Nat) (at_ : Int) (h0 : 0 ≤ at_) (h1 : at_ + d ≤ 5000) : ((collP s y n free d at_).mergeSort fun x y => decide (x ≤ y)) = collP s y n free d at_ :=
  List.mergeSort_of_pairwise ((collP_ge free h d at_ h0 h1).2.imp (fun h => decide_eq_true h))

/-! ### the reference -/
theorem refLine_is {s y n : Int} (at_ : Int) (h : CacheIn s y n) : timeboundref22_Line.f s y n at_ = some (lineP s y n at_) := by
  obtain ⟨a, b, c, d, e, f⟩ := h
  unfold timeboundref22_Line.f timeboundref22_Check.f lineP
  rw [if_neg (by omega), if_neg (by omega), if_neg (by omega), if_neg (by omega), if_neg (by omega), if_neg (by omega), if_pos (cacheIn_ok ⟨a, b, c, d, e, f⟩)]
  simp only [Option.bind_some]
  rw [if_pos trivial]
  by_cases h3 : at_ < 0
  · rw [if_pos h3, if_pos h3]
  · rw [if_neg h3, if_neg h3, if_neg (by omega)]
theorem lineR_of {s y n : Int} (at_ : Int) (h : CacheIn s y n) : lineR s y n at_ = lineP s y n at_ := by
  unfold lineR
  rw [refLine_is at_ h]
  rfl
theorem collR_of {s y n : Int} (free : List S53) (h : CacheIn s y n) : ∀ (d : Nat) (at_ : Int), 0 ≤ at_ → at_ + d ≤ 5000 → collR s y n free d at_ = collP s y n free d at_
  | 0, _, _, _ => rfl
  | d + 1, at_, h0, h1 => by
    have hv : 0 ≤ lineP s y n at_ := by
      rw [lineP_val h h0 (by omega)]
      exact Int.ediv_nonneg h0 (by have := h.2.2.2.2.1; omega)
    rw [collR_step, collR_of free h d (at_ + 1) (by omega) (by omega), lineR_of at_ h]
    have hP : collP s y n free (d + 1) at_ = (if (decide (0 ≤ lineP s y n at_) && !free.any (inSpan at_)) = true then [lineP s y n at_] else []) ++ collP s y n free d (at_ + 1) := rfl
    rw [hP, decide_eq_true hv, Bool.true_and]
/-- The lines of an access within 1000 words: persist's and the reference's. -/
theorem lines_same (a0_0 : Int) (a0_1 : Int) (a0_2 : Int) (a0_3 : Int) (a0_4 : Int) (a0_5 : Int) (a0_6 : Int) (a0_7 : Int) (a0_8 : Int) (a0_9 : Int) (a0_10 : Int) (a0_11 : Int) (a0_12 : Int) (a0_13 : Int) (a0_14 : Int) (l0_15 l0_16 : List S53) (b0 b1 b2 : Int) (hc : CacheIn a0_3 a0_4 a0_5) (hb0 : 0 ≤ b1) (hb1 : b1 ≤ b2 + 1) (hb2 : b2 ≤ 1000) :
    ∃ r, persist_Lines.f a0_0 a0_1 a0_2 a0_3 a0_4 a0_5 a0_6 a0_7 a0_8 a0_9 a0_10 a0_11 a0_12 a0_13 a0_14 l0_15 l0_16 b0 b1 b2 = some r ∧ timeboundref26_Lines.f a0_0 a0_1 a0_2 a0_3 a0_4 a0_5 a0_6 a0_7 a0_8 a0_9 a0_10 a0_11 a0_12 a0_13 a0_14 l0_15 l0_16 b0 b1 b2 = some r := by
  obtain ⟨d, hd⟩ := Int.eq_ofNat_of_zero_le (show 0 ≤ b2 + 1 - b1 by omega)
  have e1 : mx 0 b1 = b1 := by unfold mx; split <;> omega
  have e2 : mn b2 1023 = b2 := by unfold mn; split <;> omega
  have e3 : (b2 + 1 - b1).toNat = d := by omega
  refine ⟨(collP a0_3 a0_4 a0_5 l0_16 d b1).foldl addL [], ?_, ?_⟩
  · unfold persist_Lines.f linesP spanOf
    rw [e1, e2, e3, coll_sorted l0_16 hc d b1 hb0 (by omega), compact_is]
  · unfold timeboundref26_Lines.f
    rw [if_pos ⟨by omega, by omega, by omega⟩, e3, collR_of l0_16 hc d b1 hb0 (by omega)]
end Go.Proofs.Ytcaanbicgpfonaa.PPl
