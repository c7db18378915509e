/- The reference's answers of layer 40 are those of blocking. -/
import Derived.Test.YtgpdnfhmmeaoeaaB6
namespace Go.Proofs.Ytgpdnfhmmeaoeaa.PBt
open Go.RowKit Go.Proofs.YtgpdnfhmmeaoeaaW.PrintWords Go.Proofs.YtgpdnfhmmeaoeaaW.PrintLast Go.Proofs.YtgpdnfhmmeaoeaaW.PrintMore
set_option linter.unusedVariables false
set_option linter.unusedSimpArgs false

theorem from_is (n lo hi : Int) : timeboundref40_from.f n lo hi = some (withinP n lo hi) := by
  unfold timeboundref40_from.f withinP
  by_cases h : n ≥ lo
  · rw [if_pos h, decide_eq_true (show lo ≤ n from h), Bool.true_and]
  · rw [if_neg h, decide_eq_false (show ¬ lo ≤ n from h), Bool.false_and]
theorem wr1' (j : Nat) (h : (j : Int) < 9223372036854775807) : wrap64 ((j : Int) + 1) = ((j + 1 : Nat) : Int) := by unfold wrap64; omega

/-! ### which jobs are valid -/
theorem refValid_l1 (l : List S48) (hs : List S50) (hhs : hs.length ≤ 9223372036854775807) (j : Int) (R : Bool) (hR : ∃ k, timeboundref40_Valid.l0 k l l (l.length : Int) (wrap64 (j + 1)) = some R) : ∀ (d t : Nat), t + d = hs.length →
    ∃ k, timeboundref40_Valid.l1 k l l (l.length : Int) j hs (hs.length : Int) t = some (!(hs.drop t).any badHold && R)
  | 0, t, ht => by
    obtain ⟨k, hk⟩ := hR
    refine ⟨k + 1, ?_⟩
    simp only [timeboundref40_Valid.l1]; rw [if_neg (by omega), List.drop_eq_nil_of_le (by omega)]
    simpa using hk
  | d + 1, t, ht => by
    have hlt : t < hs.length := by omega
    obtain ⟨k, hk⟩ := refValid_l1 l hs hhs j R hR d (t + 1) (by omega)
    refine ⟨k + 1, ?_⟩
    have er : rd_T50 hs t = hs.getD t z50 := rfl
    simp only [timeboundref40_Valid.l1]; rw [if_pos (by omega), if_pos (by omega), if_pos (by omega), er, from_is]
    rw [drop_cons z50 hs t hlt, List.any_cons]
    simp only [Option.bind_some]
    generalize hs.getD t z50 = h at hk ⊢
    have eb : badHold h = (!withinP h.f0 0 3 || !withinP h.f1 0 16777216) := rfl
    rw [eb]
    cases h1 : withinP h.f0 0 3 with
    | false => rfl
    | true =>
      rw [if_pos rfl, from_is]
      simp only [Option.bind_some]
      cases h2 : withinP h.f1 0 16777216 with
      | false => rfl
      | true =>
        rw [if_pos rfl, wr1' t (by omega), hk]
        rfl
theorem refValid_l0 (l : List S48) (hl : l.length ≤ 1000) (hs : ∀ j : Nat, (rd_T48 l j).f5.length ≤ 9223372036854775807) : ∀ (d j : Nat), j + d = l.length →
    ∃ k, timeboundref40_Valid.l0 k l l (l.length : Int) j = some (!(l.drop j).any badJob && decide ((l.length : Int) ≤ 6))
  | 0, j, hj => by
    refine ⟨1, ?_⟩
    simp only [timeboundref40_Valid.l0]; rw [if_neg (by omega), List.drop_eq_nil_of_le (by omega)]; rfl
  | d + 1, j, hj => by
    have hlt : j < l.length := by omega
    have ih := refValid_l0 l hl hs d (j + 1) (by omega)
    rw [← wr1' j (by omega)] at ih
    obtain ⟨k, hk⟩ := refValid_l1 l (rd_T48 l j).f5 (hs j) j _ ih (rd_T48 l j).f5.length 0 (by omega)
    refine ⟨k + 2, ?_⟩
    rw [drop_cons z48 l j hlt, List.any_cons]
    have er : l.getD j z48 = rd_T48 l j := rfl
    rw [er]
    simp only [timeboundref40_Valid.l0]; rw [if_pos (by omega), if_pos (by omega), if_pos (by omega), from_is]
    simp only [Option.bind_some]
    rw [List.drop_zero] at hk
    generalize rd_T48 l j = x at hk ⊢
    generalize (l.drop (j + 1)).any badJob = P at hk ⊢
    generalize decide ((l.length : Int) ≤ 6) = Q at hk ⊢
    have eb : badJob x = (!withinP x.f0 1 16777216 || !withinP x.f1 1 x.f0 || !withinP x.f2 0 x.f0 || !withinP x.f3 0 15 || !withinP x.f4 0 16777216 || !withinP x.f6 0 16777216 || x.f5.any badHold) := rfl
    rw [eb]
    have jt : ∀ a b c d e f g, timeboundref40_Valid.j1 (k + 1) l l (l.length : Int) j true a b c d e f g = some false := fun a b c d e f g => by
      simp only [timeboundref40_Valid.j1]; rw [if_pos trivial]
    cases h1 : withinP x.f0 1 16777216 with
    | false => rw [if_neg (by decide)]; exact jt _ _ _ _ _ _ _
    | true =>
    rw [if_pos rfl, from_is]; simp only [Option.bind_some]
    cases h2 : withinP x.f1 1 x.f0 with
    | false => rw [if_neg (by decide)]; exact jt _ _ _ _ _ _ _
    | true =>
    rw [if_pos rfl, from_is]; simp only [Option.bind_some]
    cases h3 : withinP x.f2 0 x.f0 with
    | false => rw [if_neg (by decide)]; exact jt _ _ _ _ _ _ _
    | true =>
    rw [if_pos rfl, from_is]; simp only [Option.bind_some]
    cases h4 : withinP x.f3 0 15 with
    | false => rw [if_neg (by decide)]; exact jt _ _ _ _ _ _ _
    | true =>
    rw [if_pos rfl, from_is]; simp only [Option.bind_some]
    cases h5 : withinP x.f4 0 16777216 with
    | false => rw [if_neg (by decide)]; exact jt _ _ _ _ _ _ _
    | true =>
    rw [if_pos rfl, from_is]; simp only [Option.bind_some]
    cases h6 : withinP x.f6 0 16777216 with
    | false => exact jt _ _ _ _ _ _ _
    | true =>
      simp only [timeboundref40_Valid.j1]; rw [if_neg (by decide)]
      refine hk.trans ?_
      generalize x.f5.any badHold = S
      cases S <;> cases P <;> cases Q <;> rfl
theorem refValid_is (l : List S48) (hl : l.length ≤ 1000) (hs : ∀ j : Nat, (rd_T48 l j).f5.length ≤ 9223372036854775807) : ∃ k, timeboundref40_Valid.f k l = some (validP l) := by
  obtain ⟨k, hk⟩ := refValid_l0 l hl hs l.length 0 (by omega)
  refine ⟨k, hk.trans ?_⟩
  rw [List.drop_zero, Bool.and_comm]
  rfl

/-! ### which is before which -/
theorem refBefore_is (l : List S48) (i j : Int) : timeboundref40_Before.f l i j = some (beforeP l i j) := by
  unfold timeboundref40_Before.f
  have no : ¬ ((0 ≤ i ∧ i < (l.length : Int)) ∧ (0 ≤ j ∧ j < (l.length : Int)) ∧ i ≠ j) → beforeP l i j = false := fun h => by
    refine decide_eq_false (fun hh => h ⟨hh.1, hh.2.1, ?_⟩)
    rintro rfl
    have := hh.2.2
    omega
  by_cases h1 : i < 0
  · rw [if_pos h1, no (by omega)]
  rw [if_neg h1]
  by_cases h2 : j < 0
  · rw [if_pos h2, no (by omega)]
  rw [if_neg h2]
  by_cases h3 : i ≥ (l.length : Int)
  · rw [if_pos h3, no (by omega)]
  rw [if_neg h3]
  by_cases h4 : j ≥ (l.length : Int)
  · rw [if_pos h4, no (by omega)]
  rw [if_neg h4]
  by_cases h5 : i = j
  · rw [if_pos h5, no (by omega)]
  rw [if_neg h5, if_pos (by omega), if_pos (by omega), if_pos (by omega), if_pos (by omega)]
  by_cases h6 : (rd_T48 l i).f3 > (rd_T48 l j).f3
  · rw [if_pos h6]
    exact congrArg some (decide_eq_true ⟨by omega, by omega, .inl h6⟩).symm
  · rw [if_neg h6]
    by_cases h7 : (rd_T48 l i).f3 = (rd_T48 l j).f3
    · rw [if_pos h7]
      refine congrArg some ?_
      unfold beforeP
      by_cases h8 : i < j
      · rw [decide_eq_true h8, decide_eq_true ⟨by omega, by omega, .inr ⟨h7, h8⟩⟩]
      · rw [decide_eq_false h8, decide_eq_false (by rintro ⟨_, _, h | h⟩; exact h6 h; exact h8 h.2)]
    · rw [if_neg h7]
      exact congrArg some (decide_eq_false (by rintro ⟨_, _, h | h⟩; exact h6 h; exact h7 h.1)).symm

/-! ### ceilings -/
theorem refUses_l0 (hs : List S50) (q : Int) (hhs : hs.length ≤ 9223372036854775807) : ∀ (d t : Nat), t + d = hs.length → ∃ k, timeboundref40_uses.l0 k q hs (hs.length : Int) t = some ((hs.drop t).any fun h => h.f0 == q)
  | 0, t, ht => by
    refine ⟨1, ?_⟩
    simp only [timeboundref40_uses.l0]; rw [if_neg (by omega), List.drop_eq_nil_of_le (by omega)]; rfl
  | d + 1, t, ht => by
    have hlt : t < hs.length := by omega
    obtain ⟨k, hk⟩ := refUses_l0 hs q hhs d (t + 1) (by omega)
    refine ⟨k + 1, ?_⟩
    have er : rd_T50 hs t = hs.getD t z50 := rfl
    rw [drop_cons z50 hs t hlt, List.any_cons]
    simp only [timeboundref40_uses.l0]; rw [if_pos (by omega), if_pos (by omega), if_pos (by omega), er]
    generalize hs.getD t z50 = h at hk ⊢
    by_cases e : h.f0 = q
    · rw [if_pos e, beq_iff_eq.mpr e]; rfl
    · rw [if_neg e, wr1' t (by omega), hk, beq_eq_false_iff_ne.mpr e]; rfl
theorem refUses_is (x : S48) (q : Int) (hx : x.f5.length ≤ 9223372036854775807) : ∃ k, timeboundref40_uses.f k x.f0 x.f1 x.f2 x.f3 x.f4 x.f5 x.f6 q = some (usesP x q) := by
  obtain ⟨k, hk⟩ := refUses_l0 x.f5 q hx x.f5.length 0 (by omega)
  exact ⟨k, hk⟩
theorem refUses_up (x : S48) (q : Int) (r : Bool) : ∀ (k m : Nat), k ≤ m → timeboundref40_uses.f k x.f0 x.f1 x.f2 x.f3 x.f4 x.f5 x.f6 q = some r → timeboundref40_uses.f m x.f0 x.f1 x.f2 x.f3 x.f4 x.f5 x.f6 q = some r := by
  intro k m h hk
  induction h with
  | refl => exact hk
  | step _ ih => exact timeboundref40_uses.mono _ _ _ _ _ _ _ _ _ _ ih
theorem refCeil_up (l : List S48) (q : Int) : ∀ (k m : Nat) (r : Int × Bool), k ≤ m → ∀ y2 y3 y5 y6, timeboundref40_Ceiling.l0 k l q y2 y3 l y5 y6 = some r → timeboundref40_Ceiling.l0 m l q y2 y3 l y5 y6 = some r := by
  intro k m r h y2 y3 y5 y6 hk
  induction h with
  | refl => exact hk
  | step _ ih => exact timeboundref40_Ceiling.mono_l _ _ _ _ _ _ _ _ _ ih
theorem refCeil_l0 (l : List S48) (q : Int) (hl : l.length ≤ 1000) (hs : ∀ j : Nat, (rd_T48 l j).f5.length ≤ 9223372036854775807) : ∀ (d j : Nat), j + d = l.length →
    ∃ k, timeboundref40_Ceiling.l0 k l q ((ceilP l q j).1 : Int) (ceilP l q j).2 l (l.length : Int) j = some (((ceilP l q l.length).1 : Int), (ceilP l q l.length).2)
  | 0, j, hj => by
    obtain rfl : j = l.length := by omega
    refine ⟨1, ?_⟩
    simp only [timeboundref40_Ceiling.l0]; rw [if_neg (by omega)]
  | d + 1, j, hj => by
    have hlt : j < l.length := by omega
    obtain ⟨k1, hk1⟩ := refCeil_l0 l q hl hs d (j + 1) (by omega)
    obtain ⟨k2, hk2⟩ := refUses_is (rd_T48 l j) q (hs j)
    have hk3 := refCeil_up l q k1 (max k1 k2) _ (Nat.le_max_left _ _) _ _ _ _ hk1
    have hk4 := refUses_up _ q _ k2 (max k1 k2) (Nat.le_max_right _ _) hk2
    refine ⟨max k1 k2 + 1, ?_⟩
    simp only [timeboundref40_Ceiling.l0]; rw [if_pos (by omega), if_pos (by omega), if_pos (by omega), hk4]
    simp only [Option.bind_some]
    rw [wr1' j (by omega)]
    generalize (some (((ceilP l q l.length).1 : Int), (ceilP l q l.length).2)) = R at hk3 ⊢
    have er : l.getD j z48 = rd_T48 l j := rfl
    unfold ceilP at hk3
    rw [er] at hk3
    generalize ceilP l q j = cp at hk3 ⊢
    obtain ⟨c, f⟩ := cp
    simp only at hk3 ⊢
    cases hu : usesP (rd_T48 l j) q with
    | false =>
      rw [hu, if_neg (by simp)] at hk3
      rw [if_neg (by decide)]
      exact hk3
    | true =>
      rw [hu] at hk3
      rw [if_pos rfl]
      cases f with
      | false =>
        rw [if_pos (show (true && (!false || beforeP l j c)) = true from rfl)] at hk3
        rw [if_neg (by decide)]
        exact hk3
      | true =>
        rw [if_pos rfl, refBefore_is]
        simp only [Option.bind_some]
        cases hb : beforeP l j c with
        | true => rw [hb, if_pos (show (true && (!true || true)) = true from rfl)] at hk3; rw [if_pos rfl]; exact hk3
        | false => rw [hb, if_neg (by decide)] at hk3; rw [if_neg (by decide)]; exact hk3
theorem refCeiling_is (l : List S48) (q : Int) (hl : l.length ≤ 1000) (hs : ∀ j : Nat, (rd_T48 l j).f5.length ≤ 9223372036854775807) : ∃ k, timeboundref40_Ceiling.f k l q = some (((ceilP l q l.length).1 : Int), (ceilP l q l.length).2) :=
  refCeil_l0 l q hl hs l.length 0 (by omega)
theorem refCeiling_up (l : List S48) (q : Int) (r : Int × Bool) (k m : Nat) (h : k ≤ m) (hk : timeboundref40_Ceiling.f k l q = some r) : timeboundref40_Ceiling.f m l q = some r :=
  refCeil_up l q k m r h _ _ _ _ hk

/-! ### blocking -/
theorem refBlocking_up (l : List S48) (i n : Int) : ∀ (k m : Nat) (r : Int), k ≤ m → (∀ y7 y16, timeboundref40_Blocking.l0 k l i n y7 l (l.length : Int) y16 = some r → timeboundref40_Blocking.l0 m l i n y7 l (l.length : Int) y16 = some r) ∧
    (∀ y7 y16 hs y31 y32, timeboundref40_Blocking.l1 k l i n y7 l (l.length : Int) y16 hs y31 y32 = some r → timeboundref40_Blocking.l1 m l i n y7 l (l.length : Int) y16 hs y31 y32 = some r) := by
  intro k m r h
  induction h with
  | refl => exact ⟨fun _ _ h => h, fun _ _ _ _ _ h => h⟩
  | step _ ih => exact ⟨fun _ _ h => (timeboundref40_Blocking.mono_l _).1 _ _ _ _ _ _ _ _ (ih.1 _ _ h), fun _ _ _ _ _ h => (timeboundref40_Blocking.mono_l _).2 _ _ _ _ _ _ _ _ _ _ _ (ih.2 _ _ _ _ _ h)⟩
theorem refBlocking_l1 (l : List S48) (i n : Int) (hl : l.length ≤ 1000) (hls : ∀ j : Nat, (rd_T48 l j).f5.length ≤ 9223372036854775807) (hs : List S50) (hhs : hs.length ≤ 1000) (j : Nat) (R : Int → Int) (hR : ∀ m, ∃ k, timeboundref40_Blocking.l0 k l i n m l (l.length : Int) (wrap64 ((j : Int) + 1)) = some (R m)) : ∀ (d t : Nat) (m : Int), t + d = hs.length →
    ∃ k, timeboundref40_Blocking.l1 k l i n m l (l.length : Int) j hs (hs.length : Int) t = some (R (holdGo l i (hs.drop t) m))
  | 0, t, m, ht => by
    obtain ⟨k, hk⟩ := hR m
    refine ⟨k + 1, ?_⟩
    simp only [timeboundref40_Blocking.l1]; rw [if_neg (by omega), List.drop_eq_nil_of_le (by omega)]
    exact hk
  | d + 1, t, m, ht => by
    have hlt : t < hs.length := by omega
    rw [drop_cons z50 hs t hlt]
    obtain ⟨k1, hk1⟩ := refBlocking_l1 l i n hl hls hs hhs j R hR d (t + 1) (if good l i (hs.getD t z50).f0 = true then mx m (hs.getD t z50).f1 else m) (by omega)
    obtain ⟨k2, hk2⟩ := refCeiling_is l (hs.getD t z50).f0 hl hls
    have hk := (refBlocking_up l i n k1 (max k1 k2) _ (Nat.le_max_left _ _)).2 _ _ _ _ _ hk1
    have hk4 := refCeiling_up l _ _ k2 (max k1 k2) (Nat.le_max_right _ _) hk2
    clear hk1 hk2
    refine ⟨max k1 k2 + 1, ?_⟩
    have er : rd_T50 hs t = hs.getD t z50 := rfl
    simp only [timeboundref40_Blocking.l1]; rw [if_pos (by omega), if_pos (by omega), if_pos (by omega), er, hk4]
    generalize hs.getD t z50 = h at hk ⊢
    simp only [Option.bind_some]
    rw [wr1 t (by omega)]
    unfold good at hk
    unfold holdGo good
    generalize ceilP l h.f0 l.length = cp at hk ⊢
    obtain ⟨c, f⟩ := cp
    simp only at hk ⊢
    cases f with
    | false => rw [if_neg (by decide)]; exact hk
    | true =>
      rw [if_pos rfl]
      by_cases hci : (c : Int) = i
      · rw [if_pos hci]
        rw [decide_eq_true hci] at hk ⊢
        exact hk
      · rw [if_neg hci, refBefore_is l c i]
        rw [decide_eq_false hci] at hk ⊢
        simp only [Option.bind_some, Bool.true_and, Bool.false_or] at hk ⊢
        by_cases hb : beforeP l c i = true
        · rw [if_pos hb] at hk ⊢; rw [if_pos hb]; exact hk
        · rw [if_neg hb] at hk ⊢; rw [if_neg hb]; exact hk
theorem refBlocking_l0 (l : List S48) (i n : Int) (hl : l.length ≤ 1000) (hs : ∀ j : Nat, (rd_T48 l j).f5.length ≤ 1000) : ∀ (d j : Nat) (m : Int), j + d = l.length →
    ∃ k, timeboundref40_Blocking.l0 k l i n m l (l.length : Int) j = some (jobGo l i n d j m)
  | 0, j, m, hj => by
    refine ⟨1, ?_⟩
    simp only [timeboundref40_Blocking.l0]; rw [if_neg (by omega)]; rfl
  | d + 1, j, m, hj => by
    have hR : ∀ m, ∃ k, timeboundref40_Blocking.l0 k l i n m l (l.length : Int) (wrap64 ((j : Int) + 1)) = some (jobGo l i n d (j + 1) m) := fun m => by
      rw [wr1 j (by omega)]
      exact refBlocking_l0 l i n hl hs d (j + 1) m (by omega)
    unfold jobGo
    by_cases hb : beforeP l i j = true
    · obtain ⟨k, hk⟩ := refBlocking_l1 l i n hl (fun j => Nat.le_trans (hs j) (by omega)) (rd_T48 l j).f5 (hs j) j _ hR (rd_T48 l j).f5.length 0 (mx m n) (by omega)
      refine ⟨k + 1, ?_⟩
      simp only [timeboundref40_Blocking.l0]; rw [if_pos (by omega), if_pos (by omega), if_pos (by omega), refBefore_is l i j]
      simp only [Option.bind_some]
      rw [if_pos hb, if_pos hb]
      exact hk
    · obtain ⟨k, hk⟩ := hR m
      refine ⟨k + 1, ?_⟩
      simp only [timeboundref40_Blocking.l0]; rw [if_pos (by omega), if_pos (by omega), if_pos (by omega), refBefore_is l i j]
      simp only [Option.bind_some]
      rw [if_neg hb, if_neg hb]
      exact hk
theorem refBlocking_is (l : List S48) (i n : Int) (hl : l.length ≤ 1000) (hs : ∀ j : Nat, (rd_T48 l j).f5.length ≤ 1000) : ∃ k, timeboundref40_Blocking.f k l i n = some (blockP l i n) :=
  refBlocking_l0 l i n hl hs l.length 0 0 (by omega)
end Go.Proofs.Ytgpdnfhmmeaoeaa.PBt
