/- What blocking.Blocking computes; that it grows. -/
import Derived.Test.YtgpdnfhmmeaoeaaPBtx
namespace Go.Proofs.Ytgpdnfhmmeaoeaa.PBt
open Go.RowKit Go.Proofs.YtgpdnfhmmeaoeaaW.PrintWords Go.Proofs.YtgpdnfhmmeaoeaaW.PrintLast Go.Proofs.YtgpdnfhmmeaoeaaW.PrintMore
set_option linter.unusedVariables false
set_option linter.unusedSimpArgs false

/-! ### the order of jobs -/
def prio (l : List S48) (i : Int) : Int := (rd_T48 l i).f3
theorem beforeP_iff (l : List S48) (i j : Int) : beforeP l i j = true ↔ (0 ≤ i ∧ i < l.length) ∧ (0 ≤ j ∧ j < l.length) ∧ (prio l j < prio l i ∨ prio l i = prio l j ∧ i < j) := by
  unfold beforeP prio
  rw [decide_eq_true_eq]
theorem beforeP_trans {l : List S48} {i j k : Int} (h : beforeP l i j = true) (h' : beforeP l j k = true) : beforeP l i k = true := by
  rw [beforeP_iff] at *
  omega
theorem beforeP_total (l : List S48) (i j : Int) (hi : 0 ≤ i ∧ i < l.length) (hj : 0 ≤ j ∧ j < l.length) (hne : i ≠ j) : beforeP l i j = true ∨ beforeP l j i = true := by
  rw [beforeP_iff, beforeP_iff]
  omega

/-! ### ceilings -/
theorem ceilP_spec (l : List S48) (q : Int) : ∀ k, k ≤ l.length →
    ((ceilP l q k).2 = false → (ceilP l q k).1 = 0 ∧ ∀ j, j < k → usesP (l.getD j z48) q = false) ∧
    ((ceilP l q k).2 = true → (ceilP l q k).1 < k ∧ usesP (l.getD (ceilP l q k).1 z48) q = true ∧ ∀ j, j < k → usesP (l.getD j z48) q = true → j = (ceilP l q k).1 ∨ beforeP l (ceilP l q k).1 j = true)
  | 0, _ => ⟨fun _ => ⟨rfl, fun j h => by omega⟩, fun h => by cases h⟩
  | k + 1, hk => by
    obtain ⟨h1, h2⟩ := ceilP_spec l q k (by omega)
    unfold ceilP
    generalize ceilP l q k = cp at h1 h2
    obtain ⟨c, f⟩ := cp
    simp only at h1 h2 ⊢
    by_cases hu : usesP (l.getD k z48) q = true
    · cases f with
      | false =>
        rw [if_pos (by rw [hu]; rfl)]
        refine ⟨(fun h => by cases h), fun _ => ⟨Nat.lt_succ_self k, hu, fun j hj hju => ?_⟩⟩
        rcases Nat.lt_or_ge j k with h | h
        · rw [(h1 rfl).2 j h] at hju; cases hju
        · exact .inl (by omega)
      | true =>
        obtain ⟨hc, huc, hall⟩ := h2 rfl
        by_cases hb : beforeP l k c = true
        · rw [if_pos (by rw [hu, hb]; rfl)]
          refine ⟨(fun h => by cases h), fun _ => ⟨Nat.lt_succ_self k, hu, fun j hj hju => ?_⟩⟩
          rcases Nat.lt_or_ge j k with h | h
          · rcases hall j h hju with rfl | hcj
            · exact .inr hb
            · exact .inr (beforeP_trans hb hcj)
          · exact .inl (by show j = k; omega)
        · rw [if_neg (by rw [hu]; simp [hb])]
          refine ⟨(fun h => by cases h), fun _ => ⟨by omega, huc, fun j hj hju => ?_⟩⟩
          rcases Nat.lt_or_ge j k with h | h
          · exact hall j h hju
          · obtain rfl : j = k := by omega
            rcases beforeP_total l c j (by omega) (by omega) (by omega) with h3 | h3
            · exact .inr h3
            · exact absurd h3 hb
    · have hu' : usesP (l.getD k z48) q = false := Bool.eq_false_iff.mpr hu
      rw [if_neg (by rw [hu']; simp)]
      refine ⟨fun h => ⟨(h1 h).1, fun j hj => ?_⟩, fun h => ⟨by have := (h2 h).1; omega, (h2 h).2.1, fun j hj hju => ?_⟩⟩
      · rcases Nat.lt_or_ge j k with h3 | h3
        · exact (h1 h).2 j h3
        · obtain rfl : j = k := by omega
          exact hu'
      · rcases Nat.lt_or_ge j k with h3 | h3
        · exact (h2 h).2.2 j h3 hju
        · obtain rfl : j = k := by omega
          rw [hu'] at hju; cases hju
/-- Does a resource of this ceiling hold job i up? -/
def good (l : List S48) (i : Int) (q : Int) : Bool := (ceilP l q l.length).2 && (decide (((ceilP l q l.length).1 : Int) = i) || beforeP l (ceilP l q l.length).1 i)
theorem good_iff (l : List S48) (i q : Int) (hi : 0 ≤ i ∧ i < l.length) : good l i q = true ↔ ∃ j : Nat, j < l.length ∧ usesP (l.getD j z48) q = true ∧ ((j : Int) = i ∨ beforeP l j i = true) := by
  obtain ⟨h1, h2⟩ := ceilP_spec l q l.length (Nat.le_refl _)
  unfold good
  generalize ceilP l q l.length = cp at h1 h2
  obtain ⟨c, f⟩ := cp
  simp only at h1 h2 ⊢
  cases f with
  | false =>
    simp only [Bool.false_and]
    refine ⟨fun h => (by cases h), fun ⟨j, hj, hu, _⟩ => ?_⟩
    rw [(h1 rfl).2 j hj] at hu; cases hu
  | true =>
    obtain ⟨hc, huc, hall⟩ := h2 rfl
    rw [Bool.true_and, Bool.or_eq_true, decide_eq_true_eq]
    refine ⟨fun h => ⟨c, hc, huc, h⟩, fun ⟨j, hj, hu, h⟩ => ?_⟩
    rcases hall j hj hu with rfl | hb
    · exact h
    · rcases h with h | h
      · subst h; exact .inr hb
      · exact .inr (beforeP_trans hb h)

/-! ### blocking -/
def holdGo (l : List S48) (i : Int) : List S50 → Int → Int
  | [], m => m
  | h :: r, m => holdGo l i r (if good l i h.f0 = true then mx m h.f1 else m)
def jobGo (l : List S48) (i n : Int) : Nat → Nat → Int → Int
  | 0, _, m => m
  | d + 1, j, m => jobGo l i n d (j + 1) (if beforeP l i j = true then holdGo l i (rd_T48 l j).f5 (mx m n) else m)
def blockP (l : List S48) (i n : Int) : Int := jobGo l i n l.length 0 0
theorem wr1 (j : Nat) (h : (j : Int) < 9223372036854775807) : wrap64 ((j : Int) + 1) = ((j + 1 : Nat) : Int) := by unfold wrap64; omega
theorem drop_cons {α : Type} (z : α) (l : List α) (j : Nat) (h : j < l.length) : l.drop j = l.getD j z :: l.drop (j + 1) := by
  rw [List.drop_eq_getElem_cons h, List.getD_eq_getElem?_getD, List.getElem?_eq_getElem h]; rfl
theorem Blocking_l1 (l : List S48) (i n : Int) (hl : l.length ≤ 1000) (hs : List S50) (hhs : hs.length ≤ 1000) (j : Nat) (R : Int → Int) (hR : ∀ m, ∃ k, blocking_Blocking.l0 k l i n m l (l.length : Int) (wrap64 ((j : Int) + 1)) = some (R m)) : ∀ (d t : Nat) (m : Int), t + d = hs.length →
    ∃ k, blocking_Blocking.l1 k l i n m l (l.length : Int) j hs (hs.length : Int) t = some (R (holdGo l i (hs.drop t) m))
  | 0, t, m, ht => by
    obtain ⟨k, hk⟩ := hR m
    refine ⟨k + 1, ?_⟩
    simp only [blocking_Blocking.l1]; rw [if_neg (by omega), List.drop_eq_nil_of_le (by omega)]
    exact hk
  | d + 1, t, m, ht => by
    have hlt : t < hs.length := by omega
    rw [drop_cons z50 hs t hlt]
    obtain ⟨k, hk⟩ := Blocking_l1 l i n hl hs hhs j R hR d (t + 1) (if good l i (hs.getD t z50).f0 = true then mx m (hs.getD t z50).f1 else m) (by omega)
    refine ⟨k + 1, ?_⟩
    have er : rd_T50 hs t = hs.getD t z50 := rfl
    simp only [blocking_Blocking.l1]; rw [if_pos (by omega), if_pos (by omega), if_pos (by omega), er]
    generalize hs.getD t z50 = h at hk ⊢
    unfold blocking_Ceiling.f
    simp only [Option.bind_some]
    rw [wr1 t (by omega)]
    unfold good at hk
    unfold holdGo good
    generalize ceilP l h.f0 l.length = cp at hk ⊢
    obtain ⟨c, f⟩ := cp
    simp only at hk ⊢
    cases f with
    | false => rw [if_neg (by decide)]; exact hk
    | true =>
      rw [if_pos rfl]
      by_cases hci : (c : Int) = i
      · rw [if_pos hci]
        rw [decide_eq_true hci] at hk ⊢
        exact hk
      · rw [if_neg hci, before_is l c i (by omega)]
        rw [decide_eq_false hci] at hk ⊢
        simp only [Option.bind_some, Bool.true_and, Bool.false_or] at hk ⊢
        by_cases hb : beforeP l c i = true
        · rw [if_pos hb] at hk ⊢; rw [if_pos hb]; exact hk
        · rw [if_neg hb] at hk ⊢; rw [if_neg hb]; exact hk
theorem Blocking_l0 (l : List S48) (i n : Int) (hl : l.length ≤ 1000) (hs : ∀ j : Nat, (rd_T48 l j).f5.length ≤ 1000) : ∀ (d j : Nat) (m : Int), j + d = l.length →
    ∃ k, blocking_Blocking.l0 k l i n m l (l.length : Int) j = some (jobGo l i n d j m)
  | 0, j, m, hj => by
    refine ⟨1, ?_⟩
    simp only [blocking_Blocking.l0]; rw [if_neg (by omega)]; rfl
  | d + 1, j, m, hj => by
    have hR : ∀ m, ∃ k, blocking_Blocking.l0 k l i n m l (l.length : Int) (wrap64 ((j : Int) + 1)) = some (jobGo l i n d (j + 1) m) := fun m => by
      rw [wr1 j (by omega)]
      exact Blocking_l0 l i n hl hs d (j + 1) m (by omega)
    unfold jobGo
    by_cases hb : beforeP l i j = true
    · obtain ⟨k, hk⟩ := Blocking_l1 l i n hl (rd_T48 l j).f5 (hs j) j _ hR (rd_T48 l j).f5.length 0 (mx m n) (by omega)
      refine ⟨k + 1, ?_⟩
      simp only [blocking_Blocking.l0]; rw [if_pos (by omega), if_pos (by omega), if_pos (by omega), before_is l i j (by omega)]
      simp only [Option.bind_some]
      rw [if_pos hb, if_pos hb]
      exact hk
    · obtain ⟨k, hk⟩ := hR m
      refine ⟨k + 1, ?_⟩
      simp only [blocking_Blocking.l0]; rw [if_pos (by omega), if_pos (by omega), if_pos (by omega), before_is l i j (by omega)]
      simp only [Option.bind_some]
      rw [if_neg hb, if_neg hb]
      exact hk
theorem Blocking_is (l : List S48) (i n : Int) (hl : l.length ≤ 1000) (hs : ∀ j : Nat, (rd_T48 l j).f5.length ≤ 1000) : ∃ k, blocking_Blocking.f k l i n = some (blockP l i n) :=
  Blocking_l0 l i n hl hs l.length 0 0 (by omega)

/-! ### it grows -/
theorem le_mx (a b : Int) : a ≤ mx a b ∧ b ≤ mx a b := by unfold mx; split <;> omega
theorem mx_mono {a b c d : Int} (h : a ≤ c) (h' : b ≤ d) : mx a b ≤ mx c d := by unfold mx; split <;> split <;> omega
/-- y is x, with one section more in one job. -/
def More (x y : List S48) : Prop := y.length = x.length ∧ ∀ j : Nat, (rd_T48 y j).f3 = (rd_T48 x j).f3 ∧ ∃ t, (rd_T48 y j).f5 = (rd_T48 x j).f5 ++ t
theorem More.before {x y : List S48} (h : More x y) (i j : Int) : beforeP y i j = beforeP x i j := by
  rw [Bool.eq_iff_iff, beforeP_iff, beforeP_iff, h.1]
  unfold prio
  constructor
  · rintro ⟨h1, h2, h3⟩
    have a1 := (h.2 i.toNat).1
    have a2 := (h.2 j.toNat).1
    rw [Int.toNat_of_nonneg h1.1] at a1
    rw [Int.toNat_of_nonneg h2.1] at a2
    exact ⟨h1, h2, by rwa [a1, a2] at h3⟩
  · rintro ⟨h1, h2, h3⟩
    have a1 := (h.2 i.toNat).1
    have a2 := (h.2 j.toNat).1
    rw [Int.toNat_of_nonneg h1.1] at a1
    rw [Int.toNat_of_nonneg h2.1] at a2
    exact ⟨h1, h2, by rwa [a1, a2]⟩
theorem More.refl (x : List S48) : More x x := ⟨rfl, fun j => ⟨rfl, [], by simp⟩⟩
theorem More.good {x y : List S48} (h : More x y) (i q : Int) (hi : 0 ≤ i ∧ i < x.length) (hg : good x i q = true) : good y i q = true := by
  rw [good_iff x i q hi] at hg
  rw [good_iff y i q (by rw [h.1]; exact hi)]
  obtain ⟨j, hj, hu, hb⟩ := hg
  refine ⟨j, by rw [h.1]; exact hj, ?_, by rw [h.before]; exact hb⟩
  obtain ⟨t, ht⟩ := (h.2 j).2
  have e : (y.getD j z48).f5 = (x.getD j z48).f5 ++ t := ht
  unfold usesP at hu ⊢
  rw [e, List.any_append, hu, Bool.true_or]
theorem holdGo_ge (l : List S48) (i : Int) : ∀ (hs : List S50) (m : Int), m ≤ holdGo l i hs m
  | [], m => Int.le_refl _
  | h :: r, m => by
    unfold holdGo
    refine Int.le_trans ?_ (holdGo_ge l i r _)
    split
    · exact (le_mx _ _).1
    · exact Int.le_refl _
theorem holdGo_append (l : List S48) (i : Int) : ∀ (hs t : List S50) (m : Int), holdGo l i (hs ++ t) m = holdGo l i t (holdGo l i hs m)
  | [], t, m => rfl
  | h :: r, t, m => holdGo_append l i r t _
theorem holdGo_mono {x y : List S48} (h : More x y) (i : Int) (hi : 0 ≤ i ∧ i < x.length) : ∀ (hs : List S50) (m m' : Int), m ≤ m' → holdGo x i hs m ≤ holdGo y i hs m'
  | [], m, m', hm => hm
  | e :: r, m, m', hm => by
    unfold holdGo
    refine holdGo_mono h i hi r _ _ ?_
    by_cases hg : good x i e.f0 = true
    · rw [if_pos hg, if_pos (h.good i e.f0 hi hg)]
      exact mx_mono hm (Int.le_refl _)
    · rw [if_neg hg]
      split
      · exact Int.le_trans hm (le_mx _ _).1
      · exact hm
theorem jobGo_mono {x y : List S48} (h : More x y) (i n n' : Int) (hn : n ≤ n') (hi : 0 ≤ i ∧ i < x.length) : ∀ (d j : Nat) (m m' : Int), m ≤ m' → jobGo x i n d j m ≤ jobGo y i n' d j m'
  | 0, _, m, m', hm => hm
  | d + 1, j, m, m', hm => by
    unfold jobGo
    refine jobGo_mono h i n n' hn hi d (j + 1) _ _ ?_
    rw [h.before]
    split
    · obtain ⟨t, ht⟩ := (h.2 j).2
      rw [ht, holdGo_append]
      exact Int.le_trans (holdGo_mono h i hi _ _ _ (mx_mono hm hn)) (holdGo_ge y i t _)
    · exact hm
theorem jobGo_ge (l : List S48) (i n : Int) : ∀ (d j : Nat) (m : Int), m ≤ jobGo l i n d j m
  | 0, _, m => Int.le_refl _
  | d + 1, j, m => by
    unfold jobGo
    refine Int.le_trans ?_ (jobGo_ge l i n d (j + 1) _)
    split
    · exact Int.le_trans (le_mx _ _).1 (holdGo_ge _ _ _ _)
    · exact Int.le_refl _
theorem jobGo_none (l : List S48) (i n : Int) : ∀ (d j : Nat) (m : Int), (∀ t, j ≤ t → t < j + d → beforeP l i t = false) → jobGo l i n d j m = m
  | 0, _, m, _ => rfl
  | d + 1, j, m, h => by
    unfold jobGo
    rw [if_neg (by rw [h j (by omega) (by omega)]; decide)]
    exact jobGo_none l i n d (j + 1) m (fun t h1 h2 => h t (by omega) (by omega))
theorem jobGo_some (l : List S48) (i n : Int) : ∀ (d j : Nat) (m : Int) (t : Nat), j ≤ t → t < j + d → beforeP l i t = true → n ≤ jobGo l i n d j m
  | 0, j, m, t, h1, h2, _ => by omega
  | d + 1, j, m, t, h1, h2, hb => by
    unfold jobGo
    by_cases e : j = t
    · subst e
      rw [if_pos hb]
      exact Int.le_trans (Int.le_trans (le_mx _ _).2 (holdGo_ge _ _ _ _)) (jobGo_ge _ _ _ _ _ _)
    · exact jobGo_some l i n d (j + 1) _ t (by omega) (by omega) hb
/-- Is no job of the first k behind job i? -/
def lastP (l : List S48) (i : Int) : Nat → Bool
  | 0 => true
  | k + 1 => lastP l i k && !beforeP l i k
theorem lastP_true (l : List S48) (i : Int) : ∀ k, lastP l i k = true → ∀ t : Nat, t < k → beforeP l i t = false
  | 0, _, t, h => by omega
  | k + 1, h, t, ht => by
    unfold lastP at h
    rw [Bool.and_eq_true] at h
    rcases Nat.lt_or_ge t k with h1 | h1
    · exact lastP_true l i k h.1 t h1
    · obtain rfl : t = k := by omega
      simpa using h.2
theorem lastP_false (l : List S48) (i : Int) : ∀ k, lastP l i k = false → ∃ t : Nat, t < k ∧ beforeP l i t = true
  | 0, h => by cases h
  | k + 1, h => by
    unfold lastP at h
    by_cases hb : beforeP l i k = true
    · exact ⟨k, by omega, hb⟩
    · have hb' : beforeP l i k = false := by simpa using hb
      rw [hb'] at h
      obtain ⟨t, ht, h1⟩ := lastP_false l i k (by simpa using h)
      exact ⟨t, by omega, h1⟩
theorem grows {x y : List S48} (h : More x y) (i : Int) (hi : 0 ≤ i ∧ i < x.length) : blockP x i 9 ≤ blockP y i 9 ∧ lastP x i x.length = ((blockP x i 9 == 0) && (blockP y i 9 == 0)) ∧ blockP x i 9 ≤ blockP x i 20 := by
  have h1 : blockP x i 9 ≤ blockP y i 9 := by
    unfold blockP
    rw [h.1]
    exact jobGo_mono h i 9 9 (Int.le_refl _) hi _ _ _ _ (Int.le_refl _)
  refine ⟨h1, ?_, jobGo_mono (More.refl x) i 9 20 (by omega) hi _ _ _ _ (Int.le_refl _)⟩
  cases hl : lastP x i x.length with
  | true =>
    have h2 := lastP_true x i _ hl
    have e1 : blockP x i 9 = 0 := jobGo_none x i 9 _ _ _ (fun t _ ht => h2 t (by omega))
    have e2 : blockP y i 9 = 0 := by
      unfold blockP
      rw [h.1]
      exact jobGo_none y i 9 _ _ _ (fun t _ ht => by rw [h.before]; exact h2 t (by omega))
    rw [e1, e2]
    rfl
  | false =>
    obtain ⟨t, ht, hb⟩ := lastP_false x i _ hl
    have h2 : 9 ≤ blockP x i 9 := jobGo_some x i 9 _ _ _ t (by omega) (by omega) hb
    have e1 : (blockP x i 9 == 0) = false := beq_eq_false_iff_ne.mpr (by omega)
    rw [e1]
    rfl
end Go.Proofs.Ytgpdnfhmmeaoeaa.PBt
