/- Least recently used, as lists: a line whose set has room for all the lines that are used misses at most once. -/
import Derived.Test.YtcaanbicgpfonaaU3
namespace Go.Proofs.Ytcaanbicgpfonaa.PPl
set_option linter.unusedVariables false
set_option linter.unusedSimpArgs false

theorem hitL_iff (xs : List Int) (n : Int) : ∀ k, hitL xs n k = true ↔ ∃ j, j < k ∧ xs.getD j 0 = n
  | 0 => by simp [hitL]
  | k + 1 => by
    unfold hitL
    by_cases h : xs.getD k 0 = n
    · rw [if_pos h]
      exact ⟨fun _ => ⟨k, by omega, h⟩, fun _ => rfl⟩
    · rw [if_neg h, hitL_iff xs n k]
      exact ⟨fun ⟨j, a, b⟩ => ⟨j, by omega, b⟩, fun ⟨j, a, b⟩ => ⟨j, by
        rcases Nat.lt_or_ge j k with h1 | h1
        · exact h1
        · obtain rfl : j = k := by omega
          exact absurd b h, b⟩⟩
theorem hitL_mem (xs : List Int) (n : Int) : hitL xs n xs.length = true ↔ n ∈ xs := by
  rw [hitL_iff]
  constructor
  · rintro ⟨j, hj, rfl⟩
    rw [List.getD_eq_getElem?_getD, List.getElem?_eq_getElem hj]
    exact List.getElem_mem hj
  · intro h
    obtain ⟨j, hj, e⟩ := List.getElem_of_mem h
    exact ⟨j, hj, by rw [List.getD_eq_getElem?_getD, List.getElem?_eq_getElem hj]; exact e⟩
theorem atL_hit (xs : List Int) (n : Int) : ∀ k, hitL xs n k = true → xs.getD (atL xs n k) 0 = n
  | 0, h => by simp [hitL] at h
  | k + 1, h => by
    unfold atL
    by_cases h1 : xs.getD k 0 = n
    · rw [if_pos h1]; exact h1
    · rw [if_neg h1]
      unfold hitL at h
      rw [if_neg h1] at h
      exact atL_hit xs n k h
theorem atL_miss (xs : List Int) (n : Int) : ∀ k, hitL xs n k = false → atL xs n k = xs.length - 1
  | 0, _ => rfl
  | k + 1, h => by
    unfold hitL at h
    by_cases h1 : xs.getD k 0 = n
    · rw [if_pos h1] at h; cases h
    · rw [if_neg h1] at h
      unfold atL
      rw [if_neg h1]
      exact atL_miss xs n k h
/-- A use, told by where the list is cut. -/
theorem useL_split (xs : List Int) (n : Int) (h : 0 < xs.length) : ∃ l1 a l2, xs = l1 ++ a :: l2 ∧ useL xs n = n :: (l1 ++ l2) ∧ (n ∈ xs → a = n) ∧ (n ∉ xs → l2 = []) := by
  have hlt := atL_lt xs n h xs.length (Nat.le_refl _)
  refine ⟨xs.take (atL xs n xs.length), xs[atL xs n xs.length], xs.drop (atL xs n xs.length + 1), ?_, ?_, fun hm => ?_, fun hm => ?_⟩
  · rw [← List.drop_eq_getElem_cons hlt, List.take_append_drop]
  · unfold useL
    rw [List.eraseIdx_eq_take_drop_succ]
  · have := atL_hit xs n xs.length ((hitL_mem xs n).2 hm)
    rwa [List.getD_eq_getElem?_getD, List.getElem?_eq_getElem hlt] at this
  · have h2 : hitL xs n xs.length = false := by
      cases h3 : hitL xs n xs.length
      · rfl
      · exact absurd ((hitL_mem xs n).1 h3) hm
    have := atL_miss xs n xs.length h2
    rw [this]
    exact List.drop_eq_nil_of_le (by omega)
/-- No line is there twice. -/
def ND (xs : List Int) : Prop := (xs.filter fun z => decide (0 ≤ z)).Nodup
theorem ND_use {xs : List Int} {n : Int} (h : ND xs) (h0 : 0 < xs.length) (hn : 0 ≤ n) : ND (useL xs n) := by
  obtain ⟨l1, a, l2, e1, e2, e3, e4⟩ := useL_split xs n h0
  rw [e2]
  unfold ND at h ⊢
  rw [e1, List.filter_append] at h
  rw [List.filter_cons, if_pos (by simpa using hn), List.filter_append]
  have hcut : (l1.filter (fun z => decide (0 ≤ z)) ++ l2.filter (fun z => decide (0 ≤ z))).Nodup := by
    refine h.sublist (List.Sublist.append (List.Sublist.refl _) ?_)
    rw [List.filter_cons]
    split
    · exact List.sublist_cons_self _ _
    · exact List.Sublist.refl _
  rw [List.nodup_cons]
  refine ⟨fun hm => ?_, hcut⟩
  rw [← List.filter_append] at hm
  have hm2 := (List.mem_filter.1 hm).1
  have hx : n ∈ xs := by
    rw [e1]
    rcases List.mem_append.1 hm2 with h1 | h1
    · exact List.mem_append_left _ h1
    · exact List.mem_append_right _ (List.mem_cons_of_mem _ h1)
  have ha := e3 hx
  subst ha
  rw [List.filter_cons, if_pos (by simpa using hn)] at h
  rw [List.nodup_append] at h
  rcases List.mem_append.1 hm2 with h1 | h1
  · exact h.2.2 a (List.mem_filter.2 ⟨h1, by simpa using hn⟩) a List.mem_cons_self rfl
  · exact (List.nodup_cons.1 h.2.1).1 (List.mem_filter.2 ⟨h1, by simpa using hn⟩)
theorem ND_empty (k : Nat) : ND (List.replicate k (-1)) := by
  unfold ND
  rw [List.filter_eq_nil_iff.2 (fun x hx => by rw [List.eq_of_mem_replicate hx]; decide)]
  exact List.nodup_nil
/-- Among the first of a set are the lines used so far, each once: M, the newest first. -/
def Holds (xs M : List Int) : Prop := M.Nodup ∧ (∀ m ∈ M, 0 ≤ m) ∧ ∃ r, xs = M ++ r
theorem nodup_len : ∀ {M S : List Int}, M.Nodup → (∀ m ∈ M, m ∈ S) → M.length ≤ S.length
  | [], _, _, _ => by simp
  | a :: M, S, hn, hs => by
    rw [List.nodup_cons] at hn
    have ha : a ∈ S := hs a List.mem_cons_self
    have := nodup_len (S := S.erase a) hn.2 (fun m hm => (List.mem_erase_of_ne (fun e => hn.1 (by rw [← e]; exact hm))).2 (hs m (List.mem_cons_of_mem _ hm)))
    rw [List.length_erase_of_mem ha] at this
    have h0 : 0 < S.length := List.length_pos_of_mem ha
    rw [List.length_cons]
    omega
/-- One more use. -/
theorem holds_use {xs M S : List Int} {n : Int} (h : Holds xs M) (hnd : ND xs) (h0 : 0 < xs.length) (hn : 0 ≤ n) (hM : ∀ m ∈ M, m ∈ S) (hS : n ∈ S) (hfit : S.length ≤ xs.length) :
    ∃ M', Holds (useL xs n) M' ∧ (∀ m, m ∈ M' ↔ m = n ∨ m ∈ M) ∧ (n ∈ M → n ∈ xs) := by
  obtain ⟨h1, h2, r, hr⟩ := h
  obtain ⟨l1, a, l2, e1, e2, e3, e4⟩ := useL_split xs n h0
  by_cases hm : n ∈ M
  · have hx : n ∈ xs := by rw [hr]; exact List.mem_append_left _ hm
    have ha := e3 hx
    subst ha
    -- M is cut at the line
    obtain ⟨m1, m2, hm12⟩ := List.append_of_mem hm
    have hcut : l1 = m1 ∧ l2 = m2 ++ r := by
      have hnm1 : a ∉ m1 := by
        rw [hm12, List.nodup_append] at h1
        exact fun hmem => h1.2.2 a hmem a List.mem_cons_self rfl
      have hnl1 : a ∉ l1 := by
        intro hmem
        unfold ND at hnd
        rw [e1, List.filter_append, List.filter_cons, if_pos (by simpa using hn), List.nodup_append] at hnd
        exact hnd.2.2 a (List.mem_filter.2 ⟨hmem, by simpa using hn⟩) a List.mem_cons_self rfl
      have he : l1 ++ a :: l2 = m1 ++ a :: (m2 ++ r) := by
        rw [← e1, hr, hm12]; simp
      clear e1 e2 hr hm12 e3 e4 h1 h2 hm hx hM hS hfit hnd h0
      induction l1 generalizing m1 with
      | nil =>
        cases m1 with
        | nil => simpa using he
        | cons b m1 =>
          simp only [List.nil_append, List.cons_append, List.cons.injEq] at he
          exact absurd (he.1 ▸ List.mem_cons_self) hnm1
      | cons b l1 ih =>
        cases m1 with
        | nil =>
          simp only [List.nil_append, List.cons_append, List.cons.injEq] at he
          exact absurd (he.1 ▸ List.mem_cons_self) hnl1
        | cons c m1 =>
          simp only [List.cons_append, List.cons.injEq] at he
          obtain ⟨i1, i2⟩ := ih m1 (fun h => hnm1 (List.mem_cons_of_mem _ h)) (fun h => hnl1 (List.mem_cons_of_mem _ h)) he.2
          exact ⟨by rw [he.1, i1], i2⟩
    obtain ⟨c1, c2⟩ := hcut
    refine ⟨a :: (m1 ++ m2), ⟨?_, fun m hm' => ?_, r, ?_⟩, fun m => ?_, fun _ => hx⟩
    · rw [hm12, List.nodup_append, List.nodup_cons] at h1
      rw [List.nodup_cons, List.mem_append, List.nodup_append]
      refine ⟨fun hh => ?_, h1.1, h1.2.1.2, fun x hx1 y hy1 => h1.2.2 x hx1 y (List.mem_cons_of_mem _ hy1)⟩
      rcases hh with hh | hh
      · exact h1.2.2 a hh a List.mem_cons_self rfl
      · exact h1.2.1.1 hh
    · rcases List.mem_cons.1 hm' with rfl | hm'
      · exact hn
      · refine h2 m ?_
        rw [hm12]
        rcases List.mem_append.1 hm' with hh | hh
        · exact List.mem_append_left _ hh
        · exact List.mem_append_right _ (List.mem_cons_of_mem _ hh)
    · rw [e2, c1, c2]; simp
    · rw [hm12]
      simp only [List.mem_cons, List.mem_append]
      constructor
      · rintro (h | h | h)
        · exact .inl h
        · exact .inr (.inl h)
        · exact .inr (.inr (.inr h))
      · rintro (h | h | h | h)
        · exact .inl h
        · exact .inr (.inl h)
        · exact .inl h
        · exact .inr (.inr h)
  · -- a new line: M has room
    have hlen : (n :: M).length ≤ S.length := nodup_len (List.nodup_cons.2 ⟨hm, h1⟩) (fun m hm' => by
      rcases List.mem_cons.1 hm' with rfl | h
      · exact hS
      · exact hM m h)
    rw [List.length_cons] at hlen
    have hcut : ∃ r', l1 ++ l2 = M ++ r' := by
      by_cases hx : n ∈ xs
      · have ha := e3 hx
        subst ha
        -- the line lies behind M
        have hl1 : M.length ≤ l1.length := by
          rcases Nat.lt_or_ge l1.length M.length with hlt | hge
          · exfalso
            apply hm
            have h3 : (l1 ++ a :: l2)[l1.length]? = some a := by simp
            rw [← e1, hr, List.getElem?_append_left hlt] at h3
            exact List.mem_of_getElem? h3
          · exact hge
        have h3 : M = l1.take M.length := by
          have h4 : (l1 ++ a :: l2).take M.length = l1.take M.length := List.take_append_of_le_length hl1
          rw [← e1, hr, List.take_left] at h4
          exact h4
        refine ⟨l1.drop M.length ++ l2, ?_⟩
        have h5 : l1 = M ++ l1.drop M.length := by
          conv => lhs; rw [← List.take_append_drop M.length l1]
          rw [← h3]
        conv => lhs; rw [h5]
        rw [List.append_assoc]
      · have h6 := e4 hx
        subst h6
        have hll : xs.length = l1.length + 1 := by rw [e1]; simp
        have h3 : M = l1.take M.length := by
          have h4 : (l1 ++ [a]).take M.length = l1.take M.length := List.take_append_of_le_length (by omega)
          rw [← e1, hr, List.take_left] at h4
          exact h4
        refine ⟨l1.drop M.length, ?_⟩
        rw [List.append_nil]
        conv => lhs; rw [← List.take_append_drop M.length l1]
        rw [← h3]
    obtain ⟨r', hr'⟩ := hcut
    refine ⟨n :: M, ⟨List.nodup_cons.2 ⟨hm, h1⟩, fun m hm' => ?_, r', ?_⟩, fun m => by simp, fun h => absurd h hm⟩
    · rcases List.mem_cons.1 hm' with rfl | h
      · exact hn
      · exact h2 m h
    · rw [e2, hr']; rfl
end Go.Proofs.Ytcaanbicgpfonaa.PPl
