/- The count of misses, through all uses: a line that fits misses at most once. -/
import Derived.Test.YtcaanbicgpfonaaS1
namespace Go.Proofs.Ytcaanbicgpfonaa.PPl
set_option linter.unusedVariables false
set_option linter.unusedSimpArgs false

/-- Contents of a cache of s sets and y ways: each line at most once. -/
def GoodC (s y : Int) (x : List (List Int)) : Prop := (x.length : Int) = s ∧ ∀ r ∈ x, (r.length : Int) = y ∧ ND r
theorem getD_mem {x : List (List Int)} {k : Nat} (h : k < x.length) : x.getD k [] ∈ x := by
  rw [List.getD_eq_getElem?_getD, List.getElem?_eq_getElem h]
  exact List.getElem_mem h
theorem GoodC.use {s y : Int} {x : List (List Int)} (h : GoodC s y x) (hy : 1 ≤ y) (k : Nat) (n : Int) (hn : 0 ≤ n) : GoodC s y (useG x k n) := by
  obtain ⟨h1, h2⟩ := h
  unfold useG
  refine ⟨by rw [List.length_set]; exact h1, fun r hr => ?_⟩
  rcases List.mem_or_eq_of_mem_set hr with hr | rfl
  · exact h2 r hr
  · rcases Nat.lt_or_ge k x.length with hk | hk
    · obtain ⟨a, b⟩ := h2 _ (getD_mem hk)
      exact ⟨by rw [useL_length _ _ (by omega)]; exact a, ND_use b (by omega) hn⟩
    · exact h2 _ (by rw [List.set_eq_of_length_le hk] at hr; exact hr)
theorem useG_getD (x : List (List Int)) (k j : Nat) (n : Int) (hj : j < x.length) : (useG x k n).getD j [] = if k = j then useL (x.getD k []) n else x.getD j [] := by
  unfold useG
  rw [List.getD_eq_getElem?_getD, List.getElem?_set]
  split
  · subst_vars; rw [if_pos hj]; rfl
  · rw [← List.getD_eq_getElem?_getD]
/-- Lines by set: each line lies in its own. -/
def SetsOk (s : Int) (sets : List (List Int)) : Prop := (sets.length : Int) = s ∧ ∀ l ∈ sets, l.length ≤ 100
def MissInv (s y : Int) (sets x : List (List Int)) (miss : Int → Int) : Prop :=
  GoodC s y x ∧ ∀ k : Nat, (k : Int) < s → ((sets.getD k []).length : Int) ≤ y → ∃ M, Holds (x.getD k []) M ∧ (∀ m ∈ M, m ∈ sets.getD k []) ∧ ∀ n, 0 ≤ n → n % s = k → (n ∉ M → miss n = 0) ∧ miss n ≤ 1
theorem MissInv.start {s y : Int} {sets x : List (List Int)} (h : GoodC s y x) : MissInv s y sets x (fun _ => 0) :=
  ⟨h, fun k _ _ => ⟨[], ⟨List.nodup_nil, by simp, x.getD k [], rfl⟩, by simp, fun n _ _ => ⟨fun _ => rfl, by show (0 : Int) ≤ 1; omega⟩⟩⟩
/-- One more use, hit or miss. -/
theorem MissInv.use {s y : Int} {sets x : List (List Int)} {miss : Int → Int} (h : MissInv s y sets x miss) (hs : 1 ≤ s) (hy : 1 ≤ y) (n : Int) (hn : 0 ≤ n) (k : Nat) (hk : n % s = k) (hS : n ∈ sets.getD k []) :
    MissInv s y sets (useG x k n) (fun m => if hitG x k n = true then miss m else if m = n then miss n + 1 else miss m) := by
  obtain ⟨hg, hi⟩ := h
  have hks : (k : Int) < s := by have := Int.emod_lt_of_pos n (show 0 < s by omega); omega
  have hkx : k < x.length := by have := hg.1; omega
  refine ⟨hg.use hy k n hn, fun j hj hfit => ?_⟩
  have hjx : j < x.length := by have := hg.1; omega
  obtain ⟨M, hM1, hM2, hM3⟩ := hi j hj hfit
  rw [useG_getD x k j n hjx]
  by_cases e : k = j
  · subst e
    rw [if_pos rfl]
    obtain ⟨hr1, hr2⟩ := hg.2 _ (getD_mem hkx)
    obtain ⟨M', c1, c2, c3⟩ := holds_use (S := sets.getD k []) hM1 hr2 (by omega) hn hM2 hS (by omega)
    refine ⟨M', c1, fun m hm => ?_, fun m hm0 hmk => ?_⟩
    · rcases (c2 m).1 hm with rfl | h
      · exact hS
      · exact hM2 m h
    · obtain ⟨d1, d2⟩ := hM3 m hm0 hmk
      refine ⟨fun hm' => ?_, ?_⟩
      · have hmn : m ≠ n := fun e => hm' ((c2 m).2 (.inl e))
        have hmM : m ∉ M := fun e => hm' ((c2 m).2 (.inr e))
        dsimp only
        split
        · exact d1 hmM
        · exact d1 hmM
      · dsimp only
        by_cases hh : hitG x k n = true
        · rw [if_pos hh]; exact d2
        · rw [if_neg hh]
          by_cases hmn : m = n
          · rw [if_pos hmn]
            subst hmn
            have hmM : m ∉ M := fun e => hh ((hitL_mem _ _).2 (c3 e))
            rw [d1 hmM]; omega
          · rw [if_neg hmn]; exact d2
  · rw [if_neg e]
    refine ⟨M, hM1, hM2, fun m hm0 hmj => ?_⟩
    obtain ⟨d1, d2⟩ := hM3 m hm0 hmj
    have hmn : m ≠ n := fun e2 => by subst e2; omega
    refine ⟨fun hm' => ?_, ?_⟩
    · dsimp only
      split
      · exact d1 hm'
      · exact d1 hm'
    · dsimp only
      split
      · exact d2
      · exact d2
end Go.Proofs.Ytcaanbicgpfonaa.PPl
