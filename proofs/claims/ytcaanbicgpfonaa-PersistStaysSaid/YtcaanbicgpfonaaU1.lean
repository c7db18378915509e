/- A use of a line in a set, as a list: the line comes to the front, what stood before it moves back by one. -/
import Derived.Test.YtcaanbicgpfonaaPPlx0
namespace Go.Proofs.Ytcaanbicgpfonaa.PPl
set_option linter.unusedVariables false
set_option linter.unusedSimpArgs false

/-- Where the line lies among the first k, last of all; else the last place. -/
def atL (xs : List Int) (n : Int) : Nat → Nat
  | 0 => xs.length - 1
  | k + 1 => if xs.getD k 0 = n then k else atL xs n k
/-- Is the line among the first k? -/
def hitL (xs : List Int) (n : Int) : Nat → Bool
  | 0 => false
  | k + 1 => if xs.getD k 0 = n then true else hitL xs n k
theorem atL_lt (xs : List Int) (n : Int) (h : 0 < xs.length) : ∀ k, k ≤ xs.length → atL xs n k < xs.length
  | 0, _ => by show xs.length - 1 < xs.length; omega
  | k + 1, hk => by
    unfold atL
    split
    · omega
    · exact atL_lt xs n h k (by omega)
def useL (xs : List Int) (n : Int) : List Int := n :: xs.eraseIdx (atL xs n xs.length)
/-- What lies there when all from k on, up to a, has moved back by one. -/
def ShiftP (xs : List Int) (a k : Nat) (ys : List Int) : Prop :=
  ys.length = xs.length ∧ ∀ j, j < xs.length → ys.getD j 0 = if k < j ∧ j ≤ a then xs.getD (j - 1) 0 else xs.getD j 0
theorem shift_start (xs : List Int) (a : Nat) : ShiftP xs a a xs := ⟨rfl, fun j _ => by rw [if_neg (by omega)]⟩
theorem getD_set (ys : List Int) (i j : Nat) (v : Int) (hj : j < ys.length) : (ys.set i v).getD j 0 = if i = j then v else ys.getD j 0 := by
  rw [List.getD_eq_getElem?_getD, List.getElem?_set]
  split
  · subst_vars; rw [if_pos hj]; rfl
  · rw [← List.getD_eq_getElem?_getD]
theorem shift_round {xs ys : List Int} {a k : Nat} (h : ShiftP xs a (k + 1) ys) (ha : a < xs.length) (hk : k + 1 ≤ a) : ShiftP xs a k (ys.set (k + 1) (ys.getD k 0)) := by
  obtain ⟨h1, h2⟩ := h
  refine ⟨by rw [List.length_set]; exact h1, fun j hj => ?_⟩
  rw [getD_set _ _ _ _ (by omega)]
  by_cases e : k + 1 = j
  · subst e
    rw [if_pos rfl, if_pos ⟨by omega, hk⟩, h2 k (by omega), if_neg (by omega)]
    rfl
  · rw [if_neg e, h2 j hj]
    by_cases e2 : k + 1 < j ∧ j ≤ a
    · rw [if_pos e2, if_pos ⟨by omega, e2.2⟩]
    · rw [if_neg e2, if_neg (by omega)]
theorem shift_end {xs ys : List Int} {n : Int} (h : ShiftP xs (atL xs n xs.length) 0 ys) (h0 : 0 < xs.length) : ys.set 0 n = useL xs n := by
  obtain ⟨h1, h2⟩ := h
  have ha := atL_lt xs n h0 xs.length (Nat.le_refl _)
  unfold useL
  generalize atL xs n xs.length = a at h2 ha
  have hl : (n :: xs.eraseIdx a).length = xs.length := by
    rw [List.length_cons, List.length_eraseIdx, if_pos ha]; omega
  refine List.ext_getElem (by rw [List.length_set, hl]; exact h1) (fun j hj hj' => ?_)
  have hj2 : j < xs.length := by rw [hl] at hj'; exact hj'
  have e1 : (ys.set 0 n)[j] = (ys.set 0 n).getD j 0 := by rw [List.getD_eq_getElem?_getD, List.getElem?_eq_getElem hj]; rfl
  rw [e1, getD_set _ _ _ _ (by omega)]
  cases j with
  | zero => simp
  | succ j =>
    rw [if_neg (by omega), h2 _ hj2, List.getElem_cons_succ, List.getElem_eraseIdx]
    by_cases e : j < a
    · rw [if_pos ⟨by omega, by omega⟩, dif_pos e]
      show xs.getD j 0 = _
      rw [List.getD_eq_getElem?_getD, List.getElem?_eq_getElem (by omega)]; rfl
    · rw [if_neg (by omega), dif_neg e, List.getD_eq_getElem?_getD, List.getElem?_eq_getElem (by omega)]; rfl
end Go.Proofs.Ytcaanbicgpfonaa.PPl
