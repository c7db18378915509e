/- timeboundref22.Use over contents whose sets lie apart: one set is written, the others stay. -/
import Derived.Test.YtcaanbicgpfonaaU2
import Derived.Test.YtcaanbicgpfonaaPPlx2
namespace Go.Proofs.Ytcaanbicgpfonaa.PPl
open Go.RowKit Go.Proofs.YtcaanbicgpfonaaW.PrintWords Go.Proofs.YtcaanbicgpfonaaW.PrintLast Go.Proofs.YtcaanbicgpfonaaW.PrintMore
set_option linter.unusedVariables false
set_option linter.unusedSimpArgs false

theorem reps_ints_eq {W : World} {base : Nat} {ok : Nat → Prop} : ∀ {xs : List Int} {cs : List Value}, Reps ((Kd.int .i64).M W base ok) 1 xs cs → cs = xs.map (Value.int .i64) := by
  intro xs cs h
  have hl : cs.length = xs.length := by have := h.1; omega
  refine List.ext_getElem (by rw [List.length_map]; exact hl) (fun j h1 h2 => ?_)
  have hj : j < xs.length := by omega
  have := h.2 j xs[j] (List.getElem?_eq_getElem hj)
  have h3 : (cs.drop (j * 1)).take 1 = [Value.int .i64 xs[j]] := this
  have h4 := congrArg (fun l : List Value => l[0]?) h3
  rw [List.getElem?_take, if_pos (by omega), List.getElem?_drop] at h4
  simp only [Nat.mul_one, Nat.add_zero, List.getElem?_cons_zero] at h4
  rw [List.getElem?_eq_getElem h1] at h4
  rw [List.getElem_map]
  exact Option.some.inj h4
theorem reps_ints_mk (W : World) (base : Nat) (ok : Nat → Prop) : ∀ xs : List Int, Reps ((Kd.int .i64).M W base ok) 1 xs (xs.map (Value.int .i64))
  | [] => Reps.none _ 1
  | x :: r => Reps.one rfl (reps_ints_mk W base ok r)
theorem one_at {cs : List Value} {u : Value} {j : Nat} (h : (cs.drop (j * 1)).take 1 = [u]) : cs[j]? = some u := by
  have h4 := congrArg (fun l : List Value => l[0]?) h
  rw [List.getElem?_take, if_pos (by omega), List.getElem?_drop] at h4
  simpa using h4
/-- A cache whose sets are there. -/
def useG (xss : List (List Int)) (k : Nat) (n : Int) : List (List Int) := xss.set k (useL (xss.getD k []) n)
def hitG (xss : List (List Int)) (k : Nat) (n : Int) : Bool := hitL (xss.getD k []) n (xss.getD k []).length
/-- One block of numbers from base on was written, and no other. -/
def WroteOne (base : Nat) (w w' : World) : Prop := ∃ g, base ≤ g ∧ (∃ cells, w.heap[g]? = some (.cells cells 3 (0, 0))) ∧ w.grownBy w' (some g)
theorem useL_length (xs : List Int) (n : Int) (h : 0 < xs.length) : (useL xs n).length = xs.length := by
  have ha := atL_lt xs n h xs.length (Nat.le_refl _)
  unfold useL
  rw [List.length_cons, List.length_eraseIdx, if_pos ha]
  omega
theorem Use_calls (s y n : Int) (v : Value) (xss : List (List Int)) (addr : Int) (w : World) (base : Nat) (ok : Nat → Prop) (hS : Kd.S (Kd.slice 3 (Kd.int .i64)) 22 w base ok v xss)
    (hl : (xss.length : Int) = s) (hway : ∀ x ∈ xss, 0 < x.length ∧ x.length ≤ 8) (hs1 : 1 ≤ s) (hs2 : s ≤ 8) (hn1 : 1 ≤ n) (hn2 : n ≤ 8) (ha0 : 0 ≤ addr) (ha1 : addr ≤ 100000) :
    Calls Try.prog 19 #[.agg #[.int .i64 s, .int .i64 y, .int .i64 n], .agg #[v], .int .i64 addr] w fun e w' =>
      e = .returned (.bool (hitG xss (addr / n % s).toNat (addr / n))) ∧ Kd.S (Kd.slice 3 (Kd.int .i64)) 22 w' base ok v (useG xss (addr / n % s).toNat (addr / n)) ∧ WroteOne base w w' := by
  have hq0 : 0 ≤ addr / n := Int.ediv_nonneg ha0 (by omega)
  have hr0 : 0 ≤ addr / n % s := Int.emod_nonneg _ (by omega)
  have hr1 : addr / n % s < s := Int.emod_lt_of_pos _ (by omega)
  obtain ⟨kk, hkk⟩ := Int.eq_ofNat_of_zero_le hr0
  have hk : kk < xss.length := by omega
  have hkt : (addr / n % s).toNat = kk := by omega
  rw [hkt]
  obtain ⟨B, capB, rfl, hB0, hB1, cellsB, hBB⟩ := Kd.S_form hS (by omega)
  obtain ⟨f, h0, inner, ho, hr⟩ := hS
  rw [List.length_zipIdx] at ho
  have hrow : xss[kk]? = some (xss.getD kk []) := by rw [List.getD_eq_getElem?_getD, List.getElem?_eq_getElem hk]; rfl
  have hmem : xss.getD kk [] ∈ xss := List.mem_of_getElem? hrow
  generalize hrw : xss.getD kk [] = row at hrow hmem
  obtain ⟨hw0, hw1⟩ := hway row hmem
  obtain ⟨u, hu, hR⟩ := hr.2 kk (row, kk) (Kd.zip_at hrow)
  have hu' := one_at hu
  obtain ⟨g, cap, rfl, hg0, hg1, cellsg, hgg⟩ := Kd.R_form hR hw0
  have hok := hR.1 g rfl
  obtain ⟨_, innerg, hog, hrg⟩ := hR
  have heq := reps_ints_eq hrg
  subst heq
  have hne : g ≠ B := fun e => hok.1.2 (by rw [e]; rfl)
  have hcell := ho.cells (g := B) rfl kk _ hu'
  refine (Use_row s y n ⟨B, 0, none⟩ xss.length capB g cap base row addr w (by rw [hkt]; exact hcell) (by omega) hog hs1 hs2 hn1 hn2 ha0 ha1 hw0 hw1).mono ?_
  rintro e w' ⟨rfl, ho', hg'⟩
  refine ⟨by unfold hitG; rw [hrw], ⟨f, h0, inner, ?_, ?_, ?_⟩, g, hg0, ⟨_, hgg⟩, hg'⟩
  · rw [List.length_zipIdx]
    unfold useG
    rw [List.length_set]
    exact ho.kept hg' (.inr (by intro h; exact hne (by injection h with h; exact h.symm)))
  · have := hr.1
    rw [List.length_zipIdx] at this ⊢
    unfold useG
    rw [List.length_set]
    exact this
  · rintro j ⟨p, i⟩ hj
    have hj2 := hj
    rw [List.getElem?_zipIdx, Nat.zero_add] at hj2
    obtain ⟨p', hp', he⟩ := Option.map_eq_some_iff.1 hj2
    injection he with he1 he2
    subst he1 he2
    unfold useG at hp'
    rw [List.getElem?_set, hrw] at hp'
    by_cases e : kk = j
    · subst e
      rw [if_pos rfl, if_pos hk] at hp'
      obtain rfl := Option.some.inj hp'
      refine ⟨_, hu, fun k hk' => ?_, (useL row (addr / n)).map (Value.int .i64), ?_, ?_⟩
      · have : g = k := by simpa [Value.ownBlock] using hk'
        subst this
        exact hok
      · rw [useL_length _ _ hw0]
        exact ho'
      · exact reps_ints_mk _ _ _ _
    · rw [if_neg e] at hp'
      have hM : (Kd.slice 3 (Kd.int .i64)).M w base (fun k => (ok k ∧ some k ≠ (Value.slice (some ⟨B, 0, none⟩) xss.length capB).ownBlock) ∧ f k = j) p' _ := hr.2 j (p', j) (Kd.zip_at hp')
      have hM2 : (Kd.slice 3 (Kd.int .i64)).M w' base (fun k => (ok k ∧ some k ≠ (Value.slice (some ⟨B, 0, none⟩) xss.length capB).ownBlock) ∧ f k = j) p' _ := Kd.M_step hM (fun k hk1 hk2 => hg'.block k hk2 (fun e2 => e (by
        injection e2 with e2
        rw [← hk1.2, e2]
        exact hok.2.symm)))
      exact hM2
end Go.Proofs.Ytcaanbicgpfonaa.PPl
