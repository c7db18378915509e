/- An argument's reading, opened as a list of numbers. -/
import Derived.Test.YtcaanbicgpfonaaPPlx2
import Derived.Deep.Slices
namespace Go.Proofs.Ytcaanbicgpfonaa.PPl
open Go.RowKit Go.Proofs.YtcaanbicgpfonaaW.PrintWords Go.Proofs.YtcaanbicgpfonaaW.PrintLast Go.Proofs.YtcaanbicgpfonaaW.PrintMore
set_option linter.unusedVariables false
set_option linter.unusedSimpArgs false

/-- Whatever reads as this type is a value of this kind. -/
def Opens {α : Type} (k : Kd α) (t : TypeId) : Prop := ∀ (H : Type) (enc : TypeId × Value → H) (W : World) (fuel : Nat) (cs : List Value) (x : DataW H × List MemPlace), DataW.trod enc Try.prog W 0 (fun _ => true) true fuel t cs = some x → ∃ z, k.K W z cs
theorem opens_int : Opens (Kd.int .i64) 3 := by
  intro H enc W fuel cs x h
  obtain ⟨n, rfl, _, _⟩ := DataW.trod_int Try.underlying3 h
  exact ⟨n, rfl⟩
theorem pick {α : Type} {P : Nat → α → Prop} {len : Nat} (h : ∀ i, i < len → ∃ z, P i z) : ∀ n, n ≤ len → ∃ xs : List α, xs.length = n ∧ ∀ j z, xs[j]? = some z → P j z
  | 0, _ => ⟨[], rfl, fun j z h => by simp at h⟩
  | n + 1, hn => by
    obtain ⟨xs, hl, hx⟩ := pick h n (by omega)
    obtain ⟨z, hz⟩ := h n (by omega)
    refine ⟨xs ++ [z], by simp [hl], fun j y hy => ?_⟩
    rcases Nat.lt_or_ge j xs.length with hj | hj
    · rw [List.getElem?_append_left hj] at hy
      exact hx j y hy
    · rw [List.getElem?_append_right hj] at hy
      have hj2 : j = n := by
        have := (List.getElem?_eq_some_iff.1 hy).1
        simp at this
        omega
      subst hj2
      rw [hl, Nat.sub_self] at hy
      simp at hy
      subst hy
      exact hz
theorem opens_slice {α : Type} {k : Kd α} {t e : TypeId} (ht : Try.prog.underlying t = some (.slice e)) (hc : Try.prog.cellsOf e = k.sz) (ho : Opens k e) : Opens (Kd.slice e k) t := by
  intro H enc W fuel cs x h
  rcases Go.Deep.open_slice ht h with ⟨rfl, _⟩ | ⟨a, len, cap, m, n, D, Pl, rfl, _, hl, hm, hmm, _, hx⟩
  · exact ⟨[], none, 0, rfl, Nat.le_refl _, C_nil k W⟩
  · have hlm : len ≤ m := by rw [hmm, if_pos rfl]; exact hl
    have hz : ∀ i, i < len → ∃ z, ∃ c, c.length = k.sz ∧ k.K W z c ∧ ∀ j u, c[j]? = some u → W.cell? (a.add (i * k.sz + j)) = some u := by
      intro i hi
      obtain ⟨cs', h1, h2⟩ := hx i (by omega)
      rw [hc] at h1
      obtain ⟨z, hz⟩ := ho _ _ _ _ _ _ h2
      obtain ⟨_, hlen, hcell⟩ := World.cells?_some h1
      refine ⟨z, cs', hlen, hz, fun j u hu => ?_⟩
      have hj := (List.getElem?_eq_some_iff.1 hu).1
      rw [← Go.Deep.add_add, hcell j (by omega)]
      exact hu
    obtain ⟨xs, hxl, hxs⟩ := pick hz len (Nat.le_refl _)
    refine ⟨xs, some a, cap, by rw [hxl], by omega, rfl, by unfold maxLen at hm; omega, fun _ => ⟨a, rfl, hxs⟩⟩
theorem opens_ints : Opens (Kd.slice 3 (Kd.int .i64)) 22 := opens_slice Try.underlying22 (by kernel_rfl) opens_int
end Go.Proofs.Ytcaanbicgpfonaa.PPl
