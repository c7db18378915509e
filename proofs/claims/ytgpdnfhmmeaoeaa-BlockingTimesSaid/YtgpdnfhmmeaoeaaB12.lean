/- An argument's reading, opened as a list of jobs. -/
import Derived.Test.YtgpdnfhmmeaoeaaB11
import Derived.Deep.Slices
namespace Go.Proofs.Ytgpdnfhmmeaoeaa.PBt
open Go.RowKit Go.Proofs.YtgpdnfhmmeaoeaaW.PrintWords Go.Proofs.YtgpdnfhmmeaoeaaW.PrintLast Go.Proofs.YtgpdnfhmmeaoeaaW.PrintMore
set_option linter.unusedVariables false
set_option linter.unusedSimpArgs false

/-- Whatever reads as this type is a value of this kind. -/
def Opens {α : Type} (k : Kd α) (t : TypeId) : Prop := ∀ (H : Type) (enc : TypeId × Value → H) (W : World) (fuel : Nat) (cs : List Value) (x : DataW H × List MemPlace), DataW.trod enc Try.prog W 0 (fun _ => true) true fuel t cs = some x → ∃ z, k.K W z cs
theorem opens_int : Opens (Kd.int .i64) 3 := by
  intro H enc W fuel cs x h
  obtain ⟨n, rfl, _, _⟩ := DataW.trod_int Try.underlying3 h
  exact ⟨n, rfl⟩
theorem pick {α : Type} {P : Nat → α → Prop} {len : Nat} (h : ∀ i, i < len → ∃ z, P i z) : ∀ n, n ≤ len → ∃ xs : List α, xs.length = n ∧ ∀ j z, xs[j]? = some z → P j z
  | 0, _ => ⟨[], rfl, fun j z h => by simp at h⟩
  | n + 1, hn => by
    obtain ⟨xs, hl, hx⟩ := pick h n (by omega)
    obtain ⟨z, hz⟩ := h n (by omega)
    refine ⟨xs ++ [z], by simp [hl], fun j y hy => ?_⟩
    rcases Nat.lt_or_ge j xs.length with hj | hj
    · rw [List.getElem?_append_left hj] at hy
      exact hx j y hy
    · rw [List.getElem?_append_right hj] at hy
      have hj2 : j = n := by
        have := (List.getElem?_eq_some_iff.1 hy).1
        simp at this
        omega
      subst hj2
      rw [hl, Nat.sub_self] at hy
      simp at hy
      subst hy
      exact hz
theorem opens_slice {α : Type} {k : Kd α} {t e : TypeId} (ht : Try.prog.underlying t = some (.slice e)) (hc : Try.prog.cellsOf e = k.sz) (ho : Opens k e) : Opens (Kd.slice e k) t := by
  intro H enc W fuel cs x h
  rcases Go.Deep.open_slice ht h with ⟨rfl, _⟩ | ⟨a, len, cap, m, n, D, Pl, rfl, _, hl, hm, hmm, _, hx⟩
  · exact ⟨[], none, 0, rfl, Nat.le_refl _, C_nil k W⟩
  · have hlm : len ≤ m := by rw [hmm, if_pos rfl]; exact hl
    have hz : ∀ i, i < len → ∃ z, ∃ c, c.length = k.sz ∧ k.K W z c ∧ ∀ j u, c[j]? = some u → W.cell? (a.add (i * k.sz + j)) = some u := by
      intro i hi
      obtain ⟨cs', h1, h2⟩ := hx i (by omega)
      rw [hc] at h1
      obtain ⟨z, hz⟩ := ho _ _ _ _ _ _ h2
      obtain ⟨_, hlen, hcell⟩ := World.cells?_some h1
      refine ⟨z, cs', hlen, hz, fun j u hu => ?_⟩
      have hj := (List.getElem?_eq_some_iff.1 hu).1
      rw [← Go.Deep.add_add, hcell j (by omega)]
      exact hu
    obtain ⟨xs, hxl, hxs⟩ := pick hz len (Nat.le_refl _)
    refine ⟨xs, some a, cap, by rw [hxl], by omega, rfl, by unfold maxLen at hm; omega, fun _ => ⟨a, rfl, hxs⟩⟩
theorem opens_S50 : Opens k50 50 := by
  intro H enc W fuel cs x h
  obtain ⟨xs, n, _, _, hl, hxl, hf⟩ := DataW.trod_struct Try.underlying50 h
  have h2 : cs.length = 2 := hl.trans (by kernel_rfl)
  match cs, h2 with
  | [v0, v1], _ =>
    have f0 : DataW.trod enc Try.prog W 0 (fun _ => true) true n 3 (([v0, v1].drop 0).take (Try.prog.cellsOf 3)) = xs[0]? := hf 0 _ rfl
    have f1 : DataW.trod enc Try.prog W 0 (fun _ => true) true n 3 (([v0, v1].drop 1).take (Try.prog.cellsOf 3)) = xs[1]? := hf 1 _ rfl
    have c3 : Try.prog.cellsOf 3 = 1 := by kernel_rfl
    rw [c3] at f0 f1
    have g0 : ∃ y, xs[0]? = some y := ⟨_, List.getElem?_eq_getElem (by rw [hxl]; decide)⟩
    have g1 : ∃ y, xs[1]? = some y := ⟨_, List.getElem?_eq_getElem (by rw [hxl]; decide)⟩
    obtain ⟨y0, g0⟩ := g0
    obtain ⟨y1, g1⟩ := g1
    rw [g0] at f0
    rw [g1] at f1
    obtain ⟨z0, e0⟩ := opens_int _ _ _ _ _ _ f0
    obtain ⟨z1, e1⟩ := opens_int _ _ _ _ _ _ f1
    exact ⟨⟨z0, z1⟩, _, _, (by rfl : [v0, v1] = [v0] ++ [v1]), e0, e1⟩
theorem opens_S48 : Opens k48 48 := by
  intro H enc W fuel cs x h
  obtain ⟨xs, n, _, _, hl, hxl, hf⟩ := DataW.trod_struct Try.underlying48 h
  have h2 : cs.length = 7 := hl.trans (by kernel_rfl)
  match cs, h2 with
  | [v0, v1, v2, v3, v4, v5, v6], _ =>
    have f0 : DataW.trod enc Try.prog W 0 (fun _ => true) true n 3 (([v0, v1, v2, v3, v4, v5, v6].drop 0).take (Try.prog.cellsOf 3)) = xs[0]? := hf 0 _ rfl
    have f1 : DataW.trod enc Try.prog W 0 (fun _ => true) true n 3 (([v0, v1, v2, v3, v4, v5, v6].drop 1).take (Try.prog.cellsOf 3)) = xs[1]? := hf 1 _ rfl
    have f2 : DataW.trod enc Try.prog W 0 (fun _ => true) true n 3 (([v0, v1, v2, v3, v4, v5, v6].drop 2).take (Try.prog.cellsOf 3)) = xs[2]? := hf 2 _ rfl
    have f3 : DataW.trod enc Try.prog W 0 (fun _ => true) true n 3 (([v0, v1, v2, v3, v4, v5, v6].drop 3).take (Try.prog.cellsOf 3)) = xs[3]? := hf 3 _ rfl
    have f4 : DataW.trod enc Try.prog W 0 (fun _ => true) true n 3 (([v0, v1, v2, v3, v4, v5, v6].drop 4).take (Try.prog.cellsOf 3)) = xs[4]? := hf 4 _ rfl
    have f5 : DataW.trod enc Try.prog W 0 (fun _ => true) true n 46 (([v0, v1, v2, v3, v4, v5, v6].drop 5).take (Try.prog.cellsOf 46)) = xs[5]? := hf 5 _ rfl
    have f6 : DataW.trod enc Try.prog W 0 (fun _ => true) true n 3 (([v0, v1, v2, v3, v4, v5, v6].drop 6).take (Try.prog.cellsOf 3)) = xs[6]? := hf 6 _ rfl
    have c3 : Try.prog.cellsOf 3 = 1 := by kernel_rfl
    have c46 : Try.prog.cellsOf 46 = 1 := by kernel_rfl
    rw [c3] at f0 f1 f2 f3 f4 f6
    rw [c46] at f5
    have g : ∀ i, i < 7 → ∃ y, xs[i]? = some y := fun i hi => ⟨_, List.getElem?_eq_getElem (by rw [hxl]; exact hi)⟩
    obtain ⟨y0, g0⟩ := g 0 (by omega)
    obtain ⟨y1, g1⟩ := g 1 (by omega)
    obtain ⟨y2, g2⟩ := g 2 (by omega)
    obtain ⟨y3, g3⟩ := g 3 (by omega)
    obtain ⟨y4, g4⟩ := g 4 (by omega)
    obtain ⟨y5, g5⟩ := g 5 (by omega)
    obtain ⟨y6, g6⟩ := g 6 (by omega)
    rw [g0] at f0
    rw [g1] at f1
    rw [g2] at f2
    rw [g3] at f3
    rw [g4] at f4
    rw [g5] at f5
    rw [g6] at f6
    obtain ⟨z0, e0⟩ := opens_int _ _ _ _ _ _ f0
    obtain ⟨z1, e1⟩ := opens_int _ _ _ _ _ _ f1
    obtain ⟨z2, e2⟩ := opens_int _ _ _ _ _ _ f2
    obtain ⟨z3, e3⟩ := opens_int _ _ _ _ _ _ f3
    obtain ⟨z4, e4⟩ := opens_int _ _ _ _ _ _ f4
    obtain ⟨z5, e5⟩ := opens_slice Try.underlying46 (by kernel_rfl) opens_S50 _ _ _ _ _ _ f5
    obtain ⟨z6, e6⟩ := opens_int _ _ _ _ _ _ f6
    exact ⟨⟨z0, z1, z2, z3, z4, z5, z6⟩, _, _, rfl, e0, _, _, rfl, e1, _, _, rfl, e2, _, _, rfl, e3, _, _, rfl, e4, _, _, rfl, e5, e6⟩
theorem opens_jobs : Opens (Kd.slice 48 k48) 35 := opens_slice Try.underlying35 (by kernel_rfl) opens_S48
theorem opens_ints : Opens (Kd.slice 3 (Kd.int .i64)) 22 := opens_slice Try.underlying22 (by kernel_rfl) opens_int

set_option maxHeartbeats 2000000 in
theorem timeboundlaw40_BlockingTimes.walk (A0 : Option Addr) (c0 : Nat) (raw : List S48) (A1 : Option Addr) (c1 : Nat) (l0 : List Int) (what by_ instr : Int) (w : World) (hr0 : Kd.C k48 w A0 raw.length raw) (hc0 : raw.length ≤ c0) (hr1 : Kd.C (Kd.int .i64) w A1 l0.length l0) (hc1 : l0.length ≤ c1) (hw : l0.length * 8 ≤ 140737488351232) :
    Calls Try.prog 5 #[.slice A0 raw.length c0, .slice A1 l0.length c1, .int .i64 what, .int .i64 by_, .int .i64 instr] w fun e w' => e = .returned (.bool true) ∧ Below w.heap.size w w' := by
  by_cases hraw : raw.length ≤ 10
  · have h0 : InDeck l0 0 := ⟨by omega, by omega, by omega⟩
    obtain ⟨r0, p0, e1, a1, b1, h1⟩ := next_ok l0 0 7 h0 (by omega)
    obtain ⟨n, rfl⟩ := Int.eq_ofNat_of_zero_le a1
    obtain ⟨kj, x, p1, e2, hx, hf, h2⟩ := jobs_made l0 n (by omega) p0 h1
    exact times_walk A0 c0 raw A1 c1 l0 what by_ instr w hr0 hc0 hraw hr1 hc1 n p0 e1 (by omega) kj x p1 e2 (by omega) hf
  · have hraw1 : (10 : Int) < (raw.length : Int) := by omega
    clear hr0 hr1
    go_enter Try.func5, Try.ntmps5
    go_wp2_with fail
    refine (timeboundlaw40_awake.calls0 _).mono ?_
    rintro e wz ⟨rfl, hb⟩
    have BZ := Aside0.mk hb
    clear hb
    go_wp2_with fail
    go_ret
    exact ⟨rfl, BZ.out⟩
end Go.Proofs.Ytgpdnfhmmeaoeaa.PBt
