/- timeboundlaw40.spoilt: jobs with something changed. -/
import Derived.Test.YtgpdnfhmmeaoeaaB7
import Derived.Test.YtgpdnfhmmeaoeaaB8
namespace Go.Proofs.Ytgpdnfhmmeaoeaa.PBt
open Go.RowKit Go.Proofs.YtgpdnfhmmeaoeaaW.PrintWords Go.Proofs.YtgpdnfhmmeaoeaaW.PrintLast Go.Proofs.YtgpdnfhmmeaoeaaW.PrintMore
attribute [local go_sem] max2_int min2_int max_two min_two max_three min_three max_four min_four
set_option linter.unusedVariables false
set_option linter.unusedSimpArgs false

theorem reps_below {w w1 : World} {x : List S48} {cx : List Value} (hr : Reps (k48.K w) 7 x cx) (hb : Below w.heap.size w w1) : Reps (k48.K w1) 7 x cx := by
  refine ⟨hr.1, fun j p hj => ?_⟩
  obtain ⟨A5, c5, h5, hl, hg⟩ := k48_open (hr.2 j p hj)
  rw [h5]
  exact k48_mk w1 p hl (Kd.C_below hg hb)

/-- The cells of a row of jobs, one of whose cells is turned. -/
theorem reps_set {W : World} {x : List S48} {cx : List Value} (hr : Reps (k48.K W) 7 x cx) (k : Nat) (hk : k < x.length) (j : Nat) (hj7 : j < 7) (v : Value) (z : S48) (cs : List Value) (hz : k48.K W z cs) (he : ((cx.drop (k * 7)).take 7).set j v = cs) :
    Reps (k48.K W) 7 (x.set k z) (cx.set (k * 7 + j) v) := by
  have hl : cx.length = x.length * 7 := hr.1
  refine ⟨by simpa using hl, fun t p hj => ?_⟩
  rw [List.getElem?_set] at hj
  have e1 : ((cx.set (k * 7 + j) v).drop (t * 7)).take 7 = if k = t then ((cx.drop (k * 7)).take 7).set j v else (cx.drop (t * 7)).take 7 := by
    apply List.ext_getElem?
    intro i
    rw [List.getElem?_take, List.getElem?_drop, List.getElem?_set]
    by_cases e : k = t
    · subst e
      rw [if_pos rfl, List.getElem?_set, List.getElem?_take, List.getElem?_drop]
      have hl2 : ((cx.drop (k * 7)).take 7).length = 7 := by rw [List.length_take, List.length_drop]; omega
      by_cases hi : i < 7
      · rw [if_pos hi, if_pos hi]
        by_cases h5 : i = j
        · subst h5
          rw [if_pos rfl, if_pos (by omega), if_pos rfl, if_pos (by omega)]
        · rw [if_neg (by omega), if_neg (by omega)]
      · rw [if_neg hi, if_neg (by omega), if_neg hi]
    · rw [if_neg e, List.getElem?_take, List.getElem?_drop]
      by_cases hi : i < 7
      · rw [if_pos hi, if_pos hi, if_neg (by omega)]
      · rw [if_neg hi, if_neg hi]
  rw [e1]
  by_cases e : k = t
  · subst e
    rw [if_pos rfl, if_pos hk] at hj
    injection hj with hj
    subst hj
    rw [if_pos rfl, he]
    exact hz
  · rw [if_neg e] at hj
    rw [if_neg e]
    exact hr.2 t p hj
def putN (z : S48) (j : Nat) (v : Int) : S48 :=
  match j with
  | 0 => { z with f0 := v }
  | 1 => { z with f1 := v }
  | 2 => { z with f2 := v }
  | 3 => { z with f3 := v }
  | 4 => { z with f4 := v }
  | _ => { z with f6 := v }
theorem putN_f5 (z : S48) (j : Nat) (v : Int) : (putN z j v).f5 = z.f5 := by unfold putN; split <;> rfl
/-- .. where the cell is a number's. -/
theorem reps_num {W : World} {x : List S48} {cx : List Value} (hr : Reps (k48.K W) 7 x cx) (k : Nat) (hk : k < x.length) (j : Nat) (hj : j = 0 ∨ j = 1 ∨ j = 2 ∨ j = 3 ∨ j = 4 ∨ j = 6) (v : Int) :
    Reps (k48.K W) 7 (x.set k (putN (x.getD k z48) j v)) (cx.set (k * 7 + j) (.int .i64 v)) := by
  obtain ⟨A5, c5, h5, hl, hg⟩ := k48_open (reps_get hr z48 k hk)
  rcases hj with rfl | rfl | rfl | rfl | rfl | rfl
  all_goals (refine reps_set hr k hk _ (by omega) _ _ _ (k48_mk W (putN (x.getD k z48) _ v) (A5 := A5) (c5 := c5) hl hg) ?_; rw [h5]; rfl)
theorem holds_set {x : List S48} {m : Nat} (h : ∀ y ∈ x, y.f5.length ≤ m) (k : Nat) (z : S48) (hz : z.f5.length ≤ m) : ∀ y ∈ x.set k z, y.f5.length ≤ m := by
  intro y hy
  rcases List.mem_or_eq_of_mem_set hy with hy | rfl
  · exact h y hy
  · exact hz
theorem mod_some {a n r : Int} (h : timeboundmake_Mod.f a n = some r) (h1 : 1 ≤ n) (h2 : n ≤ 1000000000) : 0 ≤ r ∧ r < n := by
  obtain ⟨r', e, a, b⟩ := mod_ok a n h1 h2
  rw [h] at e
  injection e with e
  subst e
  exact ⟨a, b⟩

theorem zeros_out {w w1 W : World} {n : Nat} (h0 : Below w.heap.size w w1) (hbk : W.heap[w1.heap.size]? = some (.cells (madeCells (Value.cells (.agg #[.int .i64 0, .int .i64 0, .int .i64 0, .int .i64 0, .int .i64 0, .slice none 0 0, .int .i64 0])) (n * 7)) 48 (0, 0))) (hb : Below w.heap.size w W) (hn : (n : Int) < 8) :
    ∃ (A : Option Addr) (c : Nat) (y : List S48), Ending.returned (.slice (some ⟨w1.heap.size, 0, none⟩) n n) = .returned (.slice A y.length c) ∧ y.length ≤ c ∧ y.length ≤ 100 ∧ (∀ z ∈ y, z.f5.length ≤ 3) ∧ Kd.C k48 W A y.length y ∧ Below w.heap.size w W := by
  refine ⟨some ⟨w1.heap.size, 0, none⟩, n, List.replicate n z48, by rw [List.length_replicate], by simp, by simp; omega, ?_, ?_, hb⟩
  · intro z hz
    rw [List.eq_of_mem_replicate hz]
    exact Nat.zero_le _
  · refine C_block (cs := (madeCells (Value.cells (.agg #[.int .i64 0, .int .i64 0, .int .i64 0, .int .i64 0, .int .i64 0, .slice none 0 0, .int .i64 0])) (n * 7)).toList) (by simpa using hbk) ?_ (by decide) (by simp; omega)
    exact Kd.reps_made (R := k48.K W) (z := .agg #[.int .i64 0, .int .i64 0, .int .i64 0, .int .i64 0, .int .i64 0, .slice none 0 0, .int .i64 0]) (size := 7) (z0 := z48) rfl (by decide) (k48_mk W z48 (Nat.zero_le _) (C_nil k50 W)) n

set_option maxHeartbeats 4000000 in
set_option maxRecDepth 100000 in
/-- .. of no jobs. -/
theorem spoilt0.calls (A0 : Option Addr) (c0 : Nat) (what by_ : Int) (w : World) :
    Calls Try.prog 16 #[.slice A0 0 c0, .int .i64 what, .int .i64 by_] w fun e w' => ∃ (A : Option Addr) (c : Nat) (y : List S48), e = .returned (.slice A y.length c) ∧ y.length ≤ c ∧ y.length ≤ 100 ∧ (∀ z ∈ y, z.f5.length ≤ 3) ∧ Kd.C k48 w' A y.length y ∧ Below w.heap.size w w' := by
  have hu48 := Try.underlying48
  obtain ⟨i48, hi48, hz48⟩ := Option.map_eq_some_iff.1 info48
  simp only [Prod.mk.injEq] at hz48
  obtain ⟨hza, hzb, hzc⟩ := hz48
  have HI48 := Aside0.mk hi48
  have HZA := Aside0.mk hza
  have HZB := Aside0.mk hzb
  have HZC := Aside0.mk hzc
  have HB := Aside0.mk (Below.refl w.heap.size w)
  clear hi48 hza hzb hzc
  obtain ⟨n, hn, hn0, hn1⟩ := mod_ok by_ 8 (by omega) (by omega)
  obtain ⟨n, rfl⟩ := Int.eq_ofNat_of_zero_le hn0
  have HN := Aside0.mk hn
  clear hn
  have hmk : ∀ W : World, (Instr.makeSlice 35 (.int .i64 (n : Int)) (.int .i64 (n : Int))).run Try.prog W = .ok (.slice (some ⟨W.heap.size, 0, none⟩) n n) (W.alloc (.cells (madeCells (Value.cells (.agg #[.int .i64 0, .int .i64 0, .int .i64 0, .int .i64 0, .int .i64 0, .slice none 0 0, .int .i64 0])) (n * 7)) 48)) := fun W => by
    have h := run_make (P := Try.prog) W 35 48 i48 _ Try.underlying35 HI48.out HZA.out .i64 .i64 n n (by omega) (Int.le_refl _) (by rw [HZC.out]; omega) (by omega)
    rw [HZB.out] at h
    simpa only [Int.toNat_natCast] using h
  have HMK := Aside0.mk hmk
  clear hmk
  go_enter Try.func16, Try.ntmps16
  cases A0 with
  | none =>
    go_wp2_with fail
    refine (timeboundmake_Mod.calls by_ 8 n w HN.out).mono ?_
    rintro e w1 ⟨rfl, hd⟩
    replace HB := Aside0.mk (below_step HB.out hd.below)
    clear hd
    have hmk := HMK.out
    go_wp2_with fail
    go_ret
    have hbk := heap_alloc_new w1 (.cells (madeCells (Value.cells (.agg #[.int .i64 0, .int .i64 0, .int .i64 0, .int .i64 0, .int .i64 0, .slice none 0 0, .int .i64 0])) (n * 7)) 48)
    exact zeros_out HB.out hbk (below_alloc HB.out _) hn1
  | some ad =>
    go_wp2_with fail
    refine (timeboundmake_Mod.calls by_ 8 n w HN.out).mono ?_
    rintro e w1 ⟨rfl, hd⟩
    replace HB := Aside0.mk (below_step HB.out hd.below)
    clear hd
    have hmk := HMK.out
    go_wp2_with fail
    go_ret
    have hbk := heap_alloc_new w1 (.cells (madeCells (Value.cells (.agg #[.int .i64 0, .int .i64 0, .int .i64 0, .int .i64 0, .int .i64 0, .slice none 0 0, .int .i64 0])) (n * 7)) 48)
    exact zeros_out HB.out hbk (below_alloc HB.out _) hn1
end Go.Proofs.Ytgpdnfhmmeaoeaa.PBt
