/- pair and awake of layer 40. -/
import Derived.Test.YtgpdnfhmmeaoeaaPBtx
import Derived.Outline
namespace Go.Proofs.Ytgpdnfhmmeaoeaa.PBt
open Go.RowKit Go.Proofs.YtgpdnfhmmeaoeaaW.PrintWords Go.Proofs.YtgpdnfhmmeaoeaaW.PrintLast Go.Proofs.YtgpdnfhmmeaoeaaW.PrintMore
attribute [local go_sem] max2_int min2_int max_two min_two max_three min_three max_four min_four
set_option linter.unusedVariables false
set_option linter.unusedSimpArgs false

/-- Blocks laid one after the other. -/
def allocs (w : World) (l : List Obj) : World := l.foldl (fun W o => W.alloc o) w
theorem allocs_cons (w : World) (o : Obj) (l : List Obj) : allocs w (o :: l) = allocs (w.alloc o) l := rfl
theorem allocs_size : ∀ (l : List Obj) (w : World), (allocs w l).heap.size = w.heap.size + l.length
  | [], w => rfl
  | o :: l, w => by rw [allocs_cons, allocs_size l]; simp; omega
theorem allocs_old : ∀ (l : List Obj) (w : World) (b : Nat) (x : Obj), w.heap[b]? = some x → (allocs w l).heap[b]? = some x
  | [], _, _, _, h => h
  | o :: l, w, b, x, h => by rw [allocs_cons]; exact allocs_old l _ b x (blk_alloc h o)
theorem allocs_at : ∀ (l : List Obj) (w : World) (i : Nat) (x : Obj), l[i]? = some x → (allocs w l).heap[w.heap.size + i]? = some x
  | [], _, i, x, h => by simp at h
  | o :: l, w, 0, x, h => by
    rw [allocs_cons]
    have : o = x := by simpa using h
    subst this
    exact allocs_old l _ _ _ (heap_alloc_new w o)
  | o :: l, w, i + 1, x, h => by
    rw [allocs_cons]
    have := allocs_at l (w.alloc o) i x (by simpa using h)
    rw [show (w.alloc o).heap.size = w.heap.size + 1 by simp] at this
    rwa [show w.heap.size + (i + 1) = w.heap.size + 1 + i by omega]
theorem allocs_below : ∀ (l : List Obj) (w W : World), Below w.heap.size w W → Below w.heap.size w (allocs W l)
  | [], _, _, h => h
  | o :: l, w, W, h => by rw [allocs_cons]; exact allocs_below l w _ (h.alloc h.size o)
/-- A row that lies whole in a block: read. -/
theorem C_block {α : Type} {d : Kd α} {W : World} {B : Nat} {e : TypeId} {cs : List Value} {xs : List α} (h : W.heap[B]? = some (.cells cs.toArray e (0, 0))) (hr : Reps (d.K W) d.sz xs cs) (hd : 0 < d.sz) (hl : xs.length ≤ 9223372036854775807) : d.C W (some ⟨B, 0, none⟩) xs.length xs := by
  refine ⟨rfl, hl, fun _ => ⟨_, rfl, fun j p hj => ⟨(cs.drop (j * d.sz)).take d.sz, ?_, hr.2 j p hj, fun i u hu => ?_⟩⟩⟩
  · rw [List.length_take, List.length_drop, hr.1]
    have := (List.getElem?_eq_some_iff.1 hj).1
    have h1 : j * d.sz + d.sz ≤ xs.length * d.sz := by rw [← Nat.succ_mul]; exact Nat.mul_le_mul_right _ this
    omega
  · rw [add_plain, blk_cell h]
    have hi : i < d.sz := by
      have := (List.getElem?_eq_some_iff.1 hu).1
      rw [List.length_take] at this
      omega
    rw [List.getElem?_take_of_lt hi, List.getElem?_drop] at hu
    simpa using hu
/-- Elements of one cell each, one after the other. -/
theorem Reps_cons {α : Type} {R : α → List Value → Prop} {p : α} {c : Value} {ps : List α} {cs : List Value} (hp : R p [c]) (ih : Reps R 1 ps cs) : Reps R 1 (p :: ps) (c :: cs) := by
  refine ⟨by have := ih.1; simp; omega, fun j q hq => ?_⟩
  cases j with
  | zero => simp at hq; subst hq; simpa using hp
  | succ j =>
    have := ih.2 j q (by simpa using hq)
    simpa using this
theorem Reps_ints (W : World) : ∀ xs : List Int, Reps ((Kd.int .i64).K W) 1 xs (xs.map (Value.int .i64))
  | [] => Reps.none _ 1
  | x :: r => Reps_cons rfl (Reps_ints W r)
theorem C_ints {W : World} {B : Nat} {e : TypeId} (xs : List Int) (h : W.heap[B]? = some (.cells (xs.map (Value.int .i64)).toArray e (0, 0))) (hl : xs.length ≤ 9223372036854775807) : (Kd.int .i64).C W (some ⟨B, 0, none⟩) xs.length xs :=
  C_block h (Reps_ints W xs) (by decide) hl
theorem C_nil {α : Type} (d : Kd α) (W : World) : d.C W none 0 ([] : List α) := ⟨rfl, by omega, fun h => absurd h (by omega)⟩

def pairL : List S48 := [⟨100, 100, 0, 2, 0, [⟨0, 10⟩], 0⟩, ⟨100, 100, 0, 1, 0, [⟨0, 50⟩], 0⟩]
def pairA (b : Nat) : List Obj := [.cells #[.int .i64 0, .int .i64 10] 50,
  .cells #[.int .i64 100, .int .i64 100, .int .i64 0, .int .i64 2, .int .i64 0, .slice (some ⟨b, 0, none⟩) 1 1, .int .i64 0] 48,
  .cells #[.int .i64 100, .int .i64 100, .int .i64 0, .int .i64 1, .int .i64 0, .slice (some ⟨b + 1 + 1 + 1, 0, none⟩) 1 1, .int .i64 0] 48,
  .cells #[.int .i64 0, .int .i64 50] 50,
  .cells #[.int .i64 100, .int .i64 100, .int .i64 0, .int .i64 2, .int .i64 0, .slice (some ⟨b, 0, none⟩) 1 1, .int .i64 0, .int .i64 100, .int .i64 100, .int .i64 0, .int .i64 1, .int .i64 0, .slice (some ⟨b + 1 + 1 + 1, 0, none⟩) 1 1, .int .i64 0] 48]
theorem pair_C (w : World) : Kd.C k48 (allocs w (pairA w.heap.size)) (some ⟨w.heap.size + 1 + 1 + 1 + 1, 0, none⟩) 2 pairL := by
  have h1 : Kd.C k50 (allocs w (pairA w.heap.size)) (some ⟨w.heap.size, 0, none⟩) 1 [⟨0, 10⟩] := C_block (cs := [_, _]) (allocs_at _ w 0 _ rfl) ((Reps.none _ 2).snoc (k50_mk _ ⟨0, 10⟩) rfl) (by decide) (by decide)
  have h2 : Kd.C k50 (allocs w (pairA w.heap.size)) (some ⟨w.heap.size + 1 + 1 + 1, 0, none⟩) 1 [⟨0, 50⟩] := C_block (cs := [_, _]) (allocs_at _ w 3 _ rfl) ((Reps.none _ 2).snoc (k50_mk _ ⟨0, 50⟩) rfl) (by decide) (by decide)
  exact C_block (d := k48) (cs := [_, _, _, _, _, _, _, _, _, _, _, _, _, _]) (allocs_at _ w 4 _ rfl) (((Reps.none _ 7).snoc (k48_mk _ ⟨100, 100, 0, 2, 0, [⟨0, 10⟩], 0⟩ (by decide) h1) rfl).snoc (k48_mk _ ⟨100, 100, 0, 1, 0, [⟨0, 50⟩], 0⟩ (by decide) h2) rfl) (by decide) (by decide)
set_option maxHeartbeats 2000000 in
set_option maxRecDepth 100000 in
theorem pair.calls (w : World) : Calls Try.prog 31 #[] w fun e w' => ∃ A, e = .returned (.slice A 2 2) ∧ Kd.C k48 w' A 2 pairL ∧ Below w.heap.size w w' := by
  have hu48 := Try.underlying48
  have hu50 := Try.underlying50
  go_enter Try.func31, Try.ntmps31
  go_wp2_with fail
  go_ret
  exact ⟨_, rfl, pair_C w, allocs_below (pairA w.heap.size) w w (Below.refl _ _)⟩

set_option maxHeartbeats 2000000 in
set_option maxRecDepth 100000 in
theorem timeboundlaw40_awake.calls0 (w : World) :
    Calls Try.prog 14 #[] w fun e w' => e = .returned (.bool true) ∧ Below w.heap.size w w' := by
  have hu48 := Try.underlying48
  go_enter Try.func14, Try.ntmps14
  go_wp2_with fail
  refine (pair.calls w).mono ?_
  rintro e w1 ⟨A, rfl, hC, hb⟩
  have HC1 := Aside0.mk hC
  have HB1 := Aside0.mk hb
  clear hC hb
  go_wp2_with fail
  refine (blocking_Ceiling.calls A 2 pairL 0 0 true w1 HC1.out (by decide) (by decide +kernel)).mono ?_
  rintro e w2 ⟨rfl, hb⟩
  have HC2 := Aside0.mk (Kd.C_below HC1.out hb)
  have HB2 := Aside0.mk (below_step HB1.out hb)
  clear hb HC1 HB1
  go_wp2_with fail
  refine (blocking_Valid.calls A 2 pairL true w2 HC2.out (by decide) (by decide +kernel)).mono ?_
  rintro e w3 ⟨rfl, hb⟩
  have HC3 := Aside0.mk (Kd.C_below HC2.out hb)
  have HB3 := Aside0.mk (below_step HB2.out hb)
  clear hb HC2 HB2
  go_wp2_with fail
  refine (blocking_Blocking.calls 20 A 2 pairL 0 21 50 w3 HC3.out (by decide) (by decide +kernel)).mono ?_
  rintro e w4 ⟨rfl, hb⟩
  have HC4 := Aside0.mk (Kd.C_below HC3.out hb)
  have HB4 := Aside0.mk (below_step HB3.out hb)
  clear hb HC3 HB3
  go_wp2_with fail
  refine (blocking_Blocking.calls 20 A 2 pairL 1 21 0 w4 HC4.out (by decide) (by decide +kernel)).mono ?_
  rintro e w5 ⟨rfl, hb⟩
  have HC5 := Aside0.mk (Kd.C_below HC4.out hb)
  have HB5 := Aside0.mk (below_step HB4.out hb)
  clear hb HC4 HB4
  go_wp2_with fail
  refine (blocking_Before.calls A 2 pairL 0 1 true w5 HC5.out (by decide) (by decide +kernel)).mono ?_
  rintro e w6 ⟨rfl, hd⟩
  have HB6 := Aside0.mk (below_step HB5.out hd.below)
  clear hd HC5 HB5
  go_wp2_with fail
  go_ret
  exact ⟨rfl, HB6.out⟩
end Go.Proofs.Ytgpdnfhmmeaoeaa.PBt
