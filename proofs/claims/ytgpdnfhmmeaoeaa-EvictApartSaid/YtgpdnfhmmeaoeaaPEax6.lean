-- printed by wip/tools/print2.sh (the kit's print, with given texts of this repo); not trusted: Lean checks it
import Derived.Test.YtgpdnfhmmeaoeaaPEax0
import Derived.Test.YtgpdnfhmmeaoeaaPEax4
import Derived.Test.YtgpdnfhmmeaoeaaPEax5
namespace Go.Proofs.Ytgpdnfhmmeaoeaa.PEa
open Go.RowKit Go.Proofs.YtgpdnfhmmeaoeaaW.PrintWords Go.Proofs.YtgpdnfhmmeaoeaaW.PrintLast Go.Proofs.YtgpdnfhmmeaoeaaW.PrintMore
attribute [local go_sem] max2_int min2_int max_two min_two max_three min_three max_four min_four   -- for this text's walks alone
set_option linter.unusedVariables false
set_option linter.unusedSimpArgs false

/-- Blocks laid one after the other. -/
def allocs (w : World) (l : List Obj) : World := l.foldl (fun W o => W.alloc o) w
theorem allocs_cons (w : World) (o : Obj) (l : List Obj) : allocs w (o :: l) = allocs (w.alloc o) l := rfl
theorem allocs_size : ∀ (l : List Obj) (w : World), (allocs w l).heap.size = w.heap.size + l.length
  | [], w => rfl
  | o :: l, w => by rw [allocs_cons, allocs_size l]; simp; omega
theorem allocs_old : ∀ (l : List Obj) (w : World) (b : Nat) (x : Obj), w.heap[b]? = some x → (allocs w l).heap[b]? = some x
  | [], _, _, _, h => h
  | o :: l, w, b, x, h => by rw [allocs_cons]; exact allocs_old l _ b x (blk_alloc h o)
theorem allocs_at : ∀ (l : List Obj) (w : World) (i : Nat) (x : Obj), l[i]? = some x → (allocs w l).heap[w.heap.size + i]? = some x
  | [], _, i, x, h => by simp at h
  | o :: l, w, 0, x, h => by
    rw [allocs_cons]
    have : o = x := by simpa using h
    subst this
    exact allocs_old l _ _ _ (heap_alloc_new w o)
  | o :: l, w, i + 1, x, h => by
    rw [allocs_cons]
    have := allocs_at l (w.alloc o) i x (by simpa using h)
    rw [show (w.alloc o).heap.size = w.heap.size + 1 by simp] at this
    rwa [show w.heap.size + (i + 1) = w.heap.size + 1 + i by omega]
theorem allocs_below : ∀ (l : List Obj) (w W : World), Below w.heap.size w W → Below w.heap.size w (allocs W l)
  | [], _, _, h => h
  | o :: l, w, W, h => by rw [allocs_cons]; exact allocs_below l w _ (h.alloc h.size o)
/-- A row that lies whole in a block: read. -/
theorem C_block {α : Type} {d : Kd α} {W : World} {B : Nat} {e : TypeId} {cs : List Value} {xs : List α} (h : W.heap[B]? = some (.cells cs.toArray e (0, 0))) (hr : Reps (d.K W) d.sz xs cs) (hd : 0 < d.sz) (hl : xs.length ≤ 9223372036854775807) : d.C W (some ⟨B, 0, none⟩) xs.length xs := by
  refine ⟨rfl, hl, fun _ => ⟨_, rfl, fun j p hj => ⟨(cs.drop (j * d.sz)).take d.sz, ?_, hr.2 j p hj, fun i u hu => ?_⟩⟩⟩
  · rw [List.length_take, List.length_drop, hr.1]
    have := (List.getElem?_eq_some_iff.1 hj).1
    have h1 : j * d.sz + d.sz ≤ xs.length * d.sz := by rw [← Nat.succ_mul]; exact Nat.mul_le_mul_right _ this
    omega
  · rw [add_plain, blk_cell h]
    have hi : i < d.sz := by
      have := (List.getElem?_eq_some_iff.1 hu).1
      rw [List.length_take] at this
      omega
    rw [List.getElem?_take_of_lt hi, List.getElem?_drop] at hu
    simpa using hu
/-- Elements of one cell each, one after the other. -/
theorem Reps_cons {α : Type} {R : α → List Value → Prop} {p : α} {c : Value} {ps : List α} {cs : List Value} (hp : R p [c]) (ih : Reps R 1 ps cs) : Reps R 1 (p :: ps) (c :: cs) := by
  refine ⟨by have := ih.1; simp; omega, fun j q hq => ?_⟩
  cases j with
  | zero => simp at hq; subst hq; simpa using hp
  | succ j =>
    have := ih.2 j q (by simpa using hq)
    simpa using this
theorem Reps_ints (W : World) : ∀ xs : List Int, Reps ((Kd.int .i64).K W) 1 xs (xs.map (Value.int .i64))
  | [] => Reps.none _ 1
  | x :: r => Reps_cons rfl (Reps_ints W r)
theorem C_ints {W : World} {B : Nat} {e : TypeId} (xs : List Int) (h : W.heap[B]? = some (.cells (xs.map (Value.int .i64)).toArray e (0, 0))) (hl : xs.length ≤ 9223372036854775807) : (Kd.int .i64).C W (some ⟨B, 0, none⟩) xs.length xs :=
  C_block h (Reps_ints W xs) (by decide) hl
theorem C_nil {α : Type} (d : Kd α) (W : World) : d.C W none 0 ([] : List α) := ⟨rfl, by omega, fun h => absurd h (by omega)⟩

def awakeL (b : Nat) : List Obj := [.cells #[.int .i64 2, .int .i64 2, .int .i64 1] 26,
  .cells #[.int .i64 2, .int .i64 2, .int .i64 1, .int .i64 2, .int .i64 2, .int .i64 1, .int .i64 10, .int .i64 1, .int .i64 1, .int .i64 2, .int .i64 3, .int .i64 1, .int .i64 4, .int .i64 0, .int .i64 0, .slice none 0 0, .slice none 0 0] 60,
  .cells #[.int .i64 0] 3, .cells #[.slice (some ⟨b + 1 + 1, 0, none⟩) 1 1, .slice none 0 0] 22, .cells #[.int .i64 2, .int .i64 4, .int .i64 6] 3, .cells #[.int .i64 1] 3,
  .cells #[.slice (some ⟨b + 1 + 1 + 1 + 1, 0, none⟩) 3 3, .slice (some ⟨b + 1 + 1 + 1 + 1 + 1, 0, none⟩) 1 1] 22, .cells #[.int .i64 2] 3,
  .cells #[.slice (some ⟨b + 1 + 1 + 1 + 1 + 1 + 1 + 1, 0, none⟩) 1 1, .slice none 0 0] 22,
  .cells #[.slice (some ⟨b + 1 + 1 + 1 + 1 + 1 + 1, 0, none⟩) 2 2, .slice (some ⟨b + 1 + 1 + 1 + 1 + 1 + 1 + 1 + 1, 0, none⟩) 2 2] 28]
theorem awake_f : evict_Common.f 2 2 1 [[0], []] [[[2, 4, 6], [1]], [[2], []]] = some 2 := by decide +kernel
theorem slice_K {α : Type} {d : Kd α} {e : Nat} {W : World} {A : Option Addr} {c : Nat} {xs : List α} (hc : xs.length ≤ c) (h : d.C W A xs.length xs) : (Kd.slice e d).K W xs [.slice A xs.length c] := ⟨A, c, rfl, hc, h⟩
theorem awake_C1 (w : World) : Kd.C (Kd.slice 3 (Kd.int .i64)) (allocs w (awakeL w.heap.size)) (some ⟨w.heap.size + 1 + 1 + 1, 0, none⟩) 2 [[0], []] := by
  have h1 := C_ints (W := allocs w (awakeL w.heap.size)) [0] (allocs_at _ w 2 _ rfl) (by decide)
  exact C_block (cs := [_, _]) (allocs_at _ w 3 _ rfl) (Reps_cons (slice_K (by decide) h1) (Reps_cons (slice_K (xs := []) (by decide) (C_nil _ _)) (Reps.none _ 1))) (by decide) (by decide)
theorem awake_C2 (w : World) : Kd.C (Kd.slice 22 (Kd.slice 3 (Kd.int .i64))) (allocs w (awakeL w.heap.size)) (some ⟨w.heap.size + 1 + 1 + 1 + 1 + 1 + 1 + 1 + 1 + 1, 0, none⟩) 2 [[[2, 4, 6], [1]], [[2], []]] := by
  have h1 := C_ints (W := allocs w (awakeL w.heap.size)) [2, 4, 6] (allocs_at _ w 4 _ rfl) (by decide)
  have h2 := C_ints (W := allocs w (awakeL w.heap.size)) [1] (allocs_at _ w 5 _ rfl) (by decide)
  have h3 := C_ints (W := allocs w (awakeL w.heap.size)) [2] (allocs_at _ w 7 _ rfl) (by decide)
  have h4 : Kd.C (Kd.slice 3 (Kd.int .i64)) (allocs w (awakeL w.heap.size)) (some ⟨w.heap.size + 6, 0, none⟩) 2 [[2, 4, 6], [1]] := C_block (cs := [_, _]) (allocs_at _ w 6 _ rfl) (Reps_cons (slice_K (by decide) h1) (Reps_cons (slice_K (by decide) h2) (Reps.none _ 1))) (by decide) (by decide)
  have h5 : Kd.C (Kd.slice 3 (Kd.int .i64)) (allocs w (awakeL w.heap.size)) (some ⟨w.heap.size + 8, 0, none⟩) 2 [[2], []] := C_block (cs := [_, _]) (allocs_at _ w 8 _ rfl) (Reps_cons (slice_K (by decide) h3) (Reps_cons (slice_K (xs := []) (by decide) (C_nil _ _)) (Reps.none _ 1))) (by decide) (by decide)
  exact C_block (cs := [_, _]) (allocs_at _ w 9 _ rfl) (Reps_cons (slice_K (by decide) h4) (Reps_cons (slice_K (by decide) h5) (Reps.none _ 1))) (by decide) (by decide)

set_option maxHeartbeats 2000000 in
set_option maxRecDepth 100000 in
theorem timeboundlaw38_awake.calls0 (w : World) :
    Calls Try.prog 13 #[] w fun e w' => e = .returned (.bool true) ∧ Below w.heap.size w w' := by
  have hu26 := Try.underlying26
  go_enter Try.func13, Try.ntmps13
  go_wp2_with fail
  refine (evict_Common.calls 2 2 1 _ 2 [[0], []] _ 2 [[[2, 4, 6], [1]], [[2], []]] 2 (allocs w (awakeL w.heap.size)) (awake_C1 w) (by decide) (awake_C2 w) (by decide) awake_f).mono ?_
  rintro e w3 ⟨rfl, hb3⟩
  have HB := Aside0.mk (below_step (allocs_below _ _ _ (Below.refl w.heap.size w)) hb3)
  have BK := Aside0.mk (blk_below (allocs_at (awakeL w.heap.size) w 1 _ rfl) hb3)
  have hc := fun i : Nat => blk_cell BK.out i
  clear hb3
  have h0 := hc 0
  have h1 := hc 1
  have h2 := hc 2
  have h3 := hc 3
  have h4 := hc 4
  have h5 := hc 5
  have h6 := hc 6
  have h7 := hc 7
  have h8 := hc 8
  have h9 := hc 9
  have h10 := hc 10
  have h11 := hc 11
  have h12 := hc 12
  have h13 := hc 13
  have h14 := hc 14
  have h15 := hc 15
  have h16 := hc 16
  clear hc
  have hs : w.heap.size + 1 < w3.heap.size := blk_lt BK.out
  go_wp2_with fail
  clear h0 h1 h2 h3 h4 h5 h6 h7 h8 h9 h10 h11 h12 h13 h14 h15 h16
  refine (evict_Refill.calls 2 2 1 2 2 1 10 1 1 2 3 1 4 0 0 none 0 [] none 0 [] 89 w3 (C_nil _ _) (by decide) (C_nil _ _) (by decide) (by decide +kernel)).mono ?_
  rintro e w4 ⟨rfl, hb4⟩
  have HB4 := Aside0.mk (below_step HB.out hb4)
  clear hb4
  go_wp2_with fail
  go_ret
  exact ⟨rfl, HB4.out⟩

def timeboundlaw38_awake.f : Option Bool := some true
theorem timeboundlaw38_awake.calls (r : Bool) (w : World) (h : timeboundlaw38_awake.f = some r) :
    Calls Try.prog 13 #[] w fun e w' => e = .returned (.bool r) ∧ Below w.heap.size w w' := by
  obtain rfl := Option.some.inj h
  exact timeboundlaw38_awake.calls0 w

end Go.Proofs.Ytgpdnfhmmeaoeaa.PEa
