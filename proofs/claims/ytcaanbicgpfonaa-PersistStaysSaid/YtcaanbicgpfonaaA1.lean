/- timeboundlaw26.awake returns true. -/
import Derived.Test.YtcaanbicgpfonaaL1
import Derived.Test.YtcaanbicgpfonaaPPlx11
import Derived.Outline
namespace Go.Proofs.Ytcaanbicgpfonaa.PPl
open Go.RowKit Go.Proofs.YtcaanbicgpfonaaW.PrintWords Go.Proofs.YtcaanbicgpfonaaW.PrintLast Go.Proofs.YtcaanbicgpfonaaW.PrintMore
set_option linter.unusedVariables false
set_option linter.unusedSimpArgs false

/-- Elements of one cell each, one after the other. -/
theorem Reps_cons {α : Type} {R : α → List Value → Prop} {p : α} {c : Value} {ps : List α} {cs : List Value} (hp : R p [c]) (ih : Reps R 1 ps cs) : Reps R 1 (p :: ps) (c :: cs) := by
  refine ⟨by have := ih.1; simp; omega, fun j q hq => ?_⟩
  cases j with
  | zero => simp at hq; subst hq; simpa using hp
  | succ j =>
    have := ih.2 j q (by simpa using hq)
    simpa using this
theorem Reps_ints (W : World) : ∀ xs : List Int, Reps ((Kd.int .i64).K W) 1 xs (xs.map (Value.int .i64))
  | [] => Reps.none _ 1
  | x :: r => Reps_cons rfl (Reps_ints W r)
theorem C_ints {W : World} {B : Nat} {e : TypeId} (xs : List Int) (h : W.heap[B]? = some (.cells (xs.map (Value.int .i64)).toArray e (0, 0))) (hl : xs.length ≤ 9223372036854775807) : (Kd.int .i64).C W (some ⟨B, 0, none⟩) xs.length xs :=
  C_block h (Reps_ints W xs) (by decide) hl
theorem slice_K {α : Type} {d : Kd α} {e : Nat} {W : World} {A : Option Addr} {c : Nat} {xs : List α} (hc : xs.length ≤ c) (h : d.C W A xs.length xs) : (Kd.slice e d).K W xs [.slice A xs.length c] := ⟨A, c, rfl, hc, h⟩
theorem Reps_one53 (W : World) (x : S53) : Reps (k53.K W) 2 [x] [.int .i64 x.f0, .int .i64 x.f1] := by
  refine ⟨rfl, fun j q hq => ?_⟩
  cases j with
  | zero => simp at hq; subst hq; exact k53_mk W x
  | succ j => simp at hq

theorem awake_lines : persist_Lines.f 0 0 0 2 1 4 0 0 0 0 0 0 0 0 0 [] [⟨6, 7⟩] 0 3 6 = some [0, 1] := by
  obtain ⟨r, e1, e2⟩ := lines_same 0 0 0 2 1 4 0 0 0 0 0 0 0 0 0 [] [⟨6, 7⟩] 0 3 6 (by unfold CacheIn; omega) (by omega) (by omega) (by omega)
  rw [e1]
  rw [← e2]
  unfold timeboundref26_Lines.f
  decide +kernel

set_option maxHeartbeats 8000000 in
set_option maxRecDepth 100000 in
theorem timeboundlaw26_awake.calls0 (w : World) :
    Calls Try.prog 13 #[] w fun e w' => e = .returned (.bool true) ∧ Below w.heap.size w w' := by
  have hu26 := Try.underlying26
  have hu53 := Try.underlying53
  have hu29 := Try.underlying29
  go_enter Try.func13, Try.ntmps13
  go_wp2_with (first | ((with_reducible refine gate_dst (N := 7) rfl ?_); refine wpList_load_row rfl 29 (.tmp 1) rfl (w.heap.size + 1) rfl 29 #[.int .i64 0, .int .i64 0, .int .i64 0, .int .i64 2, .int .i64 1, .int .i64 4, .int .i64 0, .int .i64 0, .int .i64 0, .int .i64 0, .int .i64 0, .int .i64 0, .int .i64 0, .int .i64 0, .int .i64 0, .slice none 0 0, .slice (some ⟨w.heap.size, 0, none⟩) 1 1] (0, 0) _ (heap_alloc2_new w (.cells #[.int .i64 6, .int .i64 7] 53) (.cells #[.int .i64 0, .int .i64 0, .int .i64 0, .int .i64 2, .int .i64 1, .int .i64 4, .int .i64 0, .int .i64 0, .int .i64 0, .int .i64 0, .int .i64 0, .int .i64 0, .int .i64 0, .int .i64 0, .int .i64 0, .slice none 0 0, .slice (some ⟨w.heap.size, 0, none⟩) 1 1] 29)) Try.underlying29 rfl (by kernel_rfl) ?_) | fail)
  have BS := Aside0.mk (blk_alloc (heap_alloc_new w (.cells #[.int .i64 6, .int .i64 7] 53)) (.cells #[.int .i64 0, .int .i64 0, .int .i64 0, .int .i64 2, .int .i64 1, .int .i64 4, .int .i64 0, .int .i64 0, .int .i64 0, .int .i64 0, .int .i64 0, .int .i64 0, .int .i64 0, .int .i64 0, .int .i64 0, .slice none 0 0, .slice (some ⟨w.heap.size, 0, none⟩) 1 1] 29))
  have BP := Aside0.mk (heap_alloc2_new w (.cells #[.int .i64 6, .int .i64 7] 53) (.cells #[.int .i64 0, .int .i64 0, .int .i64 0, .int .i64 2, .int .i64 1, .int .i64 4, .int .i64 0, .int .i64 0, .int .i64 0, .int .i64 0, .int .i64 0, .int .i64 0, .int .i64 0, .int .i64 0, .int .i64 0, .slice none 0 0, .slice (some ⟨w.heap.size, 0, none⟩) 1 1] 29))
  have HB := Aside0.mk (below_alloc (below_alloc (Below.refl w.heap.size w) (.cells #[.int .i64 6, .int .i64 7] 53)) (.cells #[.int .i64 0, .int .i64 0, .int .i64 0, .int .i64 2, .int .i64 1, .int .i64 4, .int .i64 0, .int .i64 0, .int .i64 0, .int .i64 0, .int .i64 0, .int .i64 0, .int .i64 0, .int .i64 0, .int .i64 0, .slice none 0 0, .slice (some ⟨w.heap.size, 0, none⟩) 1 1] 29))
  refine (persist_Lines.calls 0 0 0 2 1 4 0 0 0 0 0 0 0 0 0 none 0 [] (some ⟨w.heap.size, 0, none⟩) 1 [⟨6, 7⟩] 0 3 6 [0, 1] _ (C_nil _ _) (by decide) (C_block BS.out (Reps_one53 _ ⟨6, 7⟩) (by decide) (by decide)) (by decide) awake_lines).mono ?_
  rintro e w3 ⟨v, rfl, hR, hb⟩
  replace BS := Aside0.mk (blk_below BS.out hb)
  replace BP := Aside0.mk (blk_below BP.out hb)
  replace HB := Aside0.mk (below_step HB.out hb)
  clear hb
  obtain ⟨g, cap, rfl, _, _, _⟩ := Kd.R_form hR (by decide)
  obtain ⟨_, hcap, hC⟩ := Kd.R_reads' hR
  obtain ⟨_, _, hC⟩ := hC
  obtain ⟨ad, had, hC⟩ := hC (by decide)
  obtain rfl := Option.some.inj had
  obtain ⟨q0, _, k0, f0⟩ := hC 0 0 rfl
  obtain ⟨q1, _, k1, f1⟩ := hC 1 1 rfl
  have k0' : q0 = [.int .i64 0] := k0
  have k1' : q1 = [.int .i64 1] := k1
  subst k0' k1'
  have hx0 : w3.cell? ⟨g, 0, none⟩ = some (.int .i64 0) := by have := f0 0 _ rfl; rwa [add_plain] at this
  have hx1 : w3.cell? ⟨g, 1, none⟩ = some (.int .i64 1) := by have := f1 0 _ rfl; rwa [add_plain] at this
  clear hR hC had f0 f1 k0 k1 hcap
  go_wp2_with (first | ((with_reducible refine gate_dst (N := 26) rfl ?_); (try (refine gate_guard (by rfl) ?_; dsimp only)); refine wpList_load_row rfl 29 (.tmp 1) rfl (w.heap.size + 1) rfl 29 #[.int .i64 0, .int .i64 0, .int .i64 0, .int .i64 2, .int .i64 1, .int .i64 4, .int .i64 0, .int .i64 0, .int .i64 0, .int .i64 0, .int .i64 0, .int .i64 0, .int .i64 0, .int .i64 0, .int .i64 0, .slice none 0 0, .slice (some ⟨w.heap.size, 0, none⟩) 1 1] (0, 0) _ BP.out Try.underlying29 rfl (by kernel_rfl) ?_) | fail)
  clear hx0 hx1
  refine (persist_Free.calls 0 0 0 2 1 4 0 0 0 0 0 0 0 0 0 none 0 [] (some ⟨w.heap.size, 0, none⟩) 1 [⟨6, 7⟩] 6 true true _ (C_nil _ _) (by decide) (C_block BS.out (Reps_one53 _ ⟨6, 7⟩) (by decide) (by decide)) (by decide) (by decide +kernel)).mono ?_
  rintro e w4 ⟨rfl, hb⟩
  replace BS := Aside0.mk (blk_below BS.out hb)
  replace BP := Aside0.mk (blk_below BP.out hb)
  replace HB := Aside0.mk (below_step HB.out hb)
  clear hb
  go_wp2_with (first | ((with_reducible refine gate_dst (N := 30) rfl ?_); (try (refine gate_guard (by rfl) ?_; dsimp only)); refine wpList_load_row rfl 29 (.tmp 1) rfl (w.heap.size + 1) rfl 29 #[.int .i64 0, .int .i64 0, .int .i64 0, .int .i64 2, .int .i64 1, .int .i64 4, .int .i64 0, .int .i64 0, .int .i64 0, .int .i64 0, .int .i64 0, .int .i64 0, .int .i64 0, .int .i64 0, .int .i64 0, .slice none 0 0, .slice (some ⟨w.heap.size, 0, none⟩) 1 1] (0, 0) _ BP.out Try.underlying29 rfl (by kernel_rfl) ?_) | fail)
  refine (persist_Free.calls 0 0 0 2 1 4 0 0 0 0 0 0 0 0 0 none 0 [] (some ⟨w.heap.size, 0, none⟩) 1 [⟨6, 7⟩] 6 false false _ (C_nil _ _) (by decide) (C_block BS.out (Reps_one53 _ ⟨6, 7⟩) (by decide) (by decide)) (by decide) (by decide +kernel)).mono ?_
  rintro e w5 ⟨rfl, hb⟩
  replace BP := Aside0.mk (blk_below BP.out hb)
  replace HB := Aside0.mk (below_step HB.out hb)
  clear hb BS
  have h3 : w5.cell? ⟨w.heap.size + 1, 3, none⟩ = some (.int .i64 2) := blk_cell BP.out 3
  have h4 : w5.cell? ⟨w.heap.size + 1, 4, none⟩ = some (.int .i64 1) := blk_cell BP.out 4
  have h5 : w5.cell? ⟨w.heap.size + 1, 5, none⟩ = some (.int .i64 4) := blk_cell BP.out 5
  go_wp2_with fail
  clear h3 h4 h5
  have B0 := blk_alloc (blk_alloc (heap_alloc_new w5 (.cells #[.int .i64 0] 3)) (.cells #[.int .i64 1] 3)) (.cells #[.slice (some ⟨w5.heap.size, 0, none⟩) 1 1, .slice (some ⟨w5.heap.size + 1, 0, none⟩) 1 1] 22)
  have B1 := blk_alloc (heap_alloc2_new w5 (.cells #[.int .i64 0] 3) (.cells #[.int .i64 1] 3)) (.cells #[.slice (some ⟨w5.heap.size, 0, none⟩) 1 1, .slice (some ⟨w5.heap.size + 1, 0, none⟩) 1 1] 22)
  have B2 := heap_alloc_new ((w5.alloc (.cells #[.int .i64 0] 3)).alloc (.cells #[.int .i64 1] 3)) (.cells #[.slice (some ⟨w5.heap.size, 0, none⟩) 1 1, .slice (some ⟨w5.heap.size + 1, 0, none⟩) 1 1] 22)
  rw [show ((w5.alloc (.cells #[.int .i64 0] 3)).alloc (.cells #[.int .i64 1] 3)).heap.size = w5.heap.size + 1 + 1 by simp] at B2
  have HB5 := Aside0.mk (below_alloc (below_alloc (below_alloc HB.out (.cells #[.int .i64 0] 3)) (.cells #[.int .i64 1] 3)) (.cells #[.slice (some ⟨w5.heap.size, 0, none⟩) 1 1, .slice (some ⟨w5.heap.size + 1, 0, none⟩) 1 1] 22))
  refine (persist_Fits.calls 2 1 4 (some ⟨w5.heap.size + 1 + 1, 0, none⟩) 2 [[0], [1]] 5 true _ (C_block (cs := [_, _]) B2 (Reps_cons (slice_K (by decide) (C_ints [0] B0 (by decide))) (Reps_cons (slice_K (by decide) (C_ints [1] B1 (by decide))) (Reps.none _ 1))) (by decide) (by decide)) (by decide) (by decide +kernel)).mono ?_
  rintro e w6 ⟨rfl, hb⟩
  replace HB5 := Aside0.mk (below_step HB5.out hb)
  clear hb B0 B1 B2
  go_wp2_with fail
  go_ret
  exact ⟨rfl, HB5.out⟩
end Go.Proofs.Ytcaanbicgpfonaa.PPl
