/- Parts of heaviest.Looped over the unit. -/
import Derived.Test.YtbeochkimihglaaH1
import Derived.Test.YtbeochkimihglaaI1
import Derived.Outline
namespace Go.Proofs.Ytbeochkimihglaa.PHl
open Go.RowKit Go.Proofs.YtbeochkimihglaaW.PrintWords Go.Proofs.YtbeochkimihglaaW.PrintLast Go.Proofs.YtbeochkimihglaaW.PrintMore
set_option linter.unusedVariables false
set_option linter.unusedSimpArgs false

theorem ints_at {W : World} {B : Nat} (xs : List Int) (h : W.heap[B]? = some (.cells (xs.map (Value.int .i64)).toArray 3 (0, 0))) (hl : xs.length ≤ 1000) : (Kd.int .i64).C W (some ⟨B, 0, none⟩) xs.length xs := by
  refine ⟨rfl, by omega, fun _ => ⟨_, rfl, fun j p hj => ⟨[.int .i64 p], rfl, rfl, fun i u hu => ?_⟩⟩⟩
  cases i with
  | succ i => simp at hu
  | zero =>
    have hu' : Value.int .i64 p = u := by simpa using hu
    subst hu'
    rw [add_plain, blk_cell h]
    simp [Kd.int, Kd.scalar, hj]
/-- Is it a node of the loop? -/
def inL (m : Int) : Bool := decide (m = 1) || decide (m = 2)
theorem in_calls (ln : Nat) (m : Int) (w : World) (h : Blk w ln #[.int .i64 1, .int .i64 2] 3) (hm : m = 0 ∨ m = 1 ∨ m = 2 ∨ m = 3) :
    Calls Try.prog 34 #[.slice (some ⟨ln, 0, none⟩) 2 2, .int .i64 m] w fun e w' => e = .returned (.bool (inL m)) ∧ ∃ n, w' = w.drewN n := by
  have hC := ints_at [1, 2] h (by decide)
  have key : PHeaviestLoop.heaviest_in.f 20 [1, 2] m = some (inL m) := by
    rcases hm with rfl | rfl | rfl | rfl <;> decide +kernel
  exact (PHeaviestLoop.heaviest_in.calls 20 (some ⟨ln, 0, none⟩) 2 [1, 2] m _ w hC (by decide) key).mono fun e w' ⟨a, b⟩ => ⟨a, b.out⟩
theorem has_calls (n0 : Nat) (w : World) (h : Blk w n0 #[.int .i64 1] 3) :
    Calls Try.prog 35 #[.slice (some ⟨n0, 0, none⟩) 1 1, .int .i64 1] w fun e w' => e = .returned (.bool true) ∧ ∃ n, w' = w.drewN n := by
  have hC := ints_at [1] h (by decide)
  exact (PHeaviestLoop.slices_Contains_int_int.calls 20 (some ⟨n0, 0, none⟩) 1 [1] 1 true w hC (by decide) (by decide +kernel)).mono fun e w' ⟨a, b⟩ => ⟨a, b.out⟩
set_option maxHeartbeats 8000000 in
set_option maxRecDepth 100000 in
theorem nested_calls (bn bl n0 n1 n2 ln : Nat) (mx : Int) (w : World) (hU : UnitW w bn bl n0 n1 n2 ln mx) :
    Calls Try.prog 19 #[UV bn bl] w fun e w' => e = .returned (.bool true) ∧ Below w.heap.size w w' := by
  have hu32 := Try.underlying32
  have hu38 := Try.underlying38
  obtain ⟨hN, hL, h0, h1, h1', h2, hln, hln'⟩ := hU.reads
  obtain ⟨lbn, lbl, ln0, ln1, ln2, lln⟩ := hU.lts
  have lbnA : ∀ k, bn < w.heap.size + k := fun k => by omega
  have lbnB : ∀ k j, bn < w.heap.size + k + j := fun k j => by omega
  have lblA : ∀ k, bl < w.heap.size + k := fun k => by omega
  have lblB : ∀ k j, bl < w.heap.size + k + j := fun k j => by omega
  have ln0A : ∀ k, n0 < w.heap.size + k := fun k => by omega
  have ln0B : ∀ k j, n0 < w.heap.size + k + j := fun k j => by omega
  have ln1A : ∀ k, n1 < w.heap.size + k := fun k => by omega
  have ln1B : ∀ k j, n1 < w.heap.size + k + j := fun k j => by omega
  have ln2A : ∀ k, n2 < w.heap.size + k := fun k => by omega
  have ln2B : ∀ k j, n2 < w.heap.size + k + j := fun k j => by omega
  have llnA : ∀ k, ln < w.heap.size + k := fun k => by omega
  have llnB : ∀ k j, ln < w.heap.size + k + j := fun k j => by omega
  clear hU
  go_enter Try.func19, Try.ntmps19
  go_wp2_with fail
  repeat (first | (rw [rounds_succ]; go_wp2_with (go_in)) | (refine wp_loop_rounds 5 ?_; rw [rounds_succ]; go_wp2_with (go_in)))
  go_ret
  exact ⟨rfl, by repeat (first | with_reducible exact Below.refl _ _ | apply below_alloc)⟩
set_option maxHeartbeats 8000000 in
set_option maxRecDepth 100000 in
theorem end_calls (bn bl n0 n1 n2 ln : Nat) (mx : Int) (w : World) (hU : UnitW w bn bl n0 n1 n2 ln mx) :
    Calls Try.prog 16 #[UV bn bl] w fun e w' => e = .returned (.int .i64 3) ∧ Below w.heap.size w w' := by
  have hu32 := Try.underlying32
  have HU := Aside0.mk hU
  clear hU
  go_enter Try.func16, Try.ntmps16
  go_wp2_with fail
  have hb0 := below_alloc (Below.refl w.heap.size w) (.cells #[.string ⟨#[]⟩, .slice (some ⟨bn, 0, none⟩) 4 4, .slice (some ⟨bl, 0, none⟩) 1 1, .slice none 0 0, .slice none 0 0, .slice none 0 0, .slice none 0 0, .slice none 0 0, .slice none 0 0, .slice none 0 0] 32)
  refine (reached_calls bn bl n0 n1 n2 ln mx _ (HU.out.below hb0)).mono ?_
  rintro e w1 ⟨B, rfl, hB, hBk, hb⟩
  have HB := Aside0.mk (below_step hb0 hb)
  have HU1 := Aside0.mk ((HU.out.below hb0).below hb)
  have BU := blk_below (heap_alloc_new w (.cells #[.string ⟨#[]⟩, .slice (some ⟨bn, 0, none⟩) 4 4, .slice (some ⟨bl, 0, none⟩) 1 1, .slice none 0 0, .slice none 0 0, .slice none 0 0, .slice none 0 0, .slice none 0 0, .slice none 0 0, .slice none 0 0] 32)) hb
  have hbu := blk_cell BU 1
  replace hbu : w1.cell? ⟨w.heap.size, 1, none⟩ = some (.slice (some ⟨bn, 0, none⟩) 4 4) := hbu
  have hR : ∀ i, w1.cell? ⟨B, i, none⟩ = (#[.bool true, .bool true, .bool true, .bool true] : Array Value)[i]? := fun i => blk_cell hBk i
  clear hb0 hb hB hBk BU
  obtain ⟨hN, hL, h0, h1, h1', h2, hln, hln'⟩ := HU1.out.reads
  obtain ⟨lbn, lbl, ln0, ln1, ln2, lln⟩ := HU1.out.lts
  go_wp2_with fail
  repeat (first | (rw [rounds_succ]; go_wp2_with (go_in)) | (refine wp_loop_rounds 5 ?_; rw [rounds_succ]; go_wp2_with (go_in)))
  go_ret
  exact ⟨rfl, HB.out⟩
end Go.Proofs.Ytbeochkimihglaa.PHl
