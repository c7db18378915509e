/- heaviest.forward's counting over the unit. -/
import Derived.Test.YtbeochkimihglaaH4
import Derived.Outline
namespace Go.Proofs.Ytbeochkimihglaa.PHl
open Go.RowKit Go.Proofs.YtbeochkimihglaaW.PrintWords Go.Proofs.YtbeochkimihglaaW.PrintLast Go.Proofs.YtbeochkimihglaaW.PrintMore
set_option linter.unusedVariables false
set_option linter.unusedSimpArgs false
/-- forward under way: the unit, its box, what is reached, and what is left. -/
def FSt (w0 : World) (bn bl n0 n1 n2 ln : Nat) (mx : Int) (bu br B bv lb : Nat) (ls : Array Value) (W : World) : Prop :=
  UnitW W bn bl n0 n1 n2 ln mx ∧ Blk W bu (unitC bn bl) 32 ∧ Blk W br #[.slice (some ⟨B, 0, none⟩) 4 4] 41 ∧ Blk W B #[.bool true, .bool true, .bool true, .bool true] 4 ∧ Blk W bv #[.slice (some ⟨lb, 0, none⟩) 4 4] 29 ∧ Blk W lb ls 3 ∧ Below w0.heap.size w0 W
section
variable {bn bl n0 n1 n2 ln bu br B bv lb : Nat} {mx : Int} {ls : Array Value} {w0 W W' : World}
theorem FSt.below (h : FSt w0 bn bl n0 n1 n2 ln mx bu br B bv lb ls W) (hb : Below W.heap.size W W') : FSt w0 bn bl n0 n1 n2 ln mx bu br B bv lb ls W' :=
  ⟨h.1.below hb, blk_below h.2.1 hb, blk_below h.2.2.1 hb, blk_below h.2.2.2.1 hb, blk_below h.2.2.2.2.1 hb, blk_below h.2.2.2.2.2.1 hb, below_step h.2.2.2.2.2.2 hb⟩
/-- The unit's own blocks are not the one that is written. -/
def Far (w0 : World) (bn bl n0 n1 n2 ln lb : Nat) : Prop := bn ≠ lb ∧ bl ≠ lb ∧ n0 ≠ lb ∧ n1 ≠ lb ∧ n2 ≠ lb ∧ ln ≠ lb ∧ w0.heap.size ≤ lb
theorem UnitW.far (h : UnitW W bn bl n0 n1 n2 ln mx) (hf : Far w0 bn bl n0 n1 n2 ln lb) (j : Nat) (u : Value) : UnitW (W.setCell ⟨lb, j, none⟩ u) bn bl n0 n1 n2 ln mx :=
  ⟨blk_far h.1 hf.1 u, blk_far h.2.1 hf.2.1 u, blk_far h.2.2.1 hf.2.2.1 u, blk_far h.2.2.2.1 hf.2.2.2.1 u, blk_far h.2.2.2.2.1 hf.2.2.2.2.1 u, blk_far h.2.2.2.2.2 hf.2.2.2.2.2.1 u⟩
theorem FSt.set (h : FSt w0 bn bl n0 n1 n2 ln mx bu br B bv lb ls W) (hf : Far w0 bn bl n0 n1 n2 ln lb) (j : Nat) (u : Value) : FSt w0 bn bl n0 n1 n2 ln mx bu br B bv lb (ls.setIfInBounds j u) (W.setCell ⟨lb, j, none⟩ u) :=
  ⟨h.1.far hf j u, blk_far h.2.1 (blk_ne h.2.1 h.2.2.2.2.2.1 (by decide)) u, blk_far h.2.2.1 (blk_ne h.2.2.1 h.2.2.2.2.2.1 (by decide)) u, blk_far h.2.2.2.1 (blk_ne h.2.2.2.1 h.2.2.2.2.2.1 (by decide)) u, blk_far h.2.2.2.2.1 (blk_ne h.2.2.2.2.1 h.2.2.2.2.2.1 (by decide)) u, blk_set h.2.2.2.2.2.1 j u, below_set h.2.2.2.2.2.2 hf.2.2.2.2.2.2⟩
end
set_option maxHeartbeats 8000000 in
set_option maxRecDepth 100000 in
theorem inc_1 (bv lb : Nat) (z : Int) (w : World) (hv : w.cell? ⟨bv, 0, none⟩ = some (.slice (some ⟨lb, 0, none⟩) 4 4)) (hz : w.cell? ⟨lb, 1, none⟩ = some (.int .i64 z)) (hf : w.frozen? ⟨lb, 1, none⟩ = false) (h0 : 0 ≤ z) (h1 : z ≤ 100) :
    Calls Try.prog 41 #[.int .i64 1, .pointer (some ⟨bv, 0, none⟩)] w fun e w' => e = .returned (.tuple #[]) ∧ w' = w.setCell ⟨lb, 1, none⟩ (.int .i64 (z + 1)) := by
  go_enter Try.func41, Try.ntmps41
  go_wp2_with fail
  go_end0
  exact ⟨rfl, rfl⟩
set_option maxHeartbeats 8000000 in
set_option maxRecDepth 100000 in
theorem inc_2 (bv lb : Nat) (z : Int) (w : World) (hv : w.cell? ⟨bv, 0, none⟩ = some (.slice (some ⟨lb, 0, none⟩) 4 4)) (hz : w.cell? ⟨lb, 2, none⟩ = some (.int .i64 z)) (hf : w.frozen? ⟨lb, 2, none⟩ = false) (h0 : 0 ≤ z) (h1 : z ≤ 100) :
    Calls Try.prog 41 #[.int .i64 2, .pointer (some ⟨bv, 0, none⟩)] w fun e w' => e = .returned (.tuple #[]) ∧ w' = w.setCell ⟨lb, 2, none⟩ (.int .i64 (z + 1)) := by
  go_enter Try.func41, Try.ntmps41
  go_wp2_with fail
  go_end0
  exact ⟨rfl, rfl⟩
set_option maxHeartbeats 8000000 in
set_option maxRecDepth 100000 in
theorem inc_3 (bv lb : Nat) (z : Int) (w : World) (hv : w.cell? ⟨bv, 0, none⟩ = some (.slice (some ⟨lb, 0, none⟩) 4 4)) (hz : w.cell? ⟨lb, 3, none⟩ = some (.int .i64 z)) (hf : w.frozen? ⟨lb, 3, none⟩ = false) (h0 : 0 ≤ z) (h1 : z ≤ 100) :
    Calls Try.prog 41 #[.int .i64 3, .pointer (some ⟨bv, 0, none⟩)] w fun e w' => e = .returned (.tuple #[]) ∧ w' = w.setCell ⟨lb, 3, none⟩ (.int .i64 (z + 1)) := by
  go_enter Try.func41, Try.ntmps41
  go_wp2_with fail
  go_end0
  exact ⟨rfl, rfl⟩
set_option maxHeartbeats 8000000 in
set_option maxRecDepth 100000 in
theorem on_inc_0 (w0 : World) (bn bl n0 n1 n2 ln : Nat) (mx : Int) (bu br B bv lb : Nat) (hf : Far w0 bn bl n0 n1 n2 ln lb) (w : World) (hS : FSt w0 bn bl n0 n1 n2 ln mx bu br B bv lb #[.int .i64 0, .int .i64 0, .int .i64 0, .int .i64 0] w) :
    Calls Try.prog 39 #[.int .i64 0, .func (.func 41) #[] #[.pointer (some ⟨bv, 0, none⟩)], .pointer (some ⟨bu, 0, none⟩), .pointer (some ⟨br, 0, none⟩)] w fun e w' =>
      e = .returned (.tuple #[]) ∧ FSt w0 bn bl n0 n1 n2 ln mx bu br B bv lb #[.int .i64 0, .int .i64 1, .int .i64 0, .int .i64 0] w' := by
  have hu32 := Try.underlying32
  have HS := Aside0.mk hS
  have HF := Aside0.mk hf
  clear hS hf
  obtain ⟨hN, hL, h0, h1, h1', h2, hln, hln'⟩ := HS.out.1.reads
  have hbu : ∀ i, w.cell? ⟨bu, i, none⟩ = (#[.string ⟨#[]⟩, .slice (some ⟨bn, 0, none⟩) 4 4, .slice (some ⟨bl, 0, none⟩) 1 1, .slice none 0 0, .slice none 0 0, .slice none 0 0, .slice none 0 0, .slice none 0 0, .slice none 0 0, .slice none 0 0] : Array Value)[i]? := fun i => blk_cell HS.out.2.1 i
  have hbr : w.cell? ⟨br, 0, none⟩ = some (.slice (some ⟨B, 0, none⟩) 4 4) := blk_cell HS.out.2.2.1 0
  have hB : ∀ i, w.cell? ⟨B, i, none⟩ = (#[.bool true, .bool true, .bool true, .bool true] : Array Value)[i]? := fun i => blk_cell HS.out.2.2.2.1 i
  go_enter Try.func39, Try.ntmps39
  go_wp2_with fail
  refine wp_loop_rounds 6 ?_
  rw [rounds_succ]
  go_wp2_with fail
  refine (back_01 bn bl n0 n1 n2 ln mx _ HS.out.1).mono ?_
  rintro e wa1 ⟨rfl, hb⟩
  replace HS := Aside0.mk (HS.out.below hb)
  clear hb
  clear hN hL h0 h1 h1' h2 hln hln' hbu hbr hB
  obtain ⟨hN, hL, h0, h1, h1', h2, hln, hln'⟩ := HS.out.1.reads
  have hbu : ∀ i, wa1.cell? ⟨bu, i, none⟩ = (#[.string ⟨#[]⟩, .slice (some ⟨bn, 0, none⟩) 4 4, .slice (some ⟨bl, 0, none⟩) 1 1, .slice none 0 0, .slice none 0 0, .slice none 0 0, .slice none 0 0, .slice none 0 0, .slice none 0 0, .slice none 0 0] : Array Value)[i]? := fun i => blk_cell HS.out.2.1 i
  have hbr : wa1.cell? ⟨br, 0, none⟩ = some (.slice (some ⟨B, 0, none⟩) 4 4) := blk_cell HS.out.2.2.1 0
  have hB : ∀ i, wa1.cell? ⟨B, i, none⟩ = (#[.bool true, .bool true, .bool true, .bool true] : Array Value)[i]? := fun i => blk_cell HS.out.2.2.2.1 i
  go_wp2_with fail
  have hz := blk_cell HS.out.2.2.2.2.2.1 1
  replace hz : wa1.cell? ⟨lb, 1, none⟩ = some (.int .i64 0) := hz
  refine (inc_1 bv lb 0 wa1 (blk_cell HS.out.2.2.2.2.1 0) hz (blk_frozen HS.out.2.2.2.2.2.1 1) (by decide) (by decide)).mono ?_
  rintro e w' ⟨rfl, rfl⟩
  clear hz
  replace HS := Aside0.mk (FSt.set HS.out HF.out 1 (.int .i64 (0 + 1)))
  clear hN hL h0 h1 h1' h2 hln hln' hbu hbr hB
  generalize wa1.setCell ⟨lb, 1, none⟩ (.int .i64 (0 + 1)) = wb1 at HS ⊢
  obtain ⟨hN, hL, h0, h1, h1', h2, hln, hln'⟩ := HS.out.1.reads
  have hbu : ∀ i, wb1.cell? ⟨bu, i, none⟩ = (#[.string ⟨#[]⟩, .slice (some ⟨bn, 0, none⟩) 4 4, .slice (some ⟨bl, 0, none⟩) 1 1, .slice none 0 0, .slice none 0 0, .slice none 0 0, .slice none 0 0, .slice none 0 0, .slice none 0 0, .slice none 0 0] : Array Value)[i]? := fun i => blk_cell HS.out.2.1 i
  have hbr : wb1.cell? ⟨br, 0, none⟩ = some (.slice (some ⟨B, 0, none⟩) 4 4) := blk_cell HS.out.2.2.1 0
  have hB : ∀ i, wb1.cell? ⟨B, i, none⟩ = (#[.bool true, .bool true, .bool true, .bool true] : Array Value)[i]? := fun i => blk_cell HS.out.2.2.2.1 i
  go_wp2_with fail
  rw [rounds_succ]
  go_wp2_with fail
  go_end0
  exact ⟨rfl, HS.out⟩
set_option maxHeartbeats 8000000 in
set_option maxRecDepth 100000 in
theorem on_inc_1 (w0 : World) (bn bl n0 n1 n2 ln : Nat) (mx : Int) (bu br B bv lb : Nat) (hf : Far w0 bn bl n0 n1 n2 ln lb) (w : World) (hS : FSt w0 bn bl n0 n1 n2 ln mx bu br B bv lb #[.int .i64 0, .int .i64 1, .int .i64 0, .int .i64 0] w) :
    Calls Try.prog 39 #[.int .i64 1, .func (.func 41) #[] #[.pointer (some ⟨bv, 0, none⟩)], .pointer (some ⟨bu, 0, none⟩), .pointer (some ⟨br, 0, none⟩)] w fun e w' =>
      e = .returned (.tuple #[]) ∧ FSt w0 bn bl n0 n1 n2 ln mx bu br B bv lb #[.int .i64 0, .int .i64 1, .int .i64 1, .int .i64 1] w' := by
  have hu32 := Try.underlying32
  have HS := Aside0.mk hS
  have HF := Aside0.mk hf
  clear hS hf
  obtain ⟨hN, hL, h0, h1, h1', h2, hln, hln'⟩ := HS.out.1.reads
  have hbu : ∀ i, w.cell? ⟨bu, i, none⟩ = (#[.string ⟨#[]⟩, .slice (some ⟨bn, 0, none⟩) 4 4, .slice (some ⟨bl, 0, none⟩) 1 1, .slice none 0 0, .slice none 0 0, .slice none 0 0, .slice none 0 0, .slice none 0 0, .slice none 0 0, .slice none 0 0] : Array Value)[i]? := fun i => blk_cell HS.out.2.1 i
  have hbr : w.cell? ⟨br, 0, none⟩ = some (.slice (some ⟨B, 0, none⟩) 4 4) := blk_cell HS.out.2.2.1 0
  have hB : ∀ i, w.cell? ⟨B, i, none⟩ = (#[.bool true, .bool true, .bool true, .bool true] : Array Value)[i]? := fun i => blk_cell HS.out.2.2.2.1 i
  go_enter Try.func39, Try.ntmps39
  go_wp2_with fail
  refine wp_loop_rounds 6 ?_
  rw [rounds_succ]
  go_wp2_with fail
  refine (back_12 bn bl n0 n1 n2 ln mx _ HS.out.1).mono ?_
  rintro e wa1 ⟨rfl, hb⟩
  replace HS := Aside0.mk (HS.out.below hb)
  clear hb
  clear hN hL h0 h1 h1' h2 hln hln' hbu hbr hB
  obtain ⟨hN, hL, h0, h1, h1', h2, hln, hln'⟩ := HS.out.1.reads
  have hbu : ∀ i, wa1.cell? ⟨bu, i, none⟩ = (#[.string ⟨#[]⟩, .slice (some ⟨bn, 0, none⟩) 4 4, .slice (some ⟨bl, 0, none⟩) 1 1, .slice none 0 0, .slice none 0 0, .slice none 0 0, .slice none 0 0, .slice none 0 0, .slice none 0 0, .slice none 0 0] : Array Value)[i]? := fun i => blk_cell HS.out.2.1 i
  have hbr : wa1.cell? ⟨br, 0, none⟩ = some (.slice (some ⟨B, 0, none⟩) 4 4) := blk_cell HS.out.2.2.1 0
  have hB : ∀ i, wa1.cell? ⟨B, i, none⟩ = (#[.bool true, .bool true, .bool true, .bool true] : Array Value)[i]? := fun i => blk_cell HS.out.2.2.2.1 i
  go_wp2_with fail
  have hz := blk_cell HS.out.2.2.2.2.2.1 2
  replace hz : wa1.cell? ⟨lb, 2, none⟩ = some (.int .i64 0) := hz
  refine (inc_2 bv lb 0 wa1 (blk_cell HS.out.2.2.2.2.1 0) hz (blk_frozen HS.out.2.2.2.2.2.1 2) (by decide) (by decide)).mono ?_
  rintro e w' ⟨rfl, rfl⟩
  clear hz
  replace HS := Aside0.mk (FSt.set HS.out HF.out 2 (.int .i64 (0 + 1)))
  clear hN hL h0 h1 h1' h2 hln hln' hbu hbr hB
  generalize wa1.setCell ⟨lb, 2, none⟩ (.int .i64 (0 + 1)) = wb1 at HS ⊢
  obtain ⟨hN, hL, h0, h1, h1', h2, hln, hln'⟩ := HS.out.1.reads
  have hbu : ∀ i, wb1.cell? ⟨bu, i, none⟩ = (#[.string ⟨#[]⟩, .slice (some ⟨bn, 0, none⟩) 4 4, .slice (some ⟨bl, 0, none⟩) 1 1, .slice none 0 0, .slice none 0 0, .slice none 0 0, .slice none 0 0, .slice none 0 0, .slice none 0 0, .slice none 0 0] : Array Value)[i]? := fun i => blk_cell HS.out.2.1 i
  have hbr : wb1.cell? ⟨br, 0, none⟩ = some (.slice (some ⟨B, 0, none⟩) 4 4) := blk_cell HS.out.2.2.1 0
  have hB : ∀ i, wb1.cell? ⟨B, i, none⟩ = (#[.bool true, .bool true, .bool true, .bool true] : Array Value)[i]? := fun i => blk_cell HS.out.2.2.2.1 i
  go_wp2_with fail
  rw [rounds_succ]
  go_wp2_with fail
  refine (back_13 bn bl n0 n1 n2 ln mx _ HS.out.1).mono ?_
  rintro e wa2 ⟨rfl, hb⟩
  replace HS := Aside0.mk (HS.out.below hb)
  clear hb
  clear hN hL h0 h1 h1' h2 hln hln' hbu hbr hB
  obtain ⟨hN, hL, h0, h1, h1', h2, hln, hln'⟩ := HS.out.1.reads
  have hbu : ∀ i, wa2.cell? ⟨bu, i, none⟩ = (#[.string ⟨#[]⟩, .slice (some ⟨bn, 0, none⟩) 4 4, .slice (some ⟨bl, 0, none⟩) 1 1, .slice none 0 0, .slice none 0 0, .slice none 0 0, .slice none 0 0, .slice none 0 0, .slice none 0 0, .slice none 0 0] : Array Value)[i]? := fun i => blk_cell HS.out.2.1 i
  have hbr : wa2.cell? ⟨br, 0, none⟩ = some (.slice (some ⟨B, 0, none⟩) 4 4) := blk_cell HS.out.2.2.1 0
  have hB : ∀ i, wa2.cell? ⟨B, i, none⟩ = (#[.bool true, .bool true, .bool true, .bool true] : Array Value)[i]? := fun i => blk_cell HS.out.2.2.2.1 i
  go_wp2_with fail
  have hz := blk_cell HS.out.2.2.2.2.2.1 3
  replace hz : wa2.cell? ⟨lb, 3, none⟩ = some (.int .i64 0) := hz
  refine (inc_3 bv lb 0 wa2 (blk_cell HS.out.2.2.2.2.1 0) hz (blk_frozen HS.out.2.2.2.2.2.1 3) (by decide) (by decide)).mono ?_
  rintro e w' ⟨rfl, rfl⟩
  clear hz
  replace HS := Aside0.mk (FSt.set HS.out HF.out 3 (.int .i64 (0 + 1)))
  clear hN hL h0 h1 h1' h2 hln hln' hbu hbr hB
  generalize wa2.setCell ⟨lb, 3, none⟩ (.int .i64 (0 + 1)) = wb2 at HS ⊢
  obtain ⟨hN, hL, h0, h1, h1', h2, hln, hln'⟩ := HS.out.1.reads
  have hbu : ∀ i, wb2.cell? ⟨bu, i, none⟩ = (#[.string ⟨#[]⟩, .slice (some ⟨bn, 0, none⟩) 4 4, .slice (some ⟨bl, 0, none⟩) 1 1, .slice none 0 0, .slice none 0 0, .slice none 0 0, .slice none 0 0, .slice none 0 0, .slice none 0 0, .slice none 0 0] : Array Value)[i]? := fun i => blk_cell HS.out.2.1 i
  have hbr : wb2.cell? ⟨br, 0, none⟩ = some (.slice (some ⟨B, 0, none⟩) 4 4) := blk_cell HS.out.2.2.1 0
  have hB : ∀ i, wb2.cell? ⟨B, i, none⟩ = (#[.bool true, .bool true, .bool true, .bool true] : Array Value)[i]? := fun i => blk_cell HS.out.2.2.2.1 i
  go_wp2_with fail
  rw [rounds_succ]
  go_wp2_with fail
  go_end0
  exact ⟨rfl, HS.out⟩
set_option maxHeartbeats 8000000 in
set_option maxRecDepth 100000 in
theorem on_inc_2 (w0 : World) (bn bl n0 n1 n2 ln : Nat) (mx : Int) (bu br B bv lb : Nat) (hf : Far w0 bn bl n0 n1 n2 ln lb) (w : World) (hS : FSt w0 bn bl n0 n1 n2 ln mx bu br B bv lb #[.int .i64 0, .int .i64 1, .int .i64 1, .int .i64 1] w) :
    Calls Try.prog 39 #[.int .i64 2, .func (.func 41) #[] #[.pointer (some ⟨bv, 0, none⟩)], .pointer (some ⟨bu, 0, none⟩), .pointer (some ⟨br, 0, none⟩)] w fun e w' =>
      e = .returned (.tuple #[]) ∧ FSt w0 bn bl n0 n1 n2 ln mx bu br B bv lb #[.int .i64 0, .int .i64 1, .int .i64 1, .int .i64 1] w' := by
  have hu32 := Try.underlying32
  have HS := Aside0.mk hS
  have HF := Aside0.mk hf
  clear hS hf
  obtain ⟨hN, hL, h0, h1, h1', h2, hln, hln'⟩ := HS.out.1.reads
  have hbu : ∀ i, w.cell? ⟨bu, i, none⟩ = (#[.string ⟨#[]⟩, .slice (some ⟨bn, 0, none⟩) 4 4, .slice (some ⟨bl, 0, none⟩) 1 1, .slice none 0 0, .slice none 0 0, .slice none 0 0, .slice none 0 0, .slice none 0 0, .slice none 0 0, .slice none 0 0] : Array Value)[i]? := fun i => blk_cell HS.out.2.1 i
  have hbr : w.cell? ⟨br, 0, none⟩ = some (.slice (some ⟨B, 0, none⟩) 4 4) := blk_cell HS.out.2.2.1 0
  have hB : ∀ i, w.cell? ⟨B, i, none⟩ = (#[.bool true, .bool true, .bool true, .bool true] : Array Value)[i]? := fun i => blk_cell HS.out.2.2.2.1 i
  go_enter Try.func39, Try.ntmps39
  go_wp2_with fail
  refine wp_loop_rounds 6 ?_
  rw [rounds_succ]
  go_wp2_with fail
  refine (back_21 bn bl n0 n1 n2 ln mx _ HS.out.1).mono ?_
  rintro e wa1 ⟨rfl, hb⟩
  replace HS := Aside0.mk (HS.out.below hb)
  clear hb
  clear hN hL h0 h1 h1' h2 hln hln' hbu hbr hB
  obtain ⟨hN, hL, h0, h1, h1', h2, hln, hln'⟩ := HS.out.1.reads
  have hbu : ∀ i, wa1.cell? ⟨bu, i, none⟩ = (#[.string ⟨#[]⟩, .slice (some ⟨bn, 0, none⟩) 4 4, .slice (some ⟨bl, 0, none⟩) 1 1, .slice none 0 0, .slice none 0 0, .slice none 0 0, .slice none 0 0, .slice none 0 0, .slice none 0 0, .slice none 0 0] : Array Value)[i]? := fun i => blk_cell HS.out.2.1 i
  have hbr : wa1.cell? ⟨br, 0, none⟩ = some (.slice (some ⟨B, 0, none⟩) 4 4) := blk_cell HS.out.2.2.1 0
  have hB : ∀ i, wa1.cell? ⟨B, i, none⟩ = (#[.bool true, .bool true, .bool true, .bool true] : Array Value)[i]? := fun i => blk_cell HS.out.2.2.2.1 i
  go_wp2_with fail
  rw [rounds_succ]
  go_wp2_with fail
  go_end0
  exact ⟨rfl, HS.out⟩
set_option maxHeartbeats 8000000 in
set_option maxRecDepth 100000 in
theorem on_inc_3 (w0 : World) (bn bl n0 n1 n2 ln : Nat) (mx : Int) (bu br B bv lb : Nat) (hf : Far w0 bn bl n0 n1 n2 ln lb) (w : World) (hS : FSt w0 bn bl n0 n1 n2 ln mx bu br B bv lb #[.int .i64 0, .int .i64 1, .int .i64 1, .int .i64 1] w) :
    Calls Try.prog 39 #[.int .i64 3, .func (.func 41) #[] #[.pointer (some ⟨bv, 0, none⟩)], .pointer (some ⟨bu, 0, none⟩), .pointer (some ⟨br, 0, none⟩)] w fun e w' =>
      e = .returned (.tuple #[]) ∧ FSt w0 bn bl n0 n1 n2 ln mx bu br B bv lb #[.int .i64 0, .int .i64 1, .int .i64 1, .int .i64 1] w' := by
  have hu32 := Try.underlying32
  have HS := Aside0.mk hS
  have HF := Aside0.mk hf
  clear hS hf
  obtain ⟨hN, hL, h0, h1, h1', h2, hln, hln'⟩ := HS.out.1.reads
  have hbu : ∀ i, w.cell? ⟨bu, i, none⟩ = (#[.string ⟨#[]⟩, .slice (some ⟨bn, 0, none⟩) 4 4, .slice (some ⟨bl, 0, none⟩) 1 1, .slice none 0 0, .slice none 0 0, .slice none 0 0, .slice none 0 0, .slice none 0 0, .slice none 0 0, .slice none 0 0] : Array Value)[i]? := fun i => blk_cell HS.out.2.1 i
  have hbr : w.cell? ⟨br, 0, none⟩ = some (.slice (some ⟨B, 0, none⟩) 4 4) := blk_cell HS.out.2.2.1 0
  have hB : ∀ i, w.cell? ⟨B, i, none⟩ = (#[.bool true, .bool true, .bool true, .bool true] : Array Value)[i]? := fun i => blk_cell HS.out.2.2.2.1 i
  go_enter Try.func39, Try.ntmps39
  go_wp2_with fail
  refine wp_loop_rounds 6 ?_
  rw [rounds_succ]
  go_wp2_with fail
  go_end0
  exact ⟨rfl, HS.out⟩
end Go.Proofs.Ytbeochkimihglaa.PHl
