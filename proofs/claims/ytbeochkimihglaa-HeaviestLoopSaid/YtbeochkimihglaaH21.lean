/- ways.trace over the loop's round. -/
import Derived.Test.YtbeochkimihglaaH19
import Derived.Outline
namespace Go.Proofs.Ytbeochkimihglaa.PHl
open Go.RowKit Go.Proofs.YtbeochkimihglaaW.PrintWords Go.Proofs.YtbeochkimihglaaW.PrintLast Go.Proofs.YtbeochkimihglaaW.PrintMore
set_option linter.unusedVariables false
set_option linter.unusedSimpArgs false
set_option maxHeartbeats 8000000 in
set_option maxRecDepth 100000 in
theorem reverse_one (g c : Nat) (w : World) : Calls Try.prog 48 #[.slice (some ⟨g, 0, none⟩) 1 c] w fun e w' => e = .returned (.tuple #[]) ∧ w' = w := by
  go_enter Try.func48, Try.ntmps48
  go_wp2_with fail
  refine wp_loop_rounds 6 ?_
  rw [rounds_succ]
  go_wp2_with fail
  go_end0
  exact ⟨rfl, rfl⟩
set_option maxHeartbeats 8000000 in
set_option maxRecDepth 100000 in
theorem trace_in (bk bs bb : Nat) (a1 : Int) (w : World) (hB : Blk w bb #[.int .i64 0, .int .i64 0, .int .i64 0, .int .i64 0, .int .i64 0, .int .i64 0, .int .i64 0, .int .i64 0, .int .i64 1, .int .i64 0, .int .i64 2, .int .i64 a1, .int .i64 0, .int .i64 0, .int .i64 0, .int .i64 0] 74) :
    Calls Try.prog 27 #[.agg #[.slice (some ⟨bk, 0, none⟩) 4 4, .slice (some ⟨bs, 0, none⟩) 4 4, .slice (some ⟨bb, 0, none⟩) 4 4], .int .i64 1, .int .i64 2] w fun e w' => ∃ g c, e = .returned (.slice (some ⟨g, 0, none⟩) 1 c) ∧ w'.ownsRow w.heap.size 74 4 (.slice (some ⟨g, 0, none⟩) 1 c) 1 [.int .i64 1, .int .i64 0, .int .i64 2, .int .i64 a1] ∧ Below w.heap.size w w' := by
  have hu71 := Try.underlying71
  have hu74 := Try.underlying74
  have BB := Aside0.mk hB
  have HB : Aside0 (Below w.heap.size w w) := ⟨Below.refl _ _⟩
  clear hB
  go_enter Try.func27, Try.ntmps27
  go_upto_region 2 with (fail)
  have hb : Below w.heap.size w (w.alloc (.cells #[.slice (some ⟨bk, 0, none⟩) 4 4, .slice (some ⟨bs, 0, none⟩) 4 4, .slice (some ⟨bb, 0, none⟩) 4 4] 71)) := (by repeat (first | with_reducible exact Below.refl _ _ | apply below_alloc | apply pw_below_drewN | apply below_drew1))
  have BX : Aside0 (Blk (w.alloc (.cells #[.slice (some ⟨bk, 0, none⟩) 4 4, .slice (some ⟨bs, 0, none⟩) 4 4, .slice (some ⟨bb, 0, none⟩) 4 4] 71)) w.heap.size #[.slice (some ⟨bk, 0, none⟩) 4 4, .slice (some ⟨bs, 0, none⟩) 4 4, .slice (some ⟨bb, 0, none⟩) 4 4] 71) := ⟨(by (repeat (first | with_reducible exact heap_alloc_new _ _ | with_reducible exact heap_alloc2_new _ _ _ | with_reducible exact blk_at3 _ _ _ _ | with_reducible exact blk_at4 _ _ _ _ _ | refine blk_alloc ?_ _)))⟩
  replace HB := Aside0.mk (below_step HB.out hb)
  replace BB := Aside0.mk (blk_below BB.out hb)
  clear hb
  generalize (w.alloc (.cells #[.slice (some ⟨bk, 0, none⟩) 4 4, .slice (some ⟨bs, 0, none⟩) 4 4, .slice (some ⟨bb, 0, none⟩) 4 4] 71)) = Wa at HB BB BX ⊢
  have hBB : ∀ i, Wa.cell? ⟨bb, i, none⟩ = (#[.int .i64 0, .int .i64 0, .int .i64 0, .int .i64 0, .int .i64 0, .int .i64 0, .int .i64 0, .int .i64 0, .int .i64 1, .int .i64 0, .int .i64 2, .int .i64 a1, .int .i64 0, .int .i64 0, .int .i64 0, .int .i64 0] : Array Value)[i]? := fun i => blk_cell BB.out i
  have ltBB := blk_lt BB.out
  have ltBBA : ∀ k, bb < Wa.heap.size + k := fun k => by omega
  have ltBBB : ∀ k j, bb < Wa.heap.size + k + j := fun k j => by omega
  have hBX : ∀ i, Wa.cell? ⟨w.heap.size, i, none⟩ = (#[.slice (some ⟨bk, 0, none⟩) 4 4, .slice (some ⟨bs, 0, none⟩) 4 4, .slice (some ⟨bb, 0, none⟩) 4 4] : Array Value)[i]? := fun i => blk_cell BX.out i
  have ltBX := blk_lt BX.out
  have ltBXA : ∀ k, w.heap.size < Wa.heap.size + k := fun k => by omega
  have ltBXB : ∀ k j, w.heap.size < Wa.heap.size + k + j := fun k j => by omega
  go_wp2_with fail
  refine wp_loop_rounds 6 ?_
  rw [rounds_succ]
  go_upto_region 4 with (first | (at_builtin; refine print_append_cells (w0 := Wa) Wa.heap.size rfl (.tmp 27) (.tmp 33) 58 74 (.agg #[.int .i64 0, .int .i64 0, .int .i64 0, .int .i64 0]) 4 32 rfl Try.underlying58 info74 rfl (by decide) (by decide) (.slice none 0 0) 0 [] [.int .i64 1, .int .i64 0, .int .i64 2, .int .i64 a1] rfl rfl rfl (oneE _ _ _ _) (own_nil _ _ _ _) (Below.refl _ _) (Nat.le_refl _) (by decide) ?_; intro vq w1 ho hb2 hg hat; simp only [Nat.reduceAdd, List.nil_append] at ho; obtain ⟨gE, cE, rfl, -, -⟩ := ho.form (by omega); have HE := Aside0.mk ho; have HB2 := Aside0.mk hb2; clear ho hb2 hg hat) | fail)
  clear hBB ltBB ltBBA ltBBB hBX ltBX ltBXA ltBXB
  have hb := HB2.out
  have HBW : Aside0 (w.heap.size ≤ Wa.heap.size) := ⟨HB.out.size⟩
  replace HB := Aside0.mk (below_step HB.out hb)
  replace BB := Aside0.mk (blk_below BB.out hb)
  replace BX := Aside0.mk (blk_below BX.out hb)
  clear hb
  have hBB : ∀ i, w1.cell? ⟨bb, i, none⟩ = (#[.int .i64 0, .int .i64 0, .int .i64 0, .int .i64 0, .int .i64 0, .int .i64 0, .int .i64 0, .int .i64 0, .int .i64 1, .int .i64 0, .int .i64 2, .int .i64 a1, .int .i64 0, .int .i64 0, .int .i64 0, .int .i64 0] : Array Value)[i]? := fun i => blk_cell BB.out i
  have ltBB := blk_lt BB.out
  have ltBBA : ∀ k, bb < w1.heap.size + k := fun k => by omega
  have ltBBB : ∀ k j, bb < w1.heap.size + k + j := fun k j => by omega
  have hBX : ∀ i, w1.cell? ⟨w.heap.size, i, none⟩ = (#[.slice (some ⟨bk, 0, none⟩) 4 4, .slice (some ⟨bs, 0, none⟩) 4 4, .slice (some ⟨bb, 0, none⟩) 4 4] : Array Value)[i]? := fun i => blk_cell BX.out i
  have ltBX := blk_lt BX.out
  have ltBXA : ∀ k, w.heap.size < w1.heap.size + k := fun k => by omega
  have ltBXB : ∀ k j, w.heap.size < w1.heap.size + k + j := fun k j => by omega
  go_wp2_with fail
  rw [rounds_succ]
  go_wp2_with fail
  refine (reverse_one gE cE _).mono ?_
  rintro e _ ⟨rfl, rfl⟩
  go_wp2_with fail
  go_ret
  exact ⟨gE, cE, rfl, own_weaken HE.out (Nat.le_trans HBW.out (Nat.le_refl _)), HB.out⟩
end Go.Proofs.Ytbeochkimihglaa.PHl
