/- DeleteFunc over edges. -/
import Derived.Test.YtbeochkimihglaaH16
import Derived.Outline
namespace Go.Proofs.Ytbeochkimihglaa.PHl
open Go.RowKit Go.Proofs.YtbeochkimihglaaW.PrintWords Go.Proofs.YtbeochkimihglaaW.PrintLast Go.Proofs.YtbeochkimihglaaW.PrintMore
set_option linter.unusedVariables false
set_option linter.unusedSimpArgs false
theorem bset {B g : Nat} {w W : World} (h : Below B w W) (hg : B ≤ g) (j : Nat) (v : Value) : Below B w (W.setCell ⟨g, j, none⟩ v) := h.setCell hg v
theorem clear_edges (n : Nat) (w : World) (ty b o c : Nat) (hn : 0 < n) (hzc : (Builtin.zeroCells #[.int .i64 0, .int .i64 0, .int .i64 0, .int .i64 0] n).toList = List.replicate (n * 4) (.int .i64 0))
    (hc : ∀ j, j < n * 4 → (w.cell? ⟨b, o + j, none⟩).isSome = true) (hf : ∀ j, j < n * 4 → w.frozen? ⟨b, o + j, none⟩ = false) :
    (Builtin.clear_ #[58] ty #[.slice (some ⟨b, o, none⟩) n c]).run Try.prog w = .ok (.tuple #[]) (w.setCells b o (List.replicate (n * 4) (.int .i64 0))) := by
  have hv : ∀ w, (zeroValue 74).run Try.prog w = .ok (.agg #[.int .i64 0, .int .i64 0, .int .i64 0, .int .i64 0]) w := fun w => by kernel_rfl
  have hst := run_storeCells_cells (P := Try.prog) b o (List.replicate (n * 4) (.int .i64 0)) 0 w (by simpa using hc) (by simpa using hf) (by intro v hv'; rw [List.eq_of_mem_replicate hv']; rfl)
  simp only [Nat.add_zero] at hst
  have hzc' : (Builtin.zeroCells (Value.agg #[.int .i64 0, .int .i64 0, .int .i64 0, .int .i64 0]).cells n).toList = List.replicate (n * 4) (.int .i64 0) := hzc
  obtain ⟨m, rfl⟩ : ∃ m, n = m + 1 := ⟨n - 1, by omega⟩
  simp [Builtin.clear_, run_underlying Try.underlying58, hv, hzc', hst]
theorem below_less {B b0 : Nat} {w w' : World} (h : Below B w w') (hb : b0 ≤ B) : Below b0 w w' := ⟨h.os, h.tape, h.output, h.size, fun k hk => h.block k (by omega)⟩
set_option maxHeartbeats 8000000 in
set_option maxRecDepth 100000 in
theorem delete_opn_none (g c b0 : Nat) (a0 a1 a2 a3 : Int) (db dd : Nat) (w : World) (hE : w.ownsRow b0 74 4 (.slice (some ⟨g, 0, none⟩) 4 c) 4 [.int .i64 0, .int .i64 0, .int .i64 1, .int .i64 a0, .int .i64 1, .int .i64 0, .int .i64 2, .int .i64 a1, .int .i64 1, .int .i64 1, .int .i64 3, .int .i64 a2, .int .i64 2, .int .i64 0, .int .i64 1, .int .i64 a3]) (hN : Blk w db #[.slice (some ⟨dd, 0, none⟩) 4 4] 41) (hL : Blk w dd #[.bool false, .bool false, .bool false, .bool false] 4) (hb0 : b0 ≤ w.heap.size) (gN : db < b0) (gL : dd < b0) :
    Calls Try.prog 44 #[.slice (some ⟨g, 0, none⟩) 4 c, .func (.func 47) #[] #[.pointer (some ⟨db, 0, none⟩)]] w fun e w' => e = .returned (.slice (some ⟨g, 0, none⟩) 4 c) ∧ w'.ownsRow b0 74 4 (.slice (some ⟨g, 0, none⟩) 4 c) 4 [.int .i64 0, .int .i64 0, .int .i64 1, .int .i64 a0, .int .i64 1, .int .i64 0, .int .i64 2, .int .i64 a1, .int .i64 1, .int .i64 1, .int .i64 3, .int .i64 a2, .int .i64 2, .int .i64 0, .int .i64 1, .int .i64 a3] ∧ Below b0 w w' := by
  have hu74 := Try.underlying74
  have hu58 := Try.underlying58
  have hmx : 4 ≤ c := own_le hE
  have HB : Aside0 (Below b0 w w) := ⟨Below.refl _ _⟩
  have BN0 := Aside0.mk hN
  have BL0 := Aside0.mk hL
  have BN := Aside0.mk hN
  have BL := Aside0.mk hL
  have HE := Aside0.mk hE
  have HBB := Aside0.mk hb0
  have HBB0 := Aside0.mk hb0
  have GN := Aside0.mk gN
  have GL := Aside0.mk gL
  have HGB : Aside0 (b0 ≤ g) := ⟨own_base hE g rfl⟩
  clear hN hL hE hb0 gN gL
  go_enter Try.func44, Try.ntmps44
  go_wp2_with fail
  refine (index_opn_none g c b0 a0 a1 a2 a3 db dd _ HE.out BN.out BL.out HBB.out).mono ?_
  rintro e w1 ⟨rfl, hb⟩
  replace HE := Aside0.mk (pw_own_below HE.out hb)
  replace HB : Aside0 (Below b0 w w1) := ⟨HB.out.trans (below_less hb HBB.out)⟩
  replace BN : Aside0 (Blk w1 db #[.slice (some ⟨dd, 0, none⟩) 4 4] 41) := ⟨(HB.out.block _ GN.out).trans BN0.out⟩
  replace BL : Aside0 (Blk w1 dd #[.bool false, .bool false, .bool false, .bool false] 4) := ⟨(HB.out.block _ GL.out).trans BL0.out⟩
  replace HBB : Aside0 (b0 ≤ w1.heap.size) := ⟨by have := HBB0.out; have := HB.out.size; omega⟩
  clear hb
  have hHE0 : w1.cell? ⟨g, 0, none⟩ = some (.int .i64 0) := HE.out.cellAt 0 (by decide)
  have hHE1 : w1.cell? ⟨g, 1, none⟩ = some (.int .i64 0) := HE.out.cellAt 1 (by decide)
  have hHE2 : w1.cell? ⟨g, 2, none⟩ = some (.int .i64 1) := HE.out.cellAt 2 (by decide)
  have hHE3 : w1.cell? ⟨g, 3, none⟩ = some (.int .i64 a0) := HE.out.cellAt 3 (by decide)
  have hHE4 : w1.cell? ⟨g, 4, none⟩ = some (.int .i64 1) := HE.out.cellAt 4 (by decide)
  have hHE5 : w1.cell? ⟨g, 5, none⟩ = some (.int .i64 0) := HE.out.cellAt 5 (by decide)
  have hHE6 : w1.cell? ⟨g, 6, none⟩ = some (.int .i64 2) := HE.out.cellAt 6 (by decide)
  have hHE7 : w1.cell? ⟨g, 7, none⟩ = some (.int .i64 a1) := HE.out.cellAt 7 (by decide)
  have hHE8 : w1.cell? ⟨g, 8, none⟩ = some (.int .i64 1) := HE.out.cellAt 8 (by decide)
  have hHE9 : w1.cell? ⟨g, 9, none⟩ = some (.int .i64 1) := HE.out.cellAt 9 (by decide)
  have hHE10 : w1.cell? ⟨g, 10, none⟩ = some (.int .i64 3) := HE.out.cellAt 10 (by decide)
  have hHE11 : w1.cell? ⟨g, 11, none⟩ = some (.int .i64 a2) := HE.out.cellAt 11 (by decide)
  have hHE12 : w1.cell? ⟨g, 12, none⟩ = some (.int .i64 2) := HE.out.cellAt 12 (by decide)
  have hHE13 : w1.cell? ⟨g, 13, none⟩ = some (.int .i64 0) := HE.out.cellAt 13 (by decide)
  have hHE14 : w1.cell? ⟨g, 14, none⟩ = some (.int .i64 1) := HE.out.cellAt 14 (by decide)
  have hHE15 : w1.cell? ⟨g, 15, none⟩ = some (.int .i64 a3) := HE.out.cellAt 15 (by decide)
  have fzHE := fun j => HE.out.frozenAt j
  have ltg : g < w1.heap.size := (HE.out.lt _ rfl).2
  have ltgA : ∀ k, g < w1.heap.size + k := fun k => by omega
  go_wp2_with fail
  go_ret
  exact ⟨rfl, HE.out, HB.out⟩
set_option maxHeartbeats 8000000 in
set_option maxRecDepth 100000 in
theorem delete_opn_two (g c b0 : Nat) (a0 a1 a2 a3 : Int) (db dd : Nat) (w : World) (hE : w.ownsRow b0 74 4 (.slice (some ⟨g, 0, none⟩) 4 c) 4 [.int .i64 0, .int .i64 0, .int .i64 1, .int .i64 a0, .int .i64 1, .int .i64 0, .int .i64 2, .int .i64 a1, .int .i64 1, .int .i64 1, .int .i64 3, .int .i64 a2, .int .i64 2, .int .i64 0, .int .i64 1, .int .i64 a3]) (hN : Blk w db #[.slice (some ⟨dd, 0, none⟩) 4 4] 41) (hL : Blk w dd #[.bool false, .bool false, .bool true, .bool false] 4) (hb0 : b0 ≤ w.heap.size) (gN : db < b0) (gL : dd < b0) :
    Calls Try.prog 44 #[.slice (some ⟨g, 0, none⟩) 4 c, .func (.func 47) #[] #[.pointer (some ⟨db, 0, none⟩)]] w fun e w' => e = .returned (.slice (some ⟨g, 0, none⟩) 2 c) ∧ w'.ownsRow b0 74 4 (.slice (some ⟨g, 0, none⟩) 2 c) 2 [.int .i64 0, .int .i64 0, .int .i64 1, .int .i64 a0, .int .i64 1, .int .i64 1, .int .i64 3, .int .i64 a2] ∧ Below b0 w w' := by
  have hu74 := Try.underlying74
  have hu58 := Try.underlying58
  have hmx : 4 ≤ c := own_le hE
  have HB : Aside0 (Below b0 w w) := ⟨Below.refl _ _⟩
  have BN0 := Aside0.mk hN
  have BL0 := Aside0.mk hL
  have BN := Aside0.mk hN
  have BL := Aside0.mk hL
  have HE := Aside0.mk hE
  have HBB := Aside0.mk hb0
  have HBB0 := Aside0.mk hb0
  have GN := Aside0.mk gN
  have GL := Aside0.mk gL
  have HGB : Aside0 (b0 ≤ g) := ⟨own_base hE g rfl⟩
  clear hN hL hE hb0 gN gL
  go_enter Try.func44, Try.ntmps44
  go_wp2_with fail
  refine (index_opn_two g c b0 a0 a1 a2 a3 db dd _ HE.out BN.out BL.out HBB.out).mono ?_
  rintro e w1 ⟨rfl, hb⟩
  replace HE := Aside0.mk (pw_own_below HE.out hb)
  replace HB : Aside0 (Below b0 w w1) := ⟨HB.out.trans (below_less hb HBB.out)⟩
  replace BN : Aside0 (Blk w1 db #[.slice (some ⟨dd, 0, none⟩) 4 4] 41) := ⟨(HB.out.block _ GN.out).trans BN0.out⟩
  replace BL : Aside0 (Blk w1 dd #[.bool false, .bool false, .bool true, .bool false] 4) := ⟨(HB.out.block _ GL.out).trans BL0.out⟩
  replace HBB : Aside0 (b0 ≤ w1.heap.size) := ⟨by have := HBB0.out; have := HB.out.size; omega⟩
  clear hb
  have hHE0 : w1.cell? ⟨g, 0, none⟩ = some (.int .i64 0) := HE.out.cellAt 0 (by decide)
  have hHE1 : w1.cell? ⟨g, 1, none⟩ = some (.int .i64 0) := HE.out.cellAt 1 (by decide)
  have hHE2 : w1.cell? ⟨g, 2, none⟩ = some (.int .i64 1) := HE.out.cellAt 2 (by decide)
  have hHE3 : w1.cell? ⟨g, 3, none⟩ = some (.int .i64 a0) := HE.out.cellAt 3 (by decide)
  have hHE4 : w1.cell? ⟨g, 4, none⟩ = some (.int .i64 1) := HE.out.cellAt 4 (by decide)
  have hHE5 : w1.cell? ⟨g, 5, none⟩ = some (.int .i64 0) := HE.out.cellAt 5 (by decide)
  have hHE6 : w1.cell? ⟨g, 6, none⟩ = some (.int .i64 2) := HE.out.cellAt 6 (by decide)
  have hHE7 : w1.cell? ⟨g, 7, none⟩ = some (.int .i64 a1) := HE.out.cellAt 7 (by decide)
  have hHE8 : w1.cell? ⟨g, 8, none⟩ = some (.int .i64 1) := HE.out.cellAt 8 (by decide)
  have hHE9 : w1.cell? ⟨g, 9, none⟩ = some (.int .i64 1) := HE.out.cellAt 9 (by decide)
  have hHE10 : w1.cell? ⟨g, 10, none⟩ = some (.int .i64 3) := HE.out.cellAt 10 (by decide)
  have hHE11 : w1.cell? ⟨g, 11, none⟩ = some (.int .i64 a2) := HE.out.cellAt 11 (by decide)
  have hHE12 : w1.cell? ⟨g, 12, none⟩ = some (.int .i64 2) := HE.out.cellAt 12 (by decide)
  have hHE13 : w1.cell? ⟨g, 13, none⟩ = some (.int .i64 0) := HE.out.cellAt 13 (by decide)
  have hHE14 : w1.cell? ⟨g, 14, none⟩ = some (.int .i64 1) := HE.out.cellAt 14 (by decide)
  have hHE15 : w1.cell? ⟨g, 15, none⟩ = some (.int .i64 a3) := HE.out.cellAt 15 (by decide)
  have fzHE := fun j => HE.out.frozenAt j
  have ltg : g < w1.heap.size := (HE.out.lt _ rfl).2
  have ltgA : ∀ k, g < w1.heap.size + k := fun k => by omega
  go_wp2_with fail
  refine wp_loop_rounds 6 ?_
  rw [rounds_succ]
  go_wp2_with fail
  clear hHE0 hHE1 hHE2 hHE3 hHE4 hHE5 hHE6 hHE7 hHE8 hHE9 hHE10 hHE11 hHE12 hHE13 hHE14 hHE15 fzHE ltg ltgA
  refine (opn_13 a2 db dd false false true false _ (blk_below BN.out (by repeat (first | with_reducible exact Below.refl _ _ | apply below_alloc | apply pw_below_drewN | apply below_drew1))) (blk_below BL.out (by repeat (first | with_reducible exact Below.refl _ _ | apply below_alloc | apply pw_below_drewN | apply below_drew1)))).mono ?_
  rintro e w2 ⟨rfl, hb⟩
  have BV : Aside0 (Blk w2 w1.heap.size #[.int .i64 1, .int .i64 1, .int .i64 3, .int .i64 a2] 74) := ⟨blk_below (by (repeat (first | with_reducible exact heap_alloc_new _ _ | with_reducible exact heap_alloc2_new _ _ _ | with_reducible exact blk_at3 _ _ _ _ | with_reducible exact blk_at4 _ _ _ _ _ | refine blk_alloc ?_ _))) hb⟩
  replace hb : Below w1.heap.size w1 w2 := below_step (by repeat (first | with_reducible exact Below.refl _ _ | apply below_alloc | apply pw_below_drewN | apply below_drew1)) hb
  have HW : Aside0 (g < w1.heap.size) := ⟨(HE.out.lt _ rfl).2⟩
  replace HE := Aside0.mk (pw_own_below HE.out hb)
  replace HB : Aside0 (Below b0 w w2) := ⟨HB.out.trans (below_less hb HBB.out)⟩
  replace BN : Aside0 (Blk w2 db #[.slice (some ⟨dd, 0, none⟩) 4 4] 41) := ⟨(HB.out.block _ GN.out).trans BN0.out⟩
  replace BL : Aside0 (Blk w2 dd #[.bool false, .bool false, .bool true, .bool false] 4) := ⟨(HB.out.block _ GL.out).trans BL0.out⟩
  replace HBB : Aside0 (b0 ≤ w2.heap.size) := ⟨by have := HBB0.out; have := HB.out.size; omega⟩
  clear hb
  have hHE0 : w2.cell? ⟨g, 0, none⟩ = some (.int .i64 0) := HE.out.cellAt 0 (by decide)
  have hHE1 : w2.cell? ⟨g, 1, none⟩ = some (.int .i64 0) := HE.out.cellAt 1 (by decide)
  have hHE2 : w2.cell? ⟨g, 2, none⟩ = some (.int .i64 1) := HE.out.cellAt 2 (by decide)
  have hHE3 : w2.cell? ⟨g, 3, none⟩ = some (.int .i64 a0) := HE.out.cellAt 3 (by decide)
  have hHE4 : w2.cell? ⟨g, 4, none⟩ = some (.int .i64 1) := HE.out.cellAt 4 (by decide)
  have hHE5 : w2.cell? ⟨g, 5, none⟩ = some (.int .i64 0) := HE.out.cellAt 5 (by decide)
  have hHE6 : w2.cell? ⟨g, 6, none⟩ = some (.int .i64 2) := HE.out.cellAt 6 (by decide)
  have hHE7 : w2.cell? ⟨g, 7, none⟩ = some (.int .i64 a1) := HE.out.cellAt 7 (by decide)
  have hHE8 : w2.cell? ⟨g, 8, none⟩ = some (.int .i64 1) := HE.out.cellAt 8 (by decide)
  have hHE9 : w2.cell? ⟨g, 9, none⟩ = some (.int .i64 1) := HE.out.cellAt 9 (by decide)
  have hHE10 : w2.cell? ⟨g, 10, none⟩ = some (.int .i64 3) := HE.out.cellAt 10 (by decide)
  have hHE11 : w2.cell? ⟨g, 11, none⟩ = some (.int .i64 a2) := HE.out.cellAt 11 (by decide)
  have hHE12 : w2.cell? ⟨g, 12, none⟩ = some (.int .i64 2) := HE.out.cellAt 12 (by decide)
  have hHE13 : w2.cell? ⟨g, 13, none⟩ = some (.int .i64 0) := HE.out.cellAt 13 (by decide)
  have hHE14 : w2.cell? ⟨g, 14, none⟩ = some (.int .i64 1) := HE.out.cellAt 14 (by decide)
  have hHE15 : w2.cell? ⟨g, 15, none⟩ = some (.int .i64 a3) := HE.out.cellAt 15 (by decide)
  have fzHE := fun j => HE.out.frozenAt j
  have ltg : g < w2.heap.size := (HE.out.lt _ rfl).2
  have ltgA : ∀ k, g < w2.heap.size + k := fun k => by omega
  have hBV := fun i => blk_cell BV.out i
  have hgW := HW.out
  have hgV : w1.heap.size < w2.heap.size := blk_lt BV.out
  go_upto_region 10 with (fail)
  clear hHE0 hHE1 hHE2 hHE3 hHE4 hHE5 hHE6 hHE7 hHE8 hHE9 hHE10 hHE11 hHE12 hHE13 hHE14 hHE15 fzHE ltg ltgA hBV hgW hgV
  have hE2 := (World.ownsRow.stored ((World.ownsRow.stored ((World.ownsRow.stored ((World.ownsRow.stored (HE.out) 4 (.int .i64 1)).1) 5 (.int .i64 1)).1) 6 (.int .i64 3)).1) 7 (.int .i64 a2)).1
  simp only [List.set_cons_zero, List.set_cons_succ] at hE2
  replace hE2 : (((((w2.setCell ⟨g, 4, none⟩ (.int .i64 1)).setCell ⟨g, 5, none⟩ (.int .i64 1)).setCell ⟨g, 6, none⟩ (.int .i64 3)).setCell ⟨g, 7, none⟩ (.int .i64 a2))).ownsRow b0 74 4 (.slice (some ⟨g, 0, none⟩) 4 c) 4 [.int .i64 0, .int .i64 0, .int .i64 1, .int .i64 a0, .int .i64 1, .int .i64 1, .int .i64 3, .int .i64 a2, .int .i64 1, .int .i64 1, .int .i64 3, .int .i64 a2, .int .i64 2, .int .i64 0, .int .i64 1, .int .i64 a3] := hE2
  have hb2 : Below b0 w2 (((((w2.setCell ⟨g, 4, none⟩ (.int .i64 1)).setCell ⟨g, 5, none⟩ (.int .i64 1)).setCell ⟨g, 6, none⟩ (.int .i64 3)).setCell ⟨g, 7, none⟩ (.int .i64 a2))) := bset (bset (bset (bset (Below.refl b0 w2) HGB.out 4 (.int .i64 1)) HGB.out 5 (.int .i64 1)) HGB.out 6 (.int .i64 3)) HGB.out 7 (.int .i64 a2)
  generalize (((((w2.setCell ⟨g, 4, none⟩ (.int .i64 1)).setCell ⟨g, 5, none⟩ (.int .i64 1)).setCell ⟨g, 6, none⟩ (.int .i64 3)).setCell ⟨g, 7, none⟩ (.int .i64 a2))) = ws2 at hE2 hb2 ⊢
  replace HE := Aside0.mk hE2
  replace HB : Aside0 (Below b0 w ws2) := ⟨HB.out.trans (hb2)⟩
  replace BN : Aside0 (Blk ws2 db #[.slice (some ⟨dd, 0, none⟩) 4 4] 41) := ⟨(HB.out.block _ GN.out).trans BN0.out⟩
  replace BL : Aside0 (Blk ws2 dd #[.bool false, .bool false, .bool true, .bool false] 4) := ⟨(HB.out.block _ GL.out).trans BL0.out⟩
  replace HBB : Aside0 (b0 ≤ ws2.heap.size) := ⟨by have := HBB0.out; have := HB.out.size; omega⟩
  clear hE2 hb2 BV HW
  have hHE0 : ws2.cell? ⟨g, 0, none⟩ = some (.int .i64 0) := HE.out.cellAt 0 (by decide)
  have hHE1 : ws2.cell? ⟨g, 1, none⟩ = some (.int .i64 0) := HE.out.cellAt 1 (by decide)
  have hHE2 : ws2.cell? ⟨g, 2, none⟩ = some (.int .i64 1) := HE.out.cellAt 2 (by decide)
  have hHE3 : ws2.cell? ⟨g, 3, none⟩ = some (.int .i64 a0) := HE.out.cellAt 3 (by decide)
  have hHE4 : ws2.cell? ⟨g, 4, none⟩ = some (.int .i64 1) := HE.out.cellAt 4 (by decide)
  have hHE5 : ws2.cell? ⟨g, 5, none⟩ = some (.int .i64 1) := HE.out.cellAt 5 (by decide)
  have hHE6 : ws2.cell? ⟨g, 6, none⟩ = some (.int .i64 3) := HE.out.cellAt 6 (by decide)
  have hHE7 : ws2.cell? ⟨g, 7, none⟩ = some (.int .i64 a2) := HE.out.cellAt 7 (by decide)
  have hHE8 : ws2.cell? ⟨g, 8, none⟩ = some (.int .i64 1) := HE.out.cellAt 8 (by decide)
  have hHE9 : ws2.cell? ⟨g, 9, none⟩ = some (.int .i64 1) := HE.out.cellAt 9 (by decide)
  have hHE10 : ws2.cell? ⟨g, 10, none⟩ = some (.int .i64 3) := HE.out.cellAt 10 (by decide)
  have hHE11 : ws2.cell? ⟨g, 11, none⟩ = some (.int .i64 a2) := HE.out.cellAt 11 (by decide)
  have hHE12 : ws2.cell? ⟨g, 12, none⟩ = some (.int .i64 2) := HE.out.cellAt 12 (by decide)
  have hHE13 : ws2.cell? ⟨g, 13, none⟩ = some (.int .i64 0) := HE.out.cellAt 13 (by decide)
  have hHE14 : ws2.cell? ⟨g, 14, none⟩ = some (.int .i64 1) := HE.out.cellAt 14 (by decide)
  have hHE15 : ws2.cell? ⟨g, 15, none⟩ = some (.int .i64 a3) := HE.out.cellAt 15 (by decide)
  have fzHE := fun j => HE.out.frozenAt j
  have ltg : g < ws2.heap.size := (HE.out.lt _ rfl).2
  have ltgA : ∀ k, g < ws2.heap.size + k := fun k => by omega
  go_wp2_with fail
  rw [rounds_succ]
  go_wp2_with fail
  clear hHE0 hHE1 hHE2 hHE3 hHE4 hHE5 hHE6 hHE7 hHE8 hHE9 hHE10 hHE11 hHE12 hHE13 hHE14 hHE15 fzHE ltg ltgA
  refine (opn_21 a3 db dd false false true false _ (blk_below BN.out (by repeat (first | with_reducible exact Below.refl _ _ | apply below_alloc | apply pw_below_drewN | apply below_drew1))) (blk_below BL.out (by repeat (first | with_reducible exact Below.refl _ _ | apply below_alloc | apply pw_below_drewN | apply below_drew1)))).mono ?_
  rintro e w3 ⟨rfl, hb⟩
  have BV : Aside0 (Blk w3 ws2.heap.size #[.int .i64 2, .int .i64 0, .int .i64 1, .int .i64 a3] 74) := ⟨blk_below (by (repeat (first | with_reducible exact heap_alloc_new _ _ | with_reducible exact heap_alloc2_new _ _ _ | with_reducible exact blk_at3 _ _ _ _ | with_reducible exact blk_at4 _ _ _ _ _ | refine blk_alloc ?_ _))) hb⟩
  replace hb : Below ws2.heap.size ws2 w3 := below_step (by repeat (first | with_reducible exact Below.refl _ _ | apply below_alloc | apply pw_below_drewN | apply below_drew1)) hb
  have HW : Aside0 (g < ws2.heap.size) := ⟨(HE.out.lt _ rfl).2⟩
  replace HE := Aside0.mk (pw_own_below HE.out hb)
  replace HB : Aside0 (Below b0 w w3) := ⟨HB.out.trans (below_less hb HBB.out)⟩
  replace BN : Aside0 (Blk w3 db #[.slice (some ⟨dd, 0, none⟩) 4 4] 41) := ⟨(HB.out.block _ GN.out).trans BN0.out⟩
  replace BL : Aside0 (Blk w3 dd #[.bool false, .bool false, .bool true, .bool false] 4) := ⟨(HB.out.block _ GL.out).trans BL0.out⟩
  replace HBB : Aside0 (b0 ≤ w3.heap.size) := ⟨by have := HBB0.out; have := HB.out.size; omega⟩
  clear hb
  clear BV HW
  have hHE0 : w3.cell? ⟨g, 0, none⟩ = some (.int .i64 0) := HE.out.cellAt 0 (by decide)
  have hHE1 : w3.cell? ⟨g, 1, none⟩ = some (.int .i64 0) := HE.out.cellAt 1 (by decide)
  have hHE2 : w3.cell? ⟨g, 2, none⟩ = some (.int .i64 1) := HE.out.cellAt 2 (by decide)
  have hHE3 : w3.cell? ⟨g, 3, none⟩ = some (.int .i64 a0) := HE.out.cellAt 3 (by decide)
  have hHE4 : w3.cell? ⟨g, 4, none⟩ = some (.int .i64 1) := HE.out.cellAt 4 (by decide)
  have hHE5 : w3.cell? ⟨g, 5, none⟩ = some (.int .i64 1) := HE.out.cellAt 5 (by decide)
  have hHE6 : w3.cell? ⟨g, 6, none⟩ = some (.int .i64 3) := HE.out.cellAt 6 (by decide)
  have hHE7 : w3.cell? ⟨g, 7, none⟩ = some (.int .i64 a2) := HE.out.cellAt 7 (by decide)
  have hHE8 : w3.cell? ⟨g, 8, none⟩ = some (.int .i64 1) := HE.out.cellAt 8 (by decide)
  have hHE9 : w3.cell? ⟨g, 9, none⟩ = some (.int .i64 1) := HE.out.cellAt 9 (by decide)
  have hHE10 : w3.cell? ⟨g, 10, none⟩ = some (.int .i64 3) := HE.out.cellAt 10 (by decide)
  have hHE11 : w3.cell? ⟨g, 11, none⟩ = some (.int .i64 a2) := HE.out.cellAt 11 (by decide)
  have hHE12 : w3.cell? ⟨g, 12, none⟩ = some (.int .i64 2) := HE.out.cellAt 12 (by decide)
  have hHE13 : w3.cell? ⟨g, 13, none⟩ = some (.int .i64 0) := HE.out.cellAt 13 (by decide)
  have hHE14 : w3.cell? ⟨g, 14, none⟩ = some (.int .i64 1) := HE.out.cellAt 14 (by decide)
  have hHE15 : w3.cell? ⟨g, 15, none⟩ = some (.int .i64 a3) := HE.out.cellAt 15 (by decide)
  have fzHE := fun j => HE.out.frozenAt j
  have ltg : g < w3.heap.size := (HE.out.lt _ rfl).2
  have ltgA : ∀ k, g < w3.heap.size + k := fun k => by omega
  go_wp2_with fail
  have hcl : ∀ ty, (Builtin.clear_ #[58] ty #[.slice (some ⟨g, 8, none⟩) 2 (c - 2)]).run Try.prog w3 = .ok (.tuple #[]) ((((((((w3.setCell ⟨g, 8, none⟩ (.int .i64 0)).setCell ⟨g, 9, none⟩ (.int .i64 0)).setCell ⟨g, 10, none⟩ (.int .i64 0)).setCell ⟨g, 11, none⟩ (.int .i64 0)).setCell ⟨g, 12, none⟩ (.int .i64 0)).setCell ⟨g, 13, none⟩ (.int .i64 0)).setCell ⟨g, 14, none⟩ (.int .i64 0)).setCell ⟨g, 15, none⟩ (.int .i64 0)) := fun ty => clear_edges 2 _ ty g 8 _ (by decide) (by kernel_rfl) (fun j hj => by rw [HE.out.cellAt (8 + j) (by omega)]; simp; omega) (fun j _ => HE.out.frozenAt _)
  rw [rounds_succ]
  go_wp2_with fail
  go_ret
  have hE2 := own_take ((World.ownsRow.stored ((World.ownsRow.stored ((World.ownsRow.stored ((World.ownsRow.stored ((World.ownsRow.stored ((World.ownsRow.stored ((World.ownsRow.stored ((World.ownsRow.stored (HE.out) 8 (.int .i64 0)).1) 9 (.int .i64 0)).1) 10 (.int .i64 0)).1) 11 (.int .i64 0)).1) 12 (.int .i64 0)).1) 13 (.int .i64 0)).1) 14 (.int .i64 0)).1) 15 (.int .i64 0)).1) (m := 2) (by decide)
  simp only [List.set_cons_zero, List.set_cons_succ] at hE2
  exact ⟨rfl, hE2, bset (bset (bset (bset (bset (bset (bset (bset (HB.out) HGB.out 8 (.int .i64 0)) HGB.out 9 (.int .i64 0)) HGB.out 10 (.int .i64 0)) HGB.out 11 (.int .i64 0)) HGB.out 12 (.int .i64 0)) HGB.out 13 (.int .i64 0)) HGB.out 14 (.int .i64 0)) HGB.out 15 (.int .i64 0)⟩
set_option maxHeartbeats 8000000 in
set_option maxRecDepth 100000 in
theorem delete_opn_all (g c b0 : Nat) (a0 a1 a2 a3 : Int) (db dd : Nat) (w : World) (hE : w.ownsRow b0 74 4 (.slice (some ⟨g, 0, none⟩) 4 c) 4 [.int .i64 0, .int .i64 0, .int .i64 1, .int .i64 a0, .int .i64 1, .int .i64 0, .int .i64 2, .int .i64 a1, .int .i64 1, .int .i64 1, .int .i64 3, .int .i64 a2, .int .i64 2, .int .i64 0, .int .i64 1, .int .i64 a3]) (hN : Blk w db #[.slice (some ⟨dd, 0, none⟩) 4 4] 41) (hL : Blk w dd #[.bool false, .bool true, .bool false, .bool false] 4) (hb0 : b0 ≤ w.heap.size) (gN : db < b0) (gL : dd < b0) :
    Calls Try.prog 44 #[.slice (some ⟨g, 0, none⟩) 4 c, .func (.func 47) #[] #[.pointer (some ⟨db, 0, none⟩)]] w fun e w' => e = .returned (.slice (some ⟨g, 0, none⟩) 0 c) ∧ w'.ownsRow b0 74 4 (.slice (some ⟨g, 0, none⟩) 0 c) 0 [] ∧ Below b0 w w' := by
  have hu74 := Try.underlying74
  have hu58 := Try.underlying58
  have hmx : 4 ≤ c := own_le hE
  have HB : Aside0 (Below b0 w w) := ⟨Below.refl _ _⟩
  have BN0 := Aside0.mk hN
  have BL0 := Aside0.mk hL
  have BN := Aside0.mk hN
  have BL := Aside0.mk hL
  have HE := Aside0.mk hE
  have HBB := Aside0.mk hb0
  have HBB0 := Aside0.mk hb0
  have GN := Aside0.mk gN
  have GL := Aside0.mk gL
  have HGB : Aside0 (b0 ≤ g) := ⟨own_base hE g rfl⟩
  clear hN hL hE hb0 gN gL
  go_enter Try.func44, Try.ntmps44
  go_wp2_with fail
  refine (index_opn_all g c b0 a0 a1 a2 a3 db dd _ HE.out BN.out BL.out HBB.out).mono ?_
  rintro e w1 ⟨rfl, hb⟩
  replace HE := Aside0.mk (pw_own_below HE.out hb)
  replace HB : Aside0 (Below b0 w w1) := ⟨HB.out.trans (below_less hb HBB.out)⟩
  replace BN : Aside0 (Blk w1 db #[.slice (some ⟨dd, 0, none⟩) 4 4] 41) := ⟨(HB.out.block _ GN.out).trans BN0.out⟩
  replace BL : Aside0 (Blk w1 dd #[.bool false, .bool true, .bool false, .bool false] 4) := ⟨(HB.out.block _ GL.out).trans BL0.out⟩
  replace HBB : Aside0 (b0 ≤ w1.heap.size) := ⟨by have := HBB0.out; have := HB.out.size; omega⟩
  clear hb
  have hHE0 : w1.cell? ⟨g, 0, none⟩ = some (.int .i64 0) := HE.out.cellAt 0 (by decide)
  have hHE1 : w1.cell? ⟨g, 1, none⟩ = some (.int .i64 0) := HE.out.cellAt 1 (by decide)
  have hHE2 : w1.cell? ⟨g, 2, none⟩ = some (.int .i64 1) := HE.out.cellAt 2 (by decide)
  have hHE3 : w1.cell? ⟨g, 3, none⟩ = some (.int .i64 a0) := HE.out.cellAt 3 (by decide)
  have hHE4 : w1.cell? ⟨g, 4, none⟩ = some (.int .i64 1) := HE.out.cellAt 4 (by decide)
  have hHE5 : w1.cell? ⟨g, 5, none⟩ = some (.int .i64 0) := HE.out.cellAt 5 (by decide)
  have hHE6 : w1.cell? ⟨g, 6, none⟩ = some (.int .i64 2) := HE.out.cellAt 6 (by decide)
  have hHE7 : w1.cell? ⟨g, 7, none⟩ = some (.int .i64 a1) := HE.out.cellAt 7 (by decide)
  have hHE8 : w1.cell? ⟨g, 8, none⟩ = some (.int .i64 1) := HE.out.cellAt 8 (by decide)
  have hHE9 : w1.cell? ⟨g, 9, none⟩ = some (.int .i64 1) := HE.out.cellAt 9 (by decide)
  have hHE10 : w1.cell? ⟨g, 10, none⟩ = some (.int .i64 3) := HE.out.cellAt 10 (by decide)
  have hHE11 : w1.cell? ⟨g, 11, none⟩ = some (.int .i64 a2) := HE.out.cellAt 11 (by decide)
  have hHE12 : w1.cell? ⟨g, 12, none⟩ = some (.int .i64 2) := HE.out.cellAt 12 (by decide)
  have hHE13 : w1.cell? ⟨g, 13, none⟩ = some (.int .i64 0) := HE.out.cellAt 13 (by decide)
  have hHE14 : w1.cell? ⟨g, 14, none⟩ = some (.int .i64 1) := HE.out.cellAt 14 (by decide)
  have hHE15 : w1.cell? ⟨g, 15, none⟩ = some (.int .i64 a3) := HE.out.cellAt 15 (by decide)
  have fzHE := fun j => HE.out.frozenAt j
  have ltg : g < w1.heap.size := (HE.out.lt _ rfl).2
  have ltgA : ∀ k, g < w1.heap.size + k := fun k => by omega
  go_wp2_with fail
  refine wp_loop_rounds 6 ?_
  rw [rounds_succ]
  go_wp2_with fail
  clear hHE0 hHE1 hHE2 hHE3 hHE4 hHE5 hHE6 hHE7 hHE8 hHE9 hHE10 hHE11 hHE12 hHE13 hHE14 hHE15 fzHE ltg ltgA
  refine (opn_12 a1 db dd false true false false _ (blk_below BN.out (by repeat (first | with_reducible exact Below.refl _ _ | apply below_alloc | apply pw_below_drewN | apply below_drew1))) (blk_below BL.out (by repeat (first | with_reducible exact Below.refl _ _ | apply below_alloc | apply pw_below_drewN | apply below_drew1)))).mono ?_
  rintro e w2 ⟨rfl, hb⟩
  have BV : Aside0 (Blk w2 w1.heap.size #[.int .i64 1, .int .i64 0, .int .i64 2, .int .i64 a1] 74) := ⟨blk_below (by (repeat (first | with_reducible exact heap_alloc_new _ _ | with_reducible exact heap_alloc2_new _ _ _ | with_reducible exact blk_at3 _ _ _ _ | with_reducible exact blk_at4 _ _ _ _ _ | refine blk_alloc ?_ _))) hb⟩
  replace hb : Below w1.heap.size w1 w2 := below_step (by repeat (first | with_reducible exact Below.refl _ _ | apply below_alloc | apply pw_below_drewN | apply below_drew1)) hb
  have HW : Aside0 (g < w1.heap.size) := ⟨(HE.out.lt _ rfl).2⟩
  replace HE := Aside0.mk (pw_own_below HE.out hb)
  replace HB : Aside0 (Below b0 w w2) := ⟨HB.out.trans (below_less hb HBB.out)⟩
  replace BN : Aside0 (Blk w2 db #[.slice (some ⟨dd, 0, none⟩) 4 4] 41) := ⟨(HB.out.block _ GN.out).trans BN0.out⟩
  replace BL : Aside0 (Blk w2 dd #[.bool false, .bool true, .bool false, .bool false] 4) := ⟨(HB.out.block _ GL.out).trans BL0.out⟩
  replace HBB : Aside0 (b0 ≤ w2.heap.size) := ⟨by have := HBB0.out; have := HB.out.size; omega⟩
  clear hb
  clear BV HW
  have hHE0 : w2.cell? ⟨g, 0, none⟩ = some (.int .i64 0) := HE.out.cellAt 0 (by decide)
  have hHE1 : w2.cell? ⟨g, 1, none⟩ = some (.int .i64 0) := HE.out.cellAt 1 (by decide)
  have hHE2 : w2.cell? ⟨g, 2, none⟩ = some (.int .i64 1) := HE.out.cellAt 2 (by decide)
  have hHE3 : w2.cell? ⟨g, 3, none⟩ = some (.int .i64 a0) := HE.out.cellAt 3 (by decide)
  have hHE4 : w2.cell? ⟨g, 4, none⟩ = some (.int .i64 1) := HE.out.cellAt 4 (by decide)
  have hHE5 : w2.cell? ⟨g, 5, none⟩ = some (.int .i64 0) := HE.out.cellAt 5 (by decide)
  have hHE6 : w2.cell? ⟨g, 6, none⟩ = some (.int .i64 2) := HE.out.cellAt 6 (by decide)
  have hHE7 : w2.cell? ⟨g, 7, none⟩ = some (.int .i64 a1) := HE.out.cellAt 7 (by decide)
  have hHE8 : w2.cell? ⟨g, 8, none⟩ = some (.int .i64 1) := HE.out.cellAt 8 (by decide)
  have hHE9 : w2.cell? ⟨g, 9, none⟩ = some (.int .i64 1) := HE.out.cellAt 9 (by decide)
  have hHE10 : w2.cell? ⟨g, 10, none⟩ = some (.int .i64 3) := HE.out.cellAt 10 (by decide)
  have hHE11 : w2.cell? ⟨g, 11, none⟩ = some (.int .i64 a2) := HE.out.cellAt 11 (by decide)
  have hHE12 : w2.cell? ⟨g, 12, none⟩ = some (.int .i64 2) := HE.out.cellAt 12 (by decide)
  have hHE13 : w2.cell? ⟨g, 13, none⟩ = some (.int .i64 0) := HE.out.cellAt 13 (by decide)
  have hHE14 : w2.cell? ⟨g, 14, none⟩ = some (.int .i64 1) := HE.out.cellAt 14 (by decide)
  have hHE15 : w2.cell? ⟨g, 15, none⟩ = some (.int .i64 a3) := HE.out.cellAt 15 (by decide)
  have fzHE := fun j => HE.out.frozenAt j
  have ltg : g < w2.heap.size := (HE.out.lt _ rfl).2
  have ltgA : ∀ k, g < w2.heap.size + k := fun k => by omega
  go_wp2_with fail
  rw [rounds_succ]
  go_wp2_with fail
  clear hHE0 hHE1 hHE2 hHE3 hHE4 hHE5 hHE6 hHE7 hHE8 hHE9 hHE10 hHE11 hHE12 hHE13 hHE14 hHE15 fzHE ltg ltgA
  refine (opn_13 a2 db dd false true false false _ (blk_below BN.out (by repeat (first | with_reducible exact Below.refl _ _ | apply below_alloc | apply pw_below_drewN | apply below_drew1))) (blk_below BL.out (by repeat (first | with_reducible exact Below.refl _ _ | apply below_alloc | apply pw_below_drewN | apply below_drew1)))).mono ?_
  rintro e w3 ⟨rfl, hb⟩
  have BV : Aside0 (Blk w3 w2.heap.size #[.int .i64 1, .int .i64 1, .int .i64 3, .int .i64 a2] 74) := ⟨blk_below (by (repeat (first | with_reducible exact heap_alloc_new _ _ | with_reducible exact heap_alloc2_new _ _ _ | with_reducible exact blk_at3 _ _ _ _ | with_reducible exact blk_at4 _ _ _ _ _ | refine blk_alloc ?_ _))) hb⟩
  replace hb : Below w2.heap.size w2 w3 := below_step (by repeat (first | with_reducible exact Below.refl _ _ | apply below_alloc | apply pw_below_drewN | apply below_drew1)) hb
  have HW : Aside0 (g < w2.heap.size) := ⟨(HE.out.lt _ rfl).2⟩
  replace HE := Aside0.mk (pw_own_below HE.out hb)
  replace HB : Aside0 (Below b0 w w3) := ⟨HB.out.trans (below_less hb HBB.out)⟩
  replace BN : Aside0 (Blk w3 db #[.slice (some ⟨dd, 0, none⟩) 4 4] 41) := ⟨(HB.out.block _ GN.out).trans BN0.out⟩
  replace BL : Aside0 (Blk w3 dd #[.bool false, .bool true, .bool false, .bool false] 4) := ⟨(HB.out.block _ GL.out).trans BL0.out⟩
  replace HBB : Aside0 (b0 ≤ w3.heap.size) := ⟨by have := HBB0.out; have := HB.out.size; omega⟩
  clear hb
  clear BV HW
  have hHE0 : w3.cell? ⟨g, 0, none⟩ = some (.int .i64 0) := HE.out.cellAt 0 (by decide)
  have hHE1 : w3.cell? ⟨g, 1, none⟩ = some (.int .i64 0) := HE.out.cellAt 1 (by decide)
  have hHE2 : w3.cell? ⟨g, 2, none⟩ = some (.int .i64 1) := HE.out.cellAt 2 (by decide)
  have hHE3 : w3.cell? ⟨g, 3, none⟩ = some (.int .i64 a0) := HE.out.cellAt 3 (by decide)
  have hHE4 : w3.cell? ⟨g, 4, none⟩ = some (.int .i64 1) := HE.out.cellAt 4 (by decide)
  have hHE5 : w3.cell? ⟨g, 5, none⟩ = some (.int .i64 0) := HE.out.cellAt 5 (by decide)
  have hHE6 : w3.cell? ⟨g, 6, none⟩ = some (.int .i64 2) := HE.out.cellAt 6 (by decide)
  have hHE7 : w3.cell? ⟨g, 7, none⟩ = some (.int .i64 a1) := HE.out.cellAt 7 (by decide)
  have hHE8 : w3.cell? ⟨g, 8, none⟩ = some (.int .i64 1) := HE.out.cellAt 8 (by decide)
  have hHE9 : w3.cell? ⟨g, 9, none⟩ = some (.int .i64 1) := HE.out.cellAt 9 (by decide)
  have hHE10 : w3.cell? ⟨g, 10, none⟩ = some (.int .i64 3) := HE.out.cellAt 10 (by decide)
  have hHE11 : w3.cell? ⟨g, 11, none⟩ = some (.int .i64 a2) := HE.out.cellAt 11 (by decide)
  have hHE12 : w3.cell? ⟨g, 12, none⟩ = some (.int .i64 2) := HE.out.cellAt 12 (by decide)
  have hHE13 : w3.cell? ⟨g, 13, none⟩ = some (.int .i64 0) := HE.out.cellAt 13 (by decide)
  have hHE14 : w3.cell? ⟨g, 14, none⟩ = some (.int .i64 1) := HE.out.cellAt 14 (by decide)
  have hHE15 : w3.cell? ⟨g, 15, none⟩ = some (.int .i64 a3) := HE.out.cellAt 15 (by decide)
  have fzHE := fun j => HE.out.frozenAt j
  have ltg : g < w3.heap.size := (HE.out.lt _ rfl).2
  have ltgA : ∀ k, g < w3.heap.size + k := fun k => by omega
  go_wp2_with fail
  rw [rounds_succ]
  go_wp2_with fail
  clear hHE0 hHE1 hHE2 hHE3 hHE4 hHE5 hHE6 hHE7 hHE8 hHE9 hHE10 hHE11 hHE12 hHE13 hHE14 hHE15 fzHE ltg ltgA
  refine (opn_21 a3 db dd false true false false _ (blk_below BN.out (by repeat (first | with_reducible exact Below.refl _ _ | apply below_alloc | apply pw_below_drewN | apply below_drew1))) (blk_below BL.out (by repeat (first | with_reducible exact Below.refl _ _ | apply below_alloc | apply pw_below_drewN | apply below_drew1)))).mono ?_
  rintro e w4 ⟨rfl, hb⟩
  have BV : Aside0 (Blk w4 w3.heap.size #[.int .i64 2, .int .i64 0, .int .i64 1, .int .i64 a3] 74) := ⟨blk_below (by (repeat (first | with_reducible exact heap_alloc_new _ _ | with_reducible exact heap_alloc2_new _ _ _ | with_reducible exact blk_at3 _ _ _ _ | with_reducible exact blk_at4 _ _ _ _ _ | refine blk_alloc ?_ _))) hb⟩
  replace hb : Below w3.heap.size w3 w4 := below_step (by repeat (first | with_reducible exact Below.refl _ _ | apply below_alloc | apply pw_below_drewN | apply below_drew1)) hb
  have HW : Aside0 (g < w3.heap.size) := ⟨(HE.out.lt _ rfl).2⟩
  replace HE := Aside0.mk (pw_own_below HE.out hb)
  replace HB : Aside0 (Below b0 w w4) := ⟨HB.out.trans (below_less hb HBB.out)⟩
  replace BN : Aside0 (Blk w4 db #[.slice (some ⟨dd, 0, none⟩) 4 4] 41) := ⟨(HB.out.block _ GN.out).trans BN0.out⟩
  replace BL : Aside0 (Blk w4 dd #[.bool false, .bool true, .bool false, .bool false] 4) := ⟨(HB.out.block _ GL.out).trans BL0.out⟩
  replace HBB : Aside0 (b0 ≤ w4.heap.size) := ⟨by have := HBB0.out; have := HB.out.size; omega⟩
  clear hb
  clear BV HW
  have hHE0 : w4.cell? ⟨g, 0, none⟩ = some (.int .i64 0) := HE.out.cellAt 0 (by decide)
  have hHE1 : w4.cell? ⟨g, 1, none⟩ = some (.int .i64 0) := HE.out.cellAt 1 (by decide)
  have hHE2 : w4.cell? ⟨g, 2, none⟩ = some (.int .i64 1) := HE.out.cellAt 2 (by decide)
  have hHE3 : w4.cell? ⟨g, 3, none⟩ = some (.int .i64 a0) := HE.out.cellAt 3 (by decide)
  have hHE4 : w4.cell? ⟨g, 4, none⟩ = some (.int .i64 1) := HE.out.cellAt 4 (by decide)
  have hHE5 : w4.cell? ⟨g, 5, none⟩ = some (.int .i64 0) := HE.out.cellAt 5 (by decide)
  have hHE6 : w4.cell? ⟨g, 6, none⟩ = some (.int .i64 2) := HE.out.cellAt 6 (by decide)
  have hHE7 : w4.cell? ⟨g, 7, none⟩ = some (.int .i64 a1) := HE.out.cellAt 7 (by decide)
  have hHE8 : w4.cell? ⟨g, 8, none⟩ = some (.int .i64 1) := HE.out.cellAt 8 (by decide)
  have hHE9 : w4.cell? ⟨g, 9, none⟩ = some (.int .i64 1) := HE.out.cellAt 9 (by decide)
  have hHE10 : w4.cell? ⟨g, 10, none⟩ = some (.int .i64 3) := HE.out.cellAt 10 (by decide)
  have hHE11 : w4.cell? ⟨g, 11, none⟩ = some (.int .i64 a2) := HE.out.cellAt 11 (by decide)
  have hHE12 : w4.cell? ⟨g, 12, none⟩ = some (.int .i64 2) := HE.out.cellAt 12 (by decide)
  have hHE13 : w4.cell? ⟨g, 13, none⟩ = some (.int .i64 0) := HE.out.cellAt 13 (by decide)
  have hHE14 : w4.cell? ⟨g, 14, none⟩ = some (.int .i64 1) := HE.out.cellAt 14 (by decide)
  have hHE15 : w4.cell? ⟨g, 15, none⟩ = some (.int .i64 a3) := HE.out.cellAt 15 (by decide)
  have fzHE := fun j => HE.out.frozenAt j
  have ltg : g < w4.heap.size := (HE.out.lt _ rfl).2
  have ltgA : ∀ k, g < w4.heap.size + k := fun k => by omega
  go_wp2_with fail
  have hcl : ∀ ty, (Builtin.clear_ #[58] ty #[.slice (some ⟨g, 0, none⟩) 4 c]).run Try.prog w4 = .ok (.tuple #[]) ((((((((((((((((w4.setCell ⟨g, 0, none⟩ (.int .i64 0)).setCell ⟨g, 1, none⟩ (.int .i64 0)).setCell ⟨g, 2, none⟩ (.int .i64 0)).setCell ⟨g, 3, none⟩ (.int .i64 0)).setCell ⟨g, 4, none⟩ (.int .i64 0)).setCell ⟨g, 5, none⟩ (.int .i64 0)).setCell ⟨g, 6, none⟩ (.int .i64 0)).setCell ⟨g, 7, none⟩ (.int .i64 0)).setCell ⟨g, 8, none⟩ (.int .i64 0)).setCell ⟨g, 9, none⟩ (.int .i64 0)).setCell ⟨g, 10, none⟩ (.int .i64 0)).setCell ⟨g, 11, none⟩ (.int .i64 0)).setCell ⟨g, 12, none⟩ (.int .i64 0)).setCell ⟨g, 13, none⟩ (.int .i64 0)).setCell ⟨g, 14, none⟩ (.int .i64 0)).setCell ⟨g, 15, none⟩ (.int .i64 0)) := fun ty => clear_edges 4 _ ty g 0 _ (by decide) (by kernel_rfl) (fun j hj => by rw [HE.out.cellAt (0 + j) (by omega)]; simp; omega) (fun j _ => HE.out.frozenAt _)
  rw [rounds_succ]
  go_wp2_with fail
  go_ret
  have hE2 := own_take ((World.ownsRow.stored ((World.ownsRow.stored ((World.ownsRow.stored ((World.ownsRow.stored ((World.ownsRow.stored ((World.ownsRow.stored ((World.ownsRow.stored ((World.ownsRow.stored ((World.ownsRow.stored ((World.ownsRow.stored ((World.ownsRow.stored ((World.ownsRow.stored ((World.ownsRow.stored ((World.ownsRow.stored ((World.ownsRow.stored ((World.ownsRow.stored (HE.out) 0 (.int .i64 0)).1) 1 (.int .i64 0)).1) 2 (.int .i64 0)).1) 3 (.int .i64 0)).1) 4 (.int .i64 0)).1) 5 (.int .i64 0)).1) 6 (.int .i64 0)).1) 7 (.int .i64 0)).1) 8 (.int .i64 0)).1) 9 (.int .i64 0)).1) 10 (.int .i64 0)).1) 11 (.int .i64 0)).1) 12 (.int .i64 0)).1) 13 (.int .i64 0)).1) 14 (.int .i64 0)).1) 15 (.int .i64 0)).1) (m := 0) (by decide)
  simp only [List.set_cons_zero, List.set_cons_succ] at hE2
  exact ⟨rfl, hE2, bset (bset (bset (bset (bset (bset (bset (bset (bset (bset (bset (bset (bset (bset (bset (bset (HB.out) HGB.out 0 (.int .i64 0)) HGB.out 1 (.int .i64 0)) HGB.out 2 (.int .i64 0)) HGB.out 3 (.int .i64 0)) HGB.out 4 (.int .i64 0)) HGB.out 5 (.int .i64 0)) HGB.out 6 (.int .i64 0)) HGB.out 7 (.int .i64 0)) HGB.out 8 (.int .i64 0)) HGB.out 9 (.int .i64 0)) HGB.out 10 (.int .i64 0)) HGB.out 11 (.int .i64 0)) HGB.out 12 (.int .i64 0)) HGB.out 13 (.int .i64 0)) HGB.out 14 (.int .i64 0)) HGB.out 15 (.int .i64 0)⟩
set_option maxHeartbeats 8000000 in
set_option maxRecDepth 100000 in
theorem delete_ins_four (g c b0 : Nat) (a0 a1 a2 a3 : Int) (nb ln : Nat) (w : World) (hE : w.ownsRow b0 74 4 (.slice (some ⟨g, 0, none⟩) 4 c) 4 [.int .i64 0, .int .i64 0, .int .i64 1, .int .i64 a0, .int .i64 1, .int .i64 0, .int .i64 2, .int .i64 a1, .int .i64 1, .int .i64 1, .int .i64 3, .int .i64 a2, .int .i64 2, .int .i64 0, .int .i64 1, .int .i64 a3]) (hN : Blk w nb #[.slice (some ⟨ln, 0, none⟩) 2 2] 29) (hL : Blk w ln #[.int .i64 1, .int .i64 2] 3) (hb0 : b0 ≤ w.heap.size) (gN : nb < b0) (gL : ln < b0) :
    Calls Try.prog 44 #[.slice (some ⟨g, 0, none⟩) 4 c, .func (.func 46) #[] #[.pointer (some ⟨nb, 0, none⟩)]] w fun e w' => e = .returned (.slice (some ⟨g, 0, none⟩) 2 c) ∧ w'.ownsRow b0 74 4 (.slice (some ⟨g, 0, none⟩) 2 c) 2 [.int .i64 1, .int .i64 0, .int .i64 2, .int .i64 a1, .int .i64 2, .int .i64 0, .int .i64 1, .int .i64 a3] ∧ Below b0 w w' := by
  have hu74 := Try.underlying74
  have hu58 := Try.underlying58
  have hmx : 4 ≤ c := own_le hE
  have HB : Aside0 (Below b0 w w) := ⟨Below.refl _ _⟩
  have BN0 := Aside0.mk hN
  have BL0 := Aside0.mk hL
  have BN := Aside0.mk hN
  have BL := Aside0.mk hL
  have HE := Aside0.mk hE
  have HBB := Aside0.mk hb0
  have HBB0 := Aside0.mk hb0
  have GN := Aside0.mk gN
  have GL := Aside0.mk gL
  have HGB : Aside0 (b0 ≤ g) := ⟨own_base hE g rfl⟩
  clear hN hL hE hb0 gN gL
  go_enter Try.func44, Try.ntmps44
  go_wp2_with fail
  refine (index_ins_four g c b0 a0 a1 a2 a3 nb ln _ HE.out BN.out BL.out HBB.out).mono ?_
  rintro e w1 ⟨rfl, hb⟩
  replace HE := Aside0.mk (pw_own_below HE.out hb)
  replace HB : Aside0 (Below b0 w w1) := ⟨HB.out.trans (below_less hb HBB.out)⟩
  replace BN : Aside0 (Blk w1 nb #[.slice (some ⟨ln, 0, none⟩) 2 2] 29) := ⟨(HB.out.block _ GN.out).trans BN0.out⟩
  replace BL : Aside0 (Blk w1 ln #[.int .i64 1, .int .i64 2] 3) := ⟨(HB.out.block _ GL.out).trans BL0.out⟩
  replace HBB : Aside0 (b0 ≤ w1.heap.size) := ⟨by have := HBB0.out; have := HB.out.size; omega⟩
  clear hb
  have hHE0 : w1.cell? ⟨g, 0, none⟩ = some (.int .i64 0) := HE.out.cellAt 0 (by decide)
  have hHE1 : w1.cell? ⟨g, 1, none⟩ = some (.int .i64 0) := HE.out.cellAt 1 (by decide)
  have hHE2 : w1.cell? ⟨g, 2, none⟩ = some (.int .i64 1) := HE.out.cellAt 2 (by decide)
  have hHE3 : w1.cell? ⟨g, 3, none⟩ = some (.int .i64 a0) := HE.out.cellAt 3 (by decide)
  have hHE4 : w1.cell? ⟨g, 4, none⟩ = some (.int .i64 1) := HE.out.cellAt 4 (by decide)
  have hHE5 : w1.cell? ⟨g, 5, none⟩ = some (.int .i64 0) := HE.out.cellAt 5 (by decide)
  have hHE6 : w1.cell? ⟨g, 6, none⟩ = some (.int .i64 2) := HE.out.cellAt 6 (by decide)
  have hHE7 : w1.cell? ⟨g, 7, none⟩ = some (.int .i64 a1) := HE.out.cellAt 7 (by decide)
  have hHE8 : w1.cell? ⟨g, 8, none⟩ = some (.int .i64 1) := HE.out.cellAt 8 (by decide)
  have hHE9 : w1.cell? ⟨g, 9, none⟩ = some (.int .i64 1) := HE.out.cellAt 9 (by decide)
  have hHE10 : w1.cell? ⟨g, 10, none⟩ = some (.int .i64 3) := HE.out.cellAt 10 (by decide)
  have hHE11 : w1.cell? ⟨g, 11, none⟩ = some (.int .i64 a2) := HE.out.cellAt 11 (by decide)
  have hHE12 : w1.cell? ⟨g, 12, none⟩ = some (.int .i64 2) := HE.out.cellAt 12 (by decide)
  have hHE13 : w1.cell? ⟨g, 13, none⟩ = some (.int .i64 0) := HE.out.cellAt 13 (by decide)
  have hHE14 : w1.cell? ⟨g, 14, none⟩ = some (.int .i64 1) := HE.out.cellAt 14 (by decide)
  have hHE15 : w1.cell? ⟨g, 15, none⟩ = some (.int .i64 a3) := HE.out.cellAt 15 (by decide)
  have fzHE := fun j => HE.out.frozenAt j
  have ltg : g < w1.heap.size := (HE.out.lt _ rfl).2
  have ltgA : ∀ k, g < w1.heap.size + k := fun k => by omega
  go_wp2_with fail
  refine wp_loop_rounds 6 ?_
  rw [rounds_succ]
  go_wp2_with fail
  clear hHE0 hHE1 hHE2 hHE3 hHE4 hHE5 hHE6 hHE7 hHE8 hHE9 hHE10 hHE11 hHE12 hHE13 hHE14 hHE15 fzHE ltg ltgA
  refine (ins_12 a1 nb ln _ (blk_below BN.out (by repeat (first | with_reducible exact Below.refl _ _ | apply below_alloc | apply pw_below_drewN | apply below_drew1))) (blk_below BL.out (by repeat (first | with_reducible exact Below.refl _ _ | apply below_alloc | apply pw_below_drewN | apply below_drew1)))).mono ?_
  rintro e w2 ⟨rfl, hb⟩
  have BV : Aside0 (Blk w2 w1.heap.size #[.int .i64 1, .int .i64 0, .int .i64 2, .int .i64 a1] 74) := ⟨blk_below (by (repeat (first | with_reducible exact heap_alloc_new _ _ | with_reducible exact heap_alloc2_new _ _ _ | with_reducible exact blk_at3 _ _ _ _ | with_reducible exact blk_at4 _ _ _ _ _ | refine blk_alloc ?_ _))) hb⟩
  replace hb : Below w1.heap.size w1 w2 := below_step (by repeat (first | with_reducible exact Below.refl _ _ | apply below_alloc | apply pw_below_drewN | apply below_drew1)) hb
  have HW : Aside0 (g < w1.heap.size) := ⟨(HE.out.lt _ rfl).2⟩
  replace HE := Aside0.mk (pw_own_below HE.out hb)
  replace HB : Aside0 (Below b0 w w2) := ⟨HB.out.trans (below_less hb HBB.out)⟩
  replace BN : Aside0 (Blk w2 nb #[.slice (some ⟨ln, 0, none⟩) 2 2] 29) := ⟨(HB.out.block _ GN.out).trans BN0.out⟩
  replace BL : Aside0 (Blk w2 ln #[.int .i64 1, .int .i64 2] 3) := ⟨(HB.out.block _ GL.out).trans BL0.out⟩
  replace HBB : Aside0 (b0 ≤ w2.heap.size) := ⟨by have := HBB0.out; have := HB.out.size; omega⟩
  clear hb
  have hHE0 : w2.cell? ⟨g, 0, none⟩ = some (.int .i64 0) := HE.out.cellAt 0 (by decide)
  have hHE1 : w2.cell? ⟨g, 1, none⟩ = some (.int .i64 0) := HE.out.cellAt 1 (by decide)
  have hHE2 : w2.cell? ⟨g, 2, none⟩ = some (.int .i64 1) := HE.out.cellAt 2 (by decide)
  have hHE3 : w2.cell? ⟨g, 3, none⟩ = some (.int .i64 a0) := HE.out.cellAt 3 (by decide)
  have hHE4 : w2.cell? ⟨g, 4, none⟩ = some (.int .i64 1) := HE.out.cellAt 4 (by decide)
  have hHE5 : w2.cell? ⟨g, 5, none⟩ = some (.int .i64 0) := HE.out.cellAt 5 (by decide)
  have hHE6 : w2.cell? ⟨g, 6, none⟩ = some (.int .i64 2) := HE.out.cellAt 6 (by decide)
  have hHE7 : w2.cell? ⟨g, 7, none⟩ = some (.int .i64 a1) := HE.out.cellAt 7 (by decide)
  have hHE8 : w2.cell? ⟨g, 8, none⟩ = some (.int .i64 1) := HE.out.cellAt 8 (by decide)
  have hHE9 : w2.cell? ⟨g, 9, none⟩ = some (.int .i64 1) := HE.out.cellAt 9 (by decide)
  have hHE10 : w2.cell? ⟨g, 10, none⟩ = some (.int .i64 3) := HE.out.cellAt 10 (by decide)
  have hHE11 : w2.cell? ⟨g, 11, none⟩ = some (.int .i64 a2) := HE.out.cellAt 11 (by decide)
  have hHE12 : w2.cell? ⟨g, 12, none⟩ = some (.int .i64 2) := HE.out.cellAt 12 (by decide)
  have hHE13 : w2.cell? ⟨g, 13, none⟩ = some (.int .i64 0) := HE.out.cellAt 13 (by decide)
  have hHE14 : w2.cell? ⟨g, 14, none⟩ = some (.int .i64 1) := HE.out.cellAt 14 (by decide)
  have hHE15 : w2.cell? ⟨g, 15, none⟩ = some (.int .i64 a3) := HE.out.cellAt 15 (by decide)
  have fzHE := fun j => HE.out.frozenAt j
  have ltg : g < w2.heap.size := (HE.out.lt _ rfl).2
  have ltgA : ∀ k, g < w2.heap.size + k := fun k => by omega
  have hBV := fun i => blk_cell BV.out i
  have hgW := HW.out
  have hgV : w1.heap.size < w2.heap.size := blk_lt BV.out
  go_upto_region 10 with (fail)
  clear hHE0 hHE1 hHE2 hHE3 hHE4 hHE5 hHE6 hHE7 hHE8 hHE9 hHE10 hHE11 hHE12 hHE13 hHE14 hHE15 fzHE ltg ltgA hBV hgW hgV
  have hE2 := (World.ownsRow.stored ((World.ownsRow.stored ((World.ownsRow.stored ((World.ownsRow.stored (HE.out) 0 (.int .i64 1)).1) 1 (.int .i64 0)).1) 2 (.int .i64 2)).1) 3 (.int .i64 a1)).1
  simp only [List.set_cons_zero, List.set_cons_succ] at hE2
  replace hE2 : (((((w2.setCell ⟨g, 0, none⟩ (.int .i64 1)).setCell ⟨g, 1, none⟩ (.int .i64 0)).setCell ⟨g, 2, none⟩ (.int .i64 2)).setCell ⟨g, 3, none⟩ (.int .i64 a1))).ownsRow b0 74 4 (.slice (some ⟨g, 0, none⟩) 4 c) 4 [.int .i64 1, .int .i64 0, .int .i64 2, .int .i64 a1, .int .i64 1, .int .i64 0, .int .i64 2, .int .i64 a1, .int .i64 1, .int .i64 1, .int .i64 3, .int .i64 a2, .int .i64 2, .int .i64 0, .int .i64 1, .int .i64 a3] := hE2
  have hb2 : Below b0 w2 (((((w2.setCell ⟨g, 0, none⟩ (.int .i64 1)).setCell ⟨g, 1, none⟩ (.int .i64 0)).setCell ⟨g, 2, none⟩ (.int .i64 2)).setCell ⟨g, 3, none⟩ (.int .i64 a1))) := bset (bset (bset (bset (Below.refl b0 w2) HGB.out 0 (.int .i64 1)) HGB.out 1 (.int .i64 0)) HGB.out 2 (.int .i64 2)) HGB.out 3 (.int .i64 a1)
  generalize (((((w2.setCell ⟨g, 0, none⟩ (.int .i64 1)).setCell ⟨g, 1, none⟩ (.int .i64 0)).setCell ⟨g, 2, none⟩ (.int .i64 2)).setCell ⟨g, 3, none⟩ (.int .i64 a1))) = ws1 at hE2 hb2 ⊢
  replace HE := Aside0.mk hE2
  replace HB : Aside0 (Below b0 w ws1) := ⟨HB.out.trans (hb2)⟩
  replace BN : Aside0 (Blk ws1 nb #[.slice (some ⟨ln, 0, none⟩) 2 2] 29) := ⟨(HB.out.block _ GN.out).trans BN0.out⟩
  replace BL : Aside0 (Blk ws1 ln #[.int .i64 1, .int .i64 2] 3) := ⟨(HB.out.block _ GL.out).trans BL0.out⟩
  replace HBB : Aside0 (b0 ≤ ws1.heap.size) := ⟨by have := HBB0.out; have := HB.out.size; omega⟩
  clear hE2 hb2 BV HW
  have hHE0 : ws1.cell? ⟨g, 0, none⟩ = some (.int .i64 1) := HE.out.cellAt 0 (by decide)
  have hHE1 : ws1.cell? ⟨g, 1, none⟩ = some (.int .i64 0) := HE.out.cellAt 1 (by decide)
  have hHE2 : ws1.cell? ⟨g, 2, none⟩ = some (.int .i64 2) := HE.out.cellAt 2 (by decide)
  have hHE3 : ws1.cell? ⟨g, 3, none⟩ = some (.int .i64 a1) := HE.out.cellAt 3 (by decide)
  have hHE4 : ws1.cell? ⟨g, 4, none⟩ = some (.int .i64 1) := HE.out.cellAt 4 (by decide)
  have hHE5 : ws1.cell? ⟨g, 5, none⟩ = some (.int .i64 0) := HE.out.cellAt 5 (by decide)
  have hHE6 : ws1.cell? ⟨g, 6, none⟩ = some (.int .i64 2) := HE.out.cellAt 6 (by decide)
  have hHE7 : ws1.cell? ⟨g, 7, none⟩ = some (.int .i64 a1) := HE.out.cellAt 7 (by decide)
  have hHE8 : ws1.cell? ⟨g, 8, none⟩ = some (.int .i64 1) := HE.out.cellAt 8 (by decide)
  have hHE9 : ws1.cell? ⟨g, 9, none⟩ = some (.int .i64 1) := HE.out.cellAt 9 (by decide)
  have hHE10 : ws1.cell? ⟨g, 10, none⟩ = some (.int .i64 3) := HE.out.cellAt 10 (by decide)
  have hHE11 : ws1.cell? ⟨g, 11, none⟩ = some (.int .i64 a2) := HE.out.cellAt 11 (by decide)
  have hHE12 : ws1.cell? ⟨g, 12, none⟩ = some (.int .i64 2) := HE.out.cellAt 12 (by decide)
  have hHE13 : ws1.cell? ⟨g, 13, none⟩ = some (.int .i64 0) := HE.out.cellAt 13 (by decide)
  have hHE14 : ws1.cell? ⟨g, 14, none⟩ = some (.int .i64 1) := HE.out.cellAt 14 (by decide)
  have hHE15 : ws1.cell? ⟨g, 15, none⟩ = some (.int .i64 a3) := HE.out.cellAt 15 (by decide)
  have fzHE := fun j => HE.out.frozenAt j
  have ltg : g < ws1.heap.size := (HE.out.lt _ rfl).2
  have ltgA : ∀ k, g < ws1.heap.size + k := fun k => by omega
  go_wp2_with fail
  rw [rounds_succ]
  go_wp2_with fail
  clear hHE0 hHE1 hHE2 hHE3 hHE4 hHE5 hHE6 hHE7 hHE8 hHE9 hHE10 hHE11 hHE12 hHE13 hHE14 hHE15 fzHE ltg ltgA
  refine (ins_13 a2 nb ln _ (blk_below BN.out (by repeat (first | with_reducible exact Below.refl _ _ | apply below_alloc | apply pw_below_drewN | apply below_drew1))) (blk_below BL.out (by repeat (first | with_reducible exact Below.refl _ _ | apply below_alloc | apply pw_below_drewN | apply below_drew1)))).mono ?_
  rintro e w3 ⟨rfl, hb⟩
  have BV : Aside0 (Blk w3 ws1.heap.size #[.int .i64 1, .int .i64 1, .int .i64 3, .int .i64 a2] 74) := ⟨blk_below (by (repeat (first | with_reducible exact heap_alloc_new _ _ | with_reducible exact heap_alloc2_new _ _ _ | with_reducible exact blk_at3 _ _ _ _ | with_reducible exact blk_at4 _ _ _ _ _ | refine blk_alloc ?_ _))) hb⟩
  replace hb : Below ws1.heap.size ws1 w3 := below_step (by repeat (first | with_reducible exact Below.refl _ _ | apply below_alloc | apply pw_below_drewN | apply below_drew1)) hb
  have HW : Aside0 (g < ws1.heap.size) := ⟨(HE.out.lt _ rfl).2⟩
  replace HE := Aside0.mk (pw_own_below HE.out hb)
  replace HB : Aside0 (Below b0 w w3) := ⟨HB.out.trans (below_less hb HBB.out)⟩
  replace BN : Aside0 (Blk w3 nb #[.slice (some ⟨ln, 0, none⟩) 2 2] 29) := ⟨(HB.out.block _ GN.out).trans BN0.out⟩
  replace BL : Aside0 (Blk w3 ln #[.int .i64 1, .int .i64 2] 3) := ⟨(HB.out.block _ GL.out).trans BL0.out⟩
  replace HBB : Aside0 (b0 ≤ w3.heap.size) := ⟨by have := HBB0.out; have := HB.out.size; omega⟩
  clear hb
  clear BV HW
  have hHE0 : w3.cell? ⟨g, 0, none⟩ = some (.int .i64 1) := HE.out.cellAt 0 (by decide)
  have hHE1 : w3.cell? ⟨g, 1, none⟩ = some (.int .i64 0) := HE.out.cellAt 1 (by decide)
  have hHE2 : w3.cell? ⟨g, 2, none⟩ = some (.int .i64 2) := HE.out.cellAt 2 (by decide)
  have hHE3 : w3.cell? ⟨g, 3, none⟩ = some (.int .i64 a1) := HE.out.cellAt 3 (by decide)
  have hHE4 : w3.cell? ⟨g, 4, none⟩ = some (.int .i64 1) := HE.out.cellAt 4 (by decide)
  have hHE5 : w3.cell? ⟨g, 5, none⟩ = some (.int .i64 0) := HE.out.cellAt 5 (by decide)
  have hHE6 : w3.cell? ⟨g, 6, none⟩ = some (.int .i64 2) := HE.out.cellAt 6 (by decide)
  have hHE7 : w3.cell? ⟨g, 7, none⟩ = some (.int .i64 a1) := HE.out.cellAt 7 (by decide)
  have hHE8 : w3.cell? ⟨g, 8, none⟩ = some (.int .i64 1) := HE.out.cellAt 8 (by decide)
  have hHE9 : w3.cell? ⟨g, 9, none⟩ = some (.int .i64 1) := HE.out.cellAt 9 (by decide)
  have hHE10 : w3.cell? ⟨g, 10, none⟩ = some (.int .i64 3) := HE.out.cellAt 10 (by decide)
  have hHE11 : w3.cell? ⟨g, 11, none⟩ = some (.int .i64 a2) := HE.out.cellAt 11 (by decide)
  have hHE12 : w3.cell? ⟨g, 12, none⟩ = some (.int .i64 2) := HE.out.cellAt 12 (by decide)
  have hHE13 : w3.cell? ⟨g, 13, none⟩ = some (.int .i64 0) := HE.out.cellAt 13 (by decide)
  have hHE14 : w3.cell? ⟨g, 14, none⟩ = some (.int .i64 1) := HE.out.cellAt 14 (by decide)
  have hHE15 : w3.cell? ⟨g, 15, none⟩ = some (.int .i64 a3) := HE.out.cellAt 15 (by decide)
  have fzHE := fun j => HE.out.frozenAt j
  have ltg : g < w3.heap.size := (HE.out.lt _ rfl).2
  have ltgA : ∀ k, g < w3.heap.size + k := fun k => by omega
  go_wp2_with fail
  rw [rounds_succ]
  go_wp2_with fail
  clear hHE0 hHE1 hHE2 hHE3 hHE4 hHE5 hHE6 hHE7 hHE8 hHE9 hHE10 hHE11 hHE12 hHE13 hHE14 hHE15 fzHE ltg ltgA
  refine (ins_21 a3 nb ln _ (blk_below BN.out (by repeat (first | with_reducible exact Below.refl _ _ | apply below_alloc | apply pw_below_drewN | apply below_drew1))) (blk_below BL.out (by repeat (first | with_reducible exact Below.refl _ _ | apply below_alloc | apply pw_below_drewN | apply below_drew1)))).mono ?_
  rintro e w4 ⟨rfl, hb⟩
  have BV : Aside0 (Blk w4 w3.heap.size #[.int .i64 2, .int .i64 0, .int .i64 1, .int .i64 a3] 74) := ⟨blk_below (by (repeat (first | with_reducible exact heap_alloc_new _ _ | with_reducible exact heap_alloc2_new _ _ _ | with_reducible exact blk_at3 _ _ _ _ | with_reducible exact blk_at4 _ _ _ _ _ | refine blk_alloc ?_ _))) hb⟩
  replace hb : Below w3.heap.size w3 w4 := below_step (by repeat (first | with_reducible exact Below.refl _ _ | apply below_alloc | apply pw_below_drewN | apply below_drew1)) hb
  have HW : Aside0 (g < w3.heap.size) := ⟨(HE.out.lt _ rfl).2⟩
  replace HE := Aside0.mk (pw_own_below HE.out hb)
  replace HB : Aside0 (Below b0 w w4) := ⟨HB.out.trans (below_less hb HBB.out)⟩
  replace BN : Aside0 (Blk w4 nb #[.slice (some ⟨ln, 0, none⟩) 2 2] 29) := ⟨(HB.out.block _ GN.out).trans BN0.out⟩
  replace BL : Aside0 (Blk w4 ln #[.int .i64 1, .int .i64 2] 3) := ⟨(HB.out.block _ GL.out).trans BL0.out⟩
  replace HBB : Aside0 (b0 ≤ w4.heap.size) := ⟨by have := HBB0.out; have := HB.out.size; omega⟩
  clear hb
  have hHE0 : w4.cell? ⟨g, 0, none⟩ = some (.int .i64 1) := HE.out.cellAt 0 (by decide)
  have hHE1 : w4.cell? ⟨g, 1, none⟩ = some (.int .i64 0) := HE.out.cellAt 1 (by decide)
  have hHE2 : w4.cell? ⟨g, 2, none⟩ = some (.int .i64 2) := HE.out.cellAt 2 (by decide)
  have hHE3 : w4.cell? ⟨g, 3, none⟩ = some (.int .i64 a1) := HE.out.cellAt 3 (by decide)
  have hHE4 : w4.cell? ⟨g, 4, none⟩ = some (.int .i64 1) := HE.out.cellAt 4 (by decide)
  have hHE5 : w4.cell? ⟨g, 5, none⟩ = some (.int .i64 0) := HE.out.cellAt 5 (by decide)
  have hHE6 : w4.cell? ⟨g, 6, none⟩ = some (.int .i64 2) := HE.out.cellAt 6 (by decide)
  have hHE7 : w4.cell? ⟨g, 7, none⟩ = some (.int .i64 a1) := HE.out.cellAt 7 (by decide)
  have hHE8 : w4.cell? ⟨g, 8, none⟩ = some (.int .i64 1) := HE.out.cellAt 8 (by decide)
  have hHE9 : w4.cell? ⟨g, 9, none⟩ = some (.int .i64 1) := HE.out.cellAt 9 (by decide)
  have hHE10 : w4.cell? ⟨g, 10, none⟩ = some (.int .i64 3) := HE.out.cellAt 10 (by decide)
  have hHE11 : w4.cell? ⟨g, 11, none⟩ = some (.int .i64 a2) := HE.out.cellAt 11 (by decide)
  have hHE12 : w4.cell? ⟨g, 12, none⟩ = some (.int .i64 2) := HE.out.cellAt 12 (by decide)
  have hHE13 : w4.cell? ⟨g, 13, none⟩ = some (.int .i64 0) := HE.out.cellAt 13 (by decide)
  have hHE14 : w4.cell? ⟨g, 14, none⟩ = some (.int .i64 1) := HE.out.cellAt 14 (by decide)
  have hHE15 : w4.cell? ⟨g, 15, none⟩ = some (.int .i64 a3) := HE.out.cellAt 15 (by decide)
  have fzHE := fun j => HE.out.frozenAt j
  have ltg : g < w4.heap.size := (HE.out.lt _ rfl).2
  have ltgA : ∀ k, g < w4.heap.size + k := fun k => by omega
  have hBV := fun i => blk_cell BV.out i
  have hgW := HW.out
  have hgV : w3.heap.size < w4.heap.size := blk_lt BV.out
  go_upto_region 10 with (fail)
  clear hHE0 hHE1 hHE2 hHE3 hHE4 hHE5 hHE6 hHE7 hHE8 hHE9 hHE10 hHE11 hHE12 hHE13 hHE14 hHE15 fzHE ltg ltgA hBV hgW hgV
  have hE2 := (World.ownsRow.stored ((World.ownsRow.stored ((World.ownsRow.stored ((World.ownsRow.stored (HE.out) 4 (.int .i64 2)).1) 5 (.int .i64 0)).1) 6 (.int .i64 1)).1) 7 (.int .i64 a3)).1
  simp only [List.set_cons_zero, List.set_cons_succ] at hE2
  replace hE2 : (((((w4.setCell ⟨g, 4, none⟩ (.int .i64 2)).setCell ⟨g, 5, none⟩ (.int .i64 0)).setCell ⟨g, 6, none⟩ (.int .i64 1)).setCell ⟨g, 7, none⟩ (.int .i64 a3))).ownsRow b0 74 4 (.slice (some ⟨g, 0, none⟩) 4 c) 4 [.int .i64 1, .int .i64 0, .int .i64 2, .int .i64 a1, .int .i64 2, .int .i64 0, .int .i64 1, .int .i64 a3, .int .i64 1, .int .i64 1, .int .i64 3, .int .i64 a2, .int .i64 2, .int .i64 0, .int .i64 1, .int .i64 a3] := hE2
  have hb2 : Below b0 w4 (((((w4.setCell ⟨g, 4, none⟩ (.int .i64 2)).setCell ⟨g, 5, none⟩ (.int .i64 0)).setCell ⟨g, 6, none⟩ (.int .i64 1)).setCell ⟨g, 7, none⟩ (.int .i64 a3))) := bset (bset (bset (bset (Below.refl b0 w4) HGB.out 4 (.int .i64 2)) HGB.out 5 (.int .i64 0)) HGB.out 6 (.int .i64 1)) HGB.out 7 (.int .i64 a3)
  generalize (((((w4.setCell ⟨g, 4, none⟩ (.int .i64 2)).setCell ⟨g, 5, none⟩ (.int .i64 0)).setCell ⟨g, 6, none⟩ (.int .i64 1)).setCell ⟨g, 7, none⟩ (.int .i64 a3))) = ws3 at hE2 hb2 ⊢
  replace HE := Aside0.mk hE2
  replace HB : Aside0 (Below b0 w ws3) := ⟨HB.out.trans (hb2)⟩
  replace BN : Aside0 (Blk ws3 nb #[.slice (some ⟨ln, 0, none⟩) 2 2] 29) := ⟨(HB.out.block _ GN.out).trans BN0.out⟩
  replace BL : Aside0 (Blk ws3 ln #[.int .i64 1, .int .i64 2] 3) := ⟨(HB.out.block _ GL.out).trans BL0.out⟩
  replace HBB : Aside0 (b0 ≤ ws3.heap.size) := ⟨by have := HBB0.out; have := HB.out.size; omega⟩
  clear hE2 hb2 BV HW
  have hHE0 : ws3.cell? ⟨g, 0, none⟩ = some (.int .i64 1) := HE.out.cellAt 0 (by decide)
  have hHE1 : ws3.cell? ⟨g, 1, none⟩ = some (.int .i64 0) := HE.out.cellAt 1 (by decide)
  have hHE2 : ws3.cell? ⟨g, 2, none⟩ = some (.int .i64 2) := HE.out.cellAt 2 (by decide)
  have hHE3 : ws3.cell? ⟨g, 3, none⟩ = some (.int .i64 a1) := HE.out.cellAt 3 (by decide)
  have hHE4 : ws3.cell? ⟨g, 4, none⟩ = some (.int .i64 2) := HE.out.cellAt 4 (by decide)
  have hHE5 : ws3.cell? ⟨g, 5, none⟩ = some (.int .i64 0) := HE.out.cellAt 5 (by decide)
  have hHE6 : ws3.cell? ⟨g, 6, none⟩ = some (.int .i64 1) := HE.out.cellAt 6 (by decide)
  have hHE7 : ws3.cell? ⟨g, 7, none⟩ = some (.int .i64 a3) := HE.out.cellAt 7 (by decide)
  have hHE8 : ws3.cell? ⟨g, 8, none⟩ = some (.int .i64 1) := HE.out.cellAt 8 (by decide)
  have hHE9 : ws3.cell? ⟨g, 9, none⟩ = some (.int .i64 1) := HE.out.cellAt 9 (by decide)
  have hHE10 : ws3.cell? ⟨g, 10, none⟩ = some (.int .i64 3) := HE.out.cellAt 10 (by decide)
  have hHE11 : ws3.cell? ⟨g, 11, none⟩ = some (.int .i64 a2) := HE.out.cellAt 11 (by decide)
  have hHE12 : ws3.cell? ⟨g, 12, none⟩ = some (.int .i64 2) := HE.out.cellAt 12 (by decide)
  have hHE13 : ws3.cell? ⟨g, 13, none⟩ = some (.int .i64 0) := HE.out.cellAt 13 (by decide)
  have hHE14 : ws3.cell? ⟨g, 14, none⟩ = some (.int .i64 1) := HE.out.cellAt 14 (by decide)
  have hHE15 : ws3.cell? ⟨g, 15, none⟩ = some (.int .i64 a3) := HE.out.cellAt 15 (by decide)
  have fzHE := fun j => HE.out.frozenAt j
  have ltg : g < ws3.heap.size := (HE.out.lt _ rfl).2
  have ltgA : ∀ k, g < ws3.heap.size + k := fun k => by omega
  go_wp2_with fail
  have hcl : ∀ ty, (Builtin.clear_ #[58] ty #[.slice (some ⟨g, 8, none⟩) 2 (c - 2)]).run Try.prog ws3 = .ok (.tuple #[]) ((((((((ws3.setCell ⟨g, 8, none⟩ (.int .i64 0)).setCell ⟨g, 9, none⟩ (.int .i64 0)).setCell ⟨g, 10, none⟩ (.int .i64 0)).setCell ⟨g, 11, none⟩ (.int .i64 0)).setCell ⟨g, 12, none⟩ (.int .i64 0)).setCell ⟨g, 13, none⟩ (.int .i64 0)).setCell ⟨g, 14, none⟩ (.int .i64 0)).setCell ⟨g, 15, none⟩ (.int .i64 0)) := fun ty => clear_edges 2 _ ty g 8 _ (by decide) (by kernel_rfl) (fun j hj => by rw [HE.out.cellAt (8 + j) (by omega)]; simp; omega) (fun j _ => HE.out.frozenAt _)
  rw [rounds_succ]
  go_wp2_with fail
  go_ret
  have hE2 := own_take ((World.ownsRow.stored ((World.ownsRow.stored ((World.ownsRow.stored ((World.ownsRow.stored ((World.ownsRow.stored ((World.ownsRow.stored ((World.ownsRow.stored ((World.ownsRow.stored (HE.out) 8 (.int .i64 0)).1) 9 (.int .i64 0)).1) 10 (.int .i64 0)).1) 11 (.int .i64 0)).1) 12 (.int .i64 0)).1) 13 (.int .i64 0)).1) 14 (.int .i64 0)).1) 15 (.int .i64 0)).1) (m := 2) (by decide)
  simp only [List.set_cons_zero, List.set_cons_succ] at hE2
  exact ⟨rfl, hE2, bset (bset (bset (bset (bset (bset (bset (bset (HB.out) HGB.out 8 (.int .i64 0)) HGB.out 9 (.int .i64 0)) HGB.out 10 (.int .i64 0)) HGB.out 11 (.int .i64 0)) HGB.out 12 (.int .i64 0)) HGB.out 13 (.int .i64 0)) HGB.out 14 (.int .i64 0)) HGB.out 15 (.int .i64 0)⟩
set_option maxHeartbeats 8000000 in
set_option maxRecDepth 100000 in
theorem delete_ins_two (g c b0 : Nat) (a0 a2 : Int) (nb ln : Nat) (w : World) (hE : w.ownsRow b0 74 4 (.slice (some ⟨g, 0, none⟩) 2 c) 2 [.int .i64 0, .int .i64 0, .int .i64 1, .int .i64 a0, .int .i64 1, .int .i64 1, .int .i64 3, .int .i64 a2]) (hN : Blk w nb #[.slice (some ⟨ln, 0, none⟩) 2 2] 29) (hL : Blk w ln #[.int .i64 1, .int .i64 2] 3) (hb0 : b0 ≤ w.heap.size) (gN : nb < b0) (gL : ln < b0) :
    Calls Try.prog 44 #[.slice (some ⟨g, 0, none⟩) 2 c, .func (.func 46) #[] #[.pointer (some ⟨nb, 0, none⟩)]] w fun e w' => e = .returned (.slice (some ⟨g, 0, none⟩) 0 c) ∧ w'.ownsRow b0 74 4 (.slice (some ⟨g, 0, none⟩) 0 c) 0 [] ∧ Below b0 w w' := by
  have hu74 := Try.underlying74
  have hu58 := Try.underlying58
  have hmx : 2 ≤ c := own_le hE
  have HB : Aside0 (Below b0 w w) := ⟨Below.refl _ _⟩
  have BN0 := Aside0.mk hN
  have BL0 := Aside0.mk hL
  have BN := Aside0.mk hN
  have BL := Aside0.mk hL
  have HE := Aside0.mk hE
  have HBB := Aside0.mk hb0
  have HBB0 := Aside0.mk hb0
  have GN := Aside0.mk gN
  have GL := Aside0.mk gL
  have HGB : Aside0 (b0 ≤ g) := ⟨own_base hE g rfl⟩
  clear hN hL hE hb0 gN gL
  go_enter Try.func44, Try.ntmps44
  go_wp2_with fail
  refine (index_ins_two g c b0 a0 a2 nb ln _ HE.out BN.out BL.out HBB.out).mono ?_
  rintro e w1 ⟨rfl, hb⟩
  replace HE := Aside0.mk (pw_own_below HE.out hb)
  replace HB : Aside0 (Below b0 w w1) := ⟨HB.out.trans (below_less hb HBB.out)⟩
  replace BN : Aside0 (Blk w1 nb #[.slice (some ⟨ln, 0, none⟩) 2 2] 29) := ⟨(HB.out.block _ GN.out).trans BN0.out⟩
  replace BL : Aside0 (Blk w1 ln #[.int .i64 1, .int .i64 2] 3) := ⟨(HB.out.block _ GL.out).trans BL0.out⟩
  replace HBB : Aside0 (b0 ≤ w1.heap.size) := ⟨by have := HBB0.out; have := HB.out.size; omega⟩
  clear hb
  have hHE0 : w1.cell? ⟨g, 0, none⟩ = some (.int .i64 0) := HE.out.cellAt 0 (by decide)
  have hHE1 : w1.cell? ⟨g, 1, none⟩ = some (.int .i64 0) := HE.out.cellAt 1 (by decide)
  have hHE2 : w1.cell? ⟨g, 2, none⟩ = some (.int .i64 1) := HE.out.cellAt 2 (by decide)
  have hHE3 : w1.cell? ⟨g, 3, none⟩ = some (.int .i64 a0) := HE.out.cellAt 3 (by decide)
  have hHE4 : w1.cell? ⟨g, 4, none⟩ = some (.int .i64 1) := HE.out.cellAt 4 (by decide)
  have hHE5 : w1.cell? ⟨g, 5, none⟩ = some (.int .i64 1) := HE.out.cellAt 5 (by decide)
  have hHE6 : w1.cell? ⟨g, 6, none⟩ = some (.int .i64 3) := HE.out.cellAt 6 (by decide)
  have hHE7 : w1.cell? ⟨g, 7, none⟩ = some (.int .i64 a2) := HE.out.cellAt 7 (by decide)
  have fzHE := fun j => HE.out.frozenAt j
  have ltg : g < w1.heap.size := (HE.out.lt _ rfl).2
  have ltgA : ∀ k, g < w1.heap.size + k := fun k => by omega
  go_wp2_with fail
  refine wp_loop_rounds 6 ?_
  rw [rounds_succ]
  go_wp2_with fail
  clear hHE0 hHE1 hHE2 hHE3 hHE4 hHE5 hHE6 hHE7 fzHE ltg ltgA
  refine (ins_13 a2 nb ln _ (blk_below BN.out (by repeat (first | with_reducible exact Below.refl _ _ | apply below_alloc | apply pw_below_drewN | apply below_drew1))) (blk_below BL.out (by repeat (first | with_reducible exact Below.refl _ _ | apply below_alloc | apply pw_below_drewN | apply below_drew1)))).mono ?_
  rintro e w2 ⟨rfl, hb⟩
  have BV : Aside0 (Blk w2 w1.heap.size #[.int .i64 1, .int .i64 1, .int .i64 3, .int .i64 a2] 74) := ⟨blk_below (by (repeat (first | with_reducible exact heap_alloc_new _ _ | with_reducible exact heap_alloc2_new _ _ _ | with_reducible exact blk_at3 _ _ _ _ | with_reducible exact blk_at4 _ _ _ _ _ | refine blk_alloc ?_ _))) hb⟩
  replace hb : Below w1.heap.size w1 w2 := below_step (by repeat (first | with_reducible exact Below.refl _ _ | apply below_alloc | apply pw_below_drewN | apply below_drew1)) hb
  have HW : Aside0 (g < w1.heap.size) := ⟨(HE.out.lt _ rfl).2⟩
  replace HE := Aside0.mk (pw_own_below HE.out hb)
  replace HB : Aside0 (Below b0 w w2) := ⟨HB.out.trans (below_less hb HBB.out)⟩
  replace BN : Aside0 (Blk w2 nb #[.slice (some ⟨ln, 0, none⟩) 2 2] 29) := ⟨(HB.out.block _ GN.out).trans BN0.out⟩
  replace BL : Aside0 (Blk w2 ln #[.int .i64 1, .int .i64 2] 3) := ⟨(HB.out.block _ GL.out).trans BL0.out⟩
  replace HBB : Aside0 (b0 ≤ w2.heap.size) := ⟨by have := HBB0.out; have := HB.out.size; omega⟩
  clear hb
  clear BV HW
  have hHE0 : w2.cell? ⟨g, 0, none⟩ = some (.int .i64 0) := HE.out.cellAt 0 (by decide)
  have hHE1 : w2.cell? ⟨g, 1, none⟩ = some (.int .i64 0) := HE.out.cellAt 1 (by decide)
  have hHE2 : w2.cell? ⟨g, 2, none⟩ = some (.int .i64 1) := HE.out.cellAt 2 (by decide)
  have hHE3 : w2.cell? ⟨g, 3, none⟩ = some (.int .i64 a0) := HE.out.cellAt 3 (by decide)
  have hHE4 : w2.cell? ⟨g, 4, none⟩ = some (.int .i64 1) := HE.out.cellAt 4 (by decide)
  have hHE5 : w2.cell? ⟨g, 5, none⟩ = some (.int .i64 1) := HE.out.cellAt 5 (by decide)
  have hHE6 : w2.cell? ⟨g, 6, none⟩ = some (.int .i64 3) := HE.out.cellAt 6 (by decide)
  have hHE7 : w2.cell? ⟨g, 7, none⟩ = some (.int .i64 a2) := HE.out.cellAt 7 (by decide)
  have fzHE := fun j => HE.out.frozenAt j
  have ltg : g < w2.heap.size := (HE.out.lt _ rfl).2
  have ltgA : ∀ k, g < w2.heap.size + k := fun k => by omega
  go_wp2_with fail
  have hcl : ∀ ty, (Builtin.clear_ #[58] ty #[.slice (some ⟨g, 0, none⟩) 2 c]).run Try.prog w2 = .ok (.tuple #[]) ((((((((w2.setCell ⟨g, 0, none⟩ (.int .i64 0)).setCell ⟨g, 1, none⟩ (.int .i64 0)).setCell ⟨g, 2, none⟩ (.int .i64 0)).setCell ⟨g, 3, none⟩ (.int .i64 0)).setCell ⟨g, 4, none⟩ (.int .i64 0)).setCell ⟨g, 5, none⟩ (.int .i64 0)).setCell ⟨g, 6, none⟩ (.int .i64 0)).setCell ⟨g, 7, none⟩ (.int .i64 0)) := fun ty => clear_edges 2 _ ty g 0 _ (by decide) (by kernel_rfl) (fun j hj => by rw [HE.out.cellAt (0 + j) (by omega)]; simp; omega) (fun j _ => HE.out.frozenAt _)
  rw [rounds_succ]
  go_wp2_with fail
  go_ret
  have hE2 := own_take ((World.ownsRow.stored ((World.ownsRow.stored ((World.ownsRow.stored ((World.ownsRow.stored ((World.ownsRow.stored ((World.ownsRow.stored ((World.ownsRow.stored ((World.ownsRow.stored (HE.out) 0 (.int .i64 0)).1) 1 (.int .i64 0)).1) 2 (.int .i64 0)).1) 3 (.int .i64 0)).1) 4 (.int .i64 0)).1) 5 (.int .i64 0)).1) 6 (.int .i64 0)).1) 7 (.int .i64 0)).1) (m := 0) (by decide)
  simp only [List.set_cons_zero, List.set_cons_succ] at hE2
  exact ⟨rfl, hE2, bset (bset (bset (bset (bset (bset (bset (bset (HB.out) HGB.out 0 (.int .i64 0)) HGB.out 1 (.int .i64 0)) HGB.out 2 (.int .i64 0)) HGB.out 3 (.int .i64 0)) HGB.out 4 (.int .i64 0)) HGB.out 5 (.int .i64 0)) HGB.out 6 (.int .i64 0)) HGB.out 7 (.int .i64 0)⟩
end Go.Proofs.Ytbeochkimihglaa.PHl
