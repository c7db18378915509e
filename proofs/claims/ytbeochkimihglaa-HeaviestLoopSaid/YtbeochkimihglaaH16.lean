/- IndexFunc over edges. -/
import Derived.Test.YtbeochkimihglaaH15
import Derived.Outline
namespace Go.Proofs.Ytbeochkimihglaa.PHl
open Go.RowKit Go.Proofs.YtbeochkimihglaaW.PrintWords Go.Proofs.YtbeochkimihglaaW.PrintLast Go.Proofs.YtbeochkimihglaaW.PrintMore
set_option linter.unusedVariables false
set_option linter.unusedSimpArgs false
set_option maxHeartbeats 8000000 in
set_option maxRecDepth 100000 in
theorem index_opn_none (g c b0 : Nat) (a0 a1 a2 a3 : Int) (db dd : Nat) (w : World) (hE : w.ownsRow b0 74 4 (.slice (some ⟨g, 0, none⟩) 4 c) 4 [.int .i64 0, .int .i64 0, .int .i64 1, .int .i64 a0, .int .i64 1, .int .i64 0, .int .i64 2, .int .i64 a1, .int .i64 1, .int .i64 1, .int .i64 3, .int .i64 a2, .int .i64 2, .int .i64 0, .int .i64 1, .int .i64 a3]) (hN : Blk w db #[.slice (some ⟨dd, 0, none⟩) 4 4] 41) (hL : Blk w dd #[.bool false, .bool false, .bool false, .bool false] 4) (hb0 : b0 ≤ w.heap.size) :
    Calls Try.prog 53 #[.slice (some ⟨g, 0, none⟩) 4 c, .func (.func 47) #[] #[.pointer (some ⟨db, 0, none⟩)]] w fun e w' => e = .returned (.int .i64 (-1)) ∧ Below w.heap.size w w' := by
  have hu74 := Try.underlying74
  have HB : Aside0 (Below w.heap.size w w) := ⟨Below.refl _ _⟩
  have BN := Aside0.mk hN
  have BL := Aside0.mk hL
  have HE := Aside0.mk hE
  have HBB := Aside0.mk hb0
  clear hN hL hE hb0
  have hBN : ∀ i, w.cell? ⟨db, i, none⟩ = (#[.slice (some ⟨dd, 0, none⟩) 4 4] : Array Value)[i]? := fun i => blk_cell BN.out i
  have ltBN := blk_lt BN.out
  have hBL : ∀ i, w.cell? ⟨dd, i, none⟩ = (#[.bool false, .bool false, .bool false, .bool false] : Array Value)[i]? := fun i => blk_cell BL.out i
  have ltBL := blk_lt BL.out
  have hHE0 : w.cell? ⟨g, 0, none⟩ = some (.int .i64 0) := HE.out.cellAt 0 (by decide)
  have hHE1 : w.cell? ⟨g, 1, none⟩ = some (.int .i64 0) := HE.out.cellAt 1 (by decide)
  have hHE2 : w.cell? ⟨g, 2, none⟩ = some (.int .i64 1) := HE.out.cellAt 2 (by decide)
  have hHE3 : w.cell? ⟨g, 3, none⟩ = some (.int .i64 a0) := HE.out.cellAt 3 (by decide)
  have hHE4 : w.cell? ⟨g, 4, none⟩ = some (.int .i64 1) := HE.out.cellAt 4 (by decide)
  have hHE5 : w.cell? ⟨g, 5, none⟩ = some (.int .i64 0) := HE.out.cellAt 5 (by decide)
  have hHE6 : w.cell? ⟨g, 6, none⟩ = some (.int .i64 2) := HE.out.cellAt 6 (by decide)
  have hHE7 : w.cell? ⟨g, 7, none⟩ = some (.int .i64 a1) := HE.out.cellAt 7 (by decide)
  have hHE8 : w.cell? ⟨g, 8, none⟩ = some (.int .i64 1) := HE.out.cellAt 8 (by decide)
  have hHE9 : w.cell? ⟨g, 9, none⟩ = some (.int .i64 1) := HE.out.cellAt 9 (by decide)
  have hHE10 : w.cell? ⟨g, 10, none⟩ = some (.int .i64 3) := HE.out.cellAt 10 (by decide)
  have hHE11 : w.cell? ⟨g, 11, none⟩ = some (.int .i64 a2) := HE.out.cellAt 11 (by decide)
  have hHE12 : w.cell? ⟨g, 12, none⟩ = some (.int .i64 2) := HE.out.cellAt 12 (by decide)
  have hHE13 : w.cell? ⟨g, 13, none⟩ = some (.int .i64 0) := HE.out.cellAt 13 (by decide)
  have hHE14 : w.cell? ⟨g, 14, none⟩ = some (.int .i64 1) := HE.out.cellAt 14 (by decide)
  have hHE15 : w.cell? ⟨g, 15, none⟩ = some (.int .i64 a3) := HE.out.cellAt 15 (by decide)
  have fzHE := fun j => HE.out.frozenAt j
  have ltHE : g < w.heap.size := (HE.out.lt _ rfl).2
  go_enter Try.func53, Try.ntmps53
  go_wp2_with fail
  refine wp_loop_rounds 6 ?_
  rw [rounds_succ]
  go_wp2_with fail
  clear hBN ltBN hBL ltBL hHE0 hHE1 hHE2 hHE3 hHE4 hHE5 hHE6 hHE7 hHE8 hHE9 hHE10 hHE11 hHE12 hHE13 hHE14 hHE15 fzHE ltHE
  refine (opn_01 a0 db dd false false false false _ (blk_below BN.out (by repeat (first | with_reducible exact Below.refl _ _ | apply below_alloc | apply pw_below_drewN | apply below_drew1))) (blk_below BL.out (by repeat (first | with_reducible exact Below.refl _ _ | apply below_alloc | apply pw_below_drewN | apply below_drew1)))).mono ?_
  rintro e w1 ⟨rfl, hb⟩
  replace HB := Aside0.mk (below_step HB.out hb)
  replace BN := Aside0.mk (blk_below BN.out hb)
  replace BL := Aside0.mk (blk_below BL.out hb)
  replace HE := Aside0.mk (pw_own_below HE.out hb)
  clear hb
  have hBN : ∀ i, w1.cell? ⟨db, i, none⟩ = (#[.slice (some ⟨dd, 0, none⟩) 4 4] : Array Value)[i]? := fun i => blk_cell BN.out i
  have ltBN := blk_lt BN.out
  have hBL : ∀ i, w1.cell? ⟨dd, i, none⟩ = (#[.bool false, .bool false, .bool false, .bool false] : Array Value)[i]? := fun i => blk_cell BL.out i
  have ltBL := blk_lt BL.out
  have hHE0 : w1.cell? ⟨g, 0, none⟩ = some (.int .i64 0) := HE.out.cellAt 0 (by decide)
  have hHE1 : w1.cell? ⟨g, 1, none⟩ = some (.int .i64 0) := HE.out.cellAt 1 (by decide)
  have hHE2 : w1.cell? ⟨g, 2, none⟩ = some (.int .i64 1) := HE.out.cellAt 2 (by decide)
  have hHE3 : w1.cell? ⟨g, 3, none⟩ = some (.int .i64 a0) := HE.out.cellAt 3 (by decide)
  have hHE4 : w1.cell? ⟨g, 4, none⟩ = some (.int .i64 1) := HE.out.cellAt 4 (by decide)
  have hHE5 : w1.cell? ⟨g, 5, none⟩ = some (.int .i64 0) := HE.out.cellAt 5 (by decide)
  have hHE6 : w1.cell? ⟨g, 6, none⟩ = some (.int .i64 2) := HE.out.cellAt 6 (by decide)
  have hHE7 : w1.cell? ⟨g, 7, none⟩ = some (.int .i64 a1) := HE.out.cellAt 7 (by decide)
  have hHE8 : w1.cell? ⟨g, 8, none⟩ = some (.int .i64 1) := HE.out.cellAt 8 (by decide)
  have hHE9 : w1.cell? ⟨g, 9, none⟩ = some (.int .i64 1) := HE.out.cellAt 9 (by decide)
  have hHE10 : w1.cell? ⟨g, 10, none⟩ = some (.int .i64 3) := HE.out.cellAt 10 (by decide)
  have hHE11 : w1.cell? ⟨g, 11, none⟩ = some (.int .i64 a2) := HE.out.cellAt 11 (by decide)
  have hHE12 : w1.cell? ⟨g, 12, none⟩ = some (.int .i64 2) := HE.out.cellAt 12 (by decide)
  have hHE13 : w1.cell? ⟨g, 13, none⟩ = some (.int .i64 0) := HE.out.cellAt 13 (by decide)
  have hHE14 : w1.cell? ⟨g, 14, none⟩ = some (.int .i64 1) := HE.out.cellAt 14 (by decide)
  have hHE15 : w1.cell? ⟨g, 15, none⟩ = some (.int .i64 a3) := HE.out.cellAt 15 (by decide)
  have fzHE := fun j => HE.out.frozenAt j
  have ltHE : g < w1.heap.size := (HE.out.lt _ rfl).2
  go_wp2_with fail
  rw [rounds_succ]
  go_wp2_with fail
  clear hBN ltBN hBL ltBL hHE0 hHE1 hHE2 hHE3 hHE4 hHE5 hHE6 hHE7 hHE8 hHE9 hHE10 hHE11 hHE12 hHE13 hHE14 hHE15 fzHE ltHE
  refine (opn_12 a1 db dd false false false false _ (blk_below BN.out (by repeat (first | with_reducible exact Below.refl _ _ | apply below_alloc | apply pw_below_drewN | apply below_drew1))) (blk_below BL.out (by repeat (first | with_reducible exact Below.refl _ _ | apply below_alloc | apply pw_below_drewN | apply below_drew1)))).mono ?_
  rintro e w2 ⟨rfl, hb⟩
  replace HB := Aside0.mk (below_step HB.out hb)
  replace BN := Aside0.mk (blk_below BN.out hb)
  replace BL := Aside0.mk (blk_below BL.out hb)
  replace HE := Aside0.mk (pw_own_below HE.out hb)
  clear hb
  have hBN : ∀ i, w2.cell? ⟨db, i, none⟩ = (#[.slice (some ⟨dd, 0, none⟩) 4 4] : Array Value)[i]? := fun i => blk_cell BN.out i
  have ltBN := blk_lt BN.out
  have hBL : ∀ i, w2.cell? ⟨dd, i, none⟩ = (#[.bool false, .bool false, .bool false, .bool false] : Array Value)[i]? := fun i => blk_cell BL.out i
  have ltBL := blk_lt BL.out
  have hHE0 : w2.cell? ⟨g, 0, none⟩ = some (.int .i64 0) := HE.out.cellAt 0 (by decide)
  have hHE1 : w2.cell? ⟨g, 1, none⟩ = some (.int .i64 0) := HE.out.cellAt 1 (by decide)
  have hHE2 : w2.cell? ⟨g, 2, none⟩ = some (.int .i64 1) := HE.out.cellAt 2 (by decide)
  have hHE3 : w2.cell? ⟨g, 3, none⟩ = some (.int .i64 a0) := HE.out.cellAt 3 (by decide)
  have hHE4 : w2.cell? ⟨g, 4, none⟩ = some (.int .i64 1) := HE.out.cellAt 4 (by decide)
  have hHE5 : w2.cell? ⟨g, 5, none⟩ = some (.int .i64 0) := HE.out.cellAt 5 (by decide)
  have hHE6 : w2.cell? ⟨g, 6, none⟩ = some (.int .i64 2) := HE.out.cellAt 6 (by decide)
  have hHE7 : w2.cell? ⟨g, 7, none⟩ = some (.int .i64 a1) := HE.out.cellAt 7 (by decide)
  have hHE8 : w2.cell? ⟨g, 8, none⟩ = some (.int .i64 1) := HE.out.cellAt 8 (by decide)
  have hHE9 : w2.cell? ⟨g, 9, none⟩ = some (.int .i64 1) := HE.out.cellAt 9 (by decide)
  have hHE10 : w2.cell? ⟨g, 10, none⟩ = some (.int .i64 3) := HE.out.cellAt 10 (by decide)
  have hHE11 : w2.cell? ⟨g, 11, none⟩ = some (.int .i64 a2) := HE.out.cellAt 11 (by decide)
  have hHE12 : w2.cell? ⟨g, 12, none⟩ = some (.int .i64 2) := HE.out.cellAt 12 (by decide)
  have hHE13 : w2.cell? ⟨g, 13, none⟩ = some (.int .i64 0) := HE.out.cellAt 13 (by decide)
  have hHE14 : w2.cell? ⟨g, 14, none⟩ = some (.int .i64 1) := HE.out.cellAt 14 (by decide)
  have hHE15 : w2.cell? ⟨g, 15, none⟩ = some (.int .i64 a3) := HE.out.cellAt 15 (by decide)
  have fzHE := fun j => HE.out.frozenAt j
  have ltHE : g < w2.heap.size := (HE.out.lt _ rfl).2
  go_wp2_with fail
  rw [rounds_succ]
  go_wp2_with fail
  clear hBN ltBN hBL ltBL hHE0 hHE1 hHE2 hHE3 hHE4 hHE5 hHE6 hHE7 hHE8 hHE9 hHE10 hHE11 hHE12 hHE13 hHE14 hHE15 fzHE ltHE
  refine (opn_13 a2 db dd false false false false _ (blk_below BN.out (by repeat (first | with_reducible exact Below.refl _ _ | apply below_alloc | apply pw_below_drewN | apply below_drew1))) (blk_below BL.out (by repeat (first | with_reducible exact Below.refl _ _ | apply below_alloc | apply pw_below_drewN | apply below_drew1)))).mono ?_
  rintro e w3 ⟨rfl, hb⟩
  replace HB := Aside0.mk (below_step HB.out hb)
  replace BN := Aside0.mk (blk_below BN.out hb)
  replace BL := Aside0.mk (blk_below BL.out hb)
  replace HE := Aside0.mk (pw_own_below HE.out hb)
  clear hb
  have hBN : ∀ i, w3.cell? ⟨db, i, none⟩ = (#[.slice (some ⟨dd, 0, none⟩) 4 4] : Array Value)[i]? := fun i => blk_cell BN.out i
  have ltBN := blk_lt BN.out
  have hBL : ∀ i, w3.cell? ⟨dd, i, none⟩ = (#[.bool false, .bool false, .bool false, .bool false] : Array Value)[i]? := fun i => blk_cell BL.out i
  have ltBL := blk_lt BL.out
  have hHE0 : w3.cell? ⟨g, 0, none⟩ = some (.int .i64 0) := HE.out.cellAt 0 (by decide)
  have hHE1 : w3.cell? ⟨g, 1, none⟩ = some (.int .i64 0) := HE.out.cellAt 1 (by decide)
  have hHE2 : w3.cell? ⟨g, 2, none⟩ = some (.int .i64 1) := HE.out.cellAt 2 (by decide)
  have hHE3 : w3.cell? ⟨g, 3, none⟩ = some (.int .i64 a0) := HE.out.cellAt 3 (by decide)
  have hHE4 : w3.cell? ⟨g, 4, none⟩ = some (.int .i64 1) := HE.out.cellAt 4 (by decide)
  have hHE5 : w3.cell? ⟨g, 5, none⟩ = some (.int .i64 0) := HE.out.cellAt 5 (by decide)
  have hHE6 : w3.cell? ⟨g, 6, none⟩ = some (.int .i64 2) := HE.out.cellAt 6 (by decide)
  have hHE7 : w3.cell? ⟨g, 7, none⟩ = some (.int .i64 a1) := HE.out.cellAt 7 (by decide)
  have hHE8 : w3.cell? ⟨g, 8, none⟩ = some (.int .i64 1) := HE.out.cellAt 8 (by decide)
  have hHE9 : w3.cell? ⟨g, 9, none⟩ = some (.int .i64 1) := HE.out.cellAt 9 (by decide)
  have hHE10 : w3.cell? ⟨g, 10, none⟩ = some (.int .i64 3) := HE.out.cellAt 10 (by decide)
  have hHE11 : w3.cell? ⟨g, 11, none⟩ = some (.int .i64 a2) := HE.out.cellAt 11 (by decide)
  have hHE12 : w3.cell? ⟨g, 12, none⟩ = some (.int .i64 2) := HE.out.cellAt 12 (by decide)
  have hHE13 : w3.cell? ⟨g, 13, none⟩ = some (.int .i64 0) := HE.out.cellAt 13 (by decide)
  have hHE14 : w3.cell? ⟨g, 14, none⟩ = some (.int .i64 1) := HE.out.cellAt 14 (by decide)
  have hHE15 : w3.cell? ⟨g, 15, none⟩ = some (.int .i64 a3) := HE.out.cellAt 15 (by decide)
  have fzHE := fun j => HE.out.frozenAt j
  have ltHE : g < w3.heap.size := (HE.out.lt _ rfl).2
  go_wp2_with fail
  rw [rounds_succ]
  go_wp2_with fail
  clear hBN ltBN hBL ltBL hHE0 hHE1 hHE2 hHE3 hHE4 hHE5 hHE6 hHE7 hHE8 hHE9 hHE10 hHE11 hHE12 hHE13 hHE14 hHE15 fzHE ltHE
  refine (opn_21 a3 db dd false false false false _ (blk_below BN.out (by repeat (first | with_reducible exact Below.refl _ _ | apply below_alloc | apply pw_below_drewN | apply below_drew1))) (blk_below BL.out (by repeat (first | with_reducible exact Below.refl _ _ | apply below_alloc | apply pw_below_drewN | apply below_drew1)))).mono ?_
  rintro e w4 ⟨rfl, hb⟩
  replace HB := Aside0.mk (below_step HB.out hb)
  replace BN := Aside0.mk (blk_below BN.out hb)
  replace BL := Aside0.mk (blk_below BL.out hb)
  replace HE := Aside0.mk (pw_own_below HE.out hb)
  clear hb
  have hBN : ∀ i, w4.cell? ⟨db, i, none⟩ = (#[.slice (some ⟨dd, 0, none⟩) 4 4] : Array Value)[i]? := fun i => blk_cell BN.out i
  have ltBN := blk_lt BN.out
  have hBL : ∀ i, w4.cell? ⟨dd, i, none⟩ = (#[.bool false, .bool false, .bool false, .bool false] : Array Value)[i]? := fun i => blk_cell BL.out i
  have ltBL := blk_lt BL.out
  have hHE0 : w4.cell? ⟨g, 0, none⟩ = some (.int .i64 0) := HE.out.cellAt 0 (by decide)
  have hHE1 : w4.cell? ⟨g, 1, none⟩ = some (.int .i64 0) := HE.out.cellAt 1 (by decide)
  have hHE2 : w4.cell? ⟨g, 2, none⟩ = some (.int .i64 1) := HE.out.cellAt 2 (by decide)
  have hHE3 : w4.cell? ⟨g, 3, none⟩ = some (.int .i64 a0) := HE.out.cellAt 3 (by decide)
  have hHE4 : w4.cell? ⟨g, 4, none⟩ = some (.int .i64 1) := HE.out.cellAt 4 (by decide)
  have hHE5 : w4.cell? ⟨g, 5, none⟩ = some (.int .i64 0) := HE.out.cellAt 5 (by decide)
  have hHE6 : w4.cell? ⟨g, 6, none⟩ = some (.int .i64 2) := HE.out.cellAt 6 (by decide)
  have hHE7 : w4.cell? ⟨g, 7, none⟩ = some (.int .i64 a1) := HE.out.cellAt 7 (by decide)
  have hHE8 : w4.cell? ⟨g, 8, none⟩ = some (.int .i64 1) := HE.out.cellAt 8 (by decide)
  have hHE9 : w4.cell? ⟨g, 9, none⟩ = some (.int .i64 1) := HE.out.cellAt 9 (by decide)
  have hHE10 : w4.cell? ⟨g, 10, none⟩ = some (.int .i64 3) := HE.out.cellAt 10 (by decide)
  have hHE11 : w4.cell? ⟨g, 11, none⟩ = some (.int .i64 a2) := HE.out.cellAt 11 (by decide)
  have hHE12 : w4.cell? ⟨g, 12, none⟩ = some (.int .i64 2) := HE.out.cellAt 12 (by decide)
  have hHE13 : w4.cell? ⟨g, 13, none⟩ = some (.int .i64 0) := HE.out.cellAt 13 (by decide)
  have hHE14 : w4.cell? ⟨g, 14, none⟩ = some (.int .i64 1) := HE.out.cellAt 14 (by decide)
  have hHE15 : w4.cell? ⟨g, 15, none⟩ = some (.int .i64 a3) := HE.out.cellAt 15 (by decide)
  have fzHE := fun j => HE.out.frozenAt j
  have ltHE : g < w4.heap.size := (HE.out.lt _ rfl).2
  go_wp2_with fail
  rw [rounds_succ]
  go_wp2_with fail
  go_ret
  exact ⟨rfl, HB.out⟩
set_option maxHeartbeats 8000000 in
set_option maxRecDepth 100000 in
theorem index_opn_two (g c b0 : Nat) (a0 a1 a2 a3 : Int) (db dd : Nat) (w : World) (hE : w.ownsRow b0 74 4 (.slice (some ⟨g, 0, none⟩) 4 c) 4 [.int .i64 0, .int .i64 0, .int .i64 1, .int .i64 a0, .int .i64 1, .int .i64 0, .int .i64 2, .int .i64 a1, .int .i64 1, .int .i64 1, .int .i64 3, .int .i64 a2, .int .i64 2, .int .i64 0, .int .i64 1, .int .i64 a3]) (hN : Blk w db #[.slice (some ⟨dd, 0, none⟩) 4 4] 41) (hL : Blk w dd #[.bool false, .bool false, .bool true, .bool false] 4) (hb0 : b0 ≤ w.heap.size) :
    Calls Try.prog 53 #[.slice (some ⟨g, 0, none⟩) 4 c, .func (.func 47) #[] #[.pointer (some ⟨db, 0, none⟩)]] w fun e w' => e = .returned (.int .i64 (1)) ∧ Below w.heap.size w w' := by
  have hu74 := Try.underlying74
  have HB : Aside0 (Below w.heap.size w w) := ⟨Below.refl _ _⟩
  have BN := Aside0.mk hN
  have BL := Aside0.mk hL
  have HE := Aside0.mk hE
  have HBB := Aside0.mk hb0
  clear hN hL hE hb0
  have hBN : ∀ i, w.cell? ⟨db, i, none⟩ = (#[.slice (some ⟨dd, 0, none⟩) 4 4] : Array Value)[i]? := fun i => blk_cell BN.out i
  have ltBN := blk_lt BN.out
  have hBL : ∀ i, w.cell? ⟨dd, i, none⟩ = (#[.bool false, .bool false, .bool true, .bool false] : Array Value)[i]? := fun i => blk_cell BL.out i
  have ltBL := blk_lt BL.out
  have hHE0 : w.cell? ⟨g, 0, none⟩ = some (.int .i64 0) := HE.out.cellAt 0 (by decide)
  have hHE1 : w.cell? ⟨g, 1, none⟩ = some (.int .i64 0) := HE.out.cellAt 1 (by decide)
  have hHE2 : w.cell? ⟨g, 2, none⟩ = some (.int .i64 1) := HE.out.cellAt 2 (by decide)
  have hHE3 : w.cell? ⟨g, 3, none⟩ = some (.int .i64 a0) := HE.out.cellAt 3 (by decide)
  have hHE4 : w.cell? ⟨g, 4, none⟩ = some (.int .i64 1) := HE.out.cellAt 4 (by decide)
  have hHE5 : w.cell? ⟨g, 5, none⟩ = some (.int .i64 0) := HE.out.cellAt 5 (by decide)
  have hHE6 : w.cell? ⟨g, 6, none⟩ = some (.int .i64 2) := HE.out.cellAt 6 (by decide)
  have hHE7 : w.cell? ⟨g, 7, none⟩ = some (.int .i64 a1) := HE.out.cellAt 7 (by decide)
  have hHE8 : w.cell? ⟨g, 8, none⟩ = some (.int .i64 1) := HE.out.cellAt 8 (by decide)
  have hHE9 : w.cell? ⟨g, 9, none⟩ = some (.int .i64 1) := HE.out.cellAt 9 (by decide)
  have hHE10 : w.cell? ⟨g, 10, none⟩ = some (.int .i64 3) := HE.out.cellAt 10 (by decide)
  have hHE11 : w.cell? ⟨g, 11, none⟩ = some (.int .i64 a2) := HE.out.cellAt 11 (by decide)
  have hHE12 : w.cell? ⟨g, 12, none⟩ = some (.int .i64 2) := HE.out.cellAt 12 (by decide)
  have hHE13 : w.cell? ⟨g, 13, none⟩ = some (.int .i64 0) := HE.out.cellAt 13 (by decide)
  have hHE14 : w.cell? ⟨g, 14, none⟩ = some (.int .i64 1) := HE.out.cellAt 14 (by decide)
  have hHE15 : w.cell? ⟨g, 15, none⟩ = some (.int .i64 a3) := HE.out.cellAt 15 (by decide)
  have fzHE := fun j => HE.out.frozenAt j
  have ltHE : g < w.heap.size := (HE.out.lt _ rfl).2
  go_enter Try.func53, Try.ntmps53
  go_wp2_with fail
  refine wp_loop_rounds 6 ?_
  rw [rounds_succ]
  go_wp2_with fail
  clear hBN ltBN hBL ltBL hHE0 hHE1 hHE2 hHE3 hHE4 hHE5 hHE6 hHE7 hHE8 hHE9 hHE10 hHE11 hHE12 hHE13 hHE14 hHE15 fzHE ltHE
  refine (opn_01 a0 db dd false false true false _ (blk_below BN.out (by repeat (first | with_reducible exact Below.refl _ _ | apply below_alloc | apply pw_below_drewN | apply below_drew1))) (blk_below BL.out (by repeat (first | with_reducible exact Below.refl _ _ | apply below_alloc | apply pw_below_drewN | apply below_drew1)))).mono ?_
  rintro e w1 ⟨rfl, hb⟩
  replace HB := Aside0.mk (below_step HB.out hb)
  replace BN := Aside0.mk (blk_below BN.out hb)
  replace BL := Aside0.mk (blk_below BL.out hb)
  replace HE := Aside0.mk (pw_own_below HE.out hb)
  clear hb
  have hBN : ∀ i, w1.cell? ⟨db, i, none⟩ = (#[.slice (some ⟨dd, 0, none⟩) 4 4] : Array Value)[i]? := fun i => blk_cell BN.out i
  have ltBN := blk_lt BN.out
  have hBL : ∀ i, w1.cell? ⟨dd, i, none⟩ = (#[.bool false, .bool false, .bool true, .bool false] : Array Value)[i]? := fun i => blk_cell BL.out i
  have ltBL := blk_lt BL.out
  have hHE0 : w1.cell? ⟨g, 0, none⟩ = some (.int .i64 0) := HE.out.cellAt 0 (by decide)
  have hHE1 : w1.cell? ⟨g, 1, none⟩ = some (.int .i64 0) := HE.out.cellAt 1 (by decide)
  have hHE2 : w1.cell? ⟨g, 2, none⟩ = some (.int .i64 1) := HE.out.cellAt 2 (by decide)
  have hHE3 : w1.cell? ⟨g, 3, none⟩ = some (.int .i64 a0) := HE.out.cellAt 3 (by decide)
  have hHE4 : w1.cell? ⟨g, 4, none⟩ = some (.int .i64 1) := HE.out.cellAt 4 (by decide)
  have hHE5 : w1.cell? ⟨g, 5, none⟩ = some (.int .i64 0) := HE.out.cellAt 5 (by decide)
  have hHE6 : w1.cell? ⟨g, 6, none⟩ = some (.int .i64 2) := HE.out.cellAt 6 (by decide)
  have hHE7 : w1.cell? ⟨g, 7, none⟩ = some (.int .i64 a1) := HE.out.cellAt 7 (by decide)
  have hHE8 : w1.cell? ⟨g, 8, none⟩ = some (.int .i64 1) := HE.out.cellAt 8 (by decide)
  have hHE9 : w1.cell? ⟨g, 9, none⟩ = some (.int .i64 1) := HE.out.cellAt 9 (by decide)
  have hHE10 : w1.cell? ⟨g, 10, none⟩ = some (.int .i64 3) := HE.out.cellAt 10 (by decide)
  have hHE11 : w1.cell? ⟨g, 11, none⟩ = some (.int .i64 a2) := HE.out.cellAt 11 (by decide)
  have hHE12 : w1.cell? ⟨g, 12, none⟩ = some (.int .i64 2) := HE.out.cellAt 12 (by decide)
  have hHE13 : w1.cell? ⟨g, 13, none⟩ = some (.int .i64 0) := HE.out.cellAt 13 (by decide)
  have hHE14 : w1.cell? ⟨g, 14, none⟩ = some (.int .i64 1) := HE.out.cellAt 14 (by decide)
  have hHE15 : w1.cell? ⟨g, 15, none⟩ = some (.int .i64 a3) := HE.out.cellAt 15 (by decide)
  have fzHE := fun j => HE.out.frozenAt j
  have ltHE : g < w1.heap.size := (HE.out.lt _ rfl).2
  go_wp2_with fail
  rw [rounds_succ]
  go_wp2_with fail
  clear hBN ltBN hBL ltBL hHE0 hHE1 hHE2 hHE3 hHE4 hHE5 hHE6 hHE7 hHE8 hHE9 hHE10 hHE11 hHE12 hHE13 hHE14 hHE15 fzHE ltHE
  refine (opn_12 a1 db dd false false true false _ (blk_below BN.out (by repeat (first | with_reducible exact Below.refl _ _ | apply below_alloc | apply pw_below_drewN | apply below_drew1))) (blk_below BL.out (by repeat (first | with_reducible exact Below.refl _ _ | apply below_alloc | apply pw_below_drewN | apply below_drew1)))).mono ?_
  rintro e w2 ⟨rfl, hb⟩
  replace HB := Aside0.mk (below_step HB.out hb)
  replace BN := Aside0.mk (blk_below BN.out hb)
  replace BL := Aside0.mk (blk_below BL.out hb)
  replace HE := Aside0.mk (pw_own_below HE.out hb)
  clear hb
  have hBN : ∀ i, w2.cell? ⟨db, i, none⟩ = (#[.slice (some ⟨dd, 0, none⟩) 4 4] : Array Value)[i]? := fun i => blk_cell BN.out i
  have ltBN := blk_lt BN.out
  have hBL : ∀ i, w2.cell? ⟨dd, i, none⟩ = (#[.bool false, .bool false, .bool true, .bool false] : Array Value)[i]? := fun i => blk_cell BL.out i
  have ltBL := blk_lt BL.out
  have hHE0 : w2.cell? ⟨g, 0, none⟩ = some (.int .i64 0) := HE.out.cellAt 0 (by decide)
  have hHE1 : w2.cell? ⟨g, 1, none⟩ = some (.int .i64 0) := HE.out.cellAt 1 (by decide)
  have hHE2 : w2.cell? ⟨g, 2, none⟩ = some (.int .i64 1) := HE.out.cellAt 2 (by decide)
  have hHE3 : w2.cell? ⟨g, 3, none⟩ = some (.int .i64 a0) := HE.out.cellAt 3 (by decide)
  have hHE4 : w2.cell? ⟨g, 4, none⟩ = some (.int .i64 1) := HE.out.cellAt 4 (by decide)
  have hHE5 : w2.cell? ⟨g, 5, none⟩ = some (.int .i64 0) := HE.out.cellAt 5 (by decide)
  have hHE6 : w2.cell? ⟨g, 6, none⟩ = some (.int .i64 2) := HE.out.cellAt 6 (by decide)
  have hHE7 : w2.cell? ⟨g, 7, none⟩ = some (.int .i64 a1) := HE.out.cellAt 7 (by decide)
  have hHE8 : w2.cell? ⟨g, 8, none⟩ = some (.int .i64 1) := HE.out.cellAt 8 (by decide)
  have hHE9 : w2.cell? ⟨g, 9, none⟩ = some (.int .i64 1) := HE.out.cellAt 9 (by decide)
  have hHE10 : w2.cell? ⟨g, 10, none⟩ = some (.int .i64 3) := HE.out.cellAt 10 (by decide)
  have hHE11 : w2.cell? ⟨g, 11, none⟩ = some (.int .i64 a2) := HE.out.cellAt 11 (by decide)
  have hHE12 : w2.cell? ⟨g, 12, none⟩ = some (.int .i64 2) := HE.out.cellAt 12 (by decide)
  have hHE13 : w2.cell? ⟨g, 13, none⟩ = some (.int .i64 0) := HE.out.cellAt 13 (by decide)
  have hHE14 : w2.cell? ⟨g, 14, none⟩ = some (.int .i64 1) := HE.out.cellAt 14 (by decide)
  have hHE15 : w2.cell? ⟨g, 15, none⟩ = some (.int .i64 a3) := HE.out.cellAt 15 (by decide)
  have fzHE := fun j => HE.out.frozenAt j
  have ltHE : g < w2.heap.size := (HE.out.lt _ rfl).2
  go_wp2_with fail
  go_ret
  exact ⟨rfl, HB.out⟩
set_option maxHeartbeats 8000000 in
set_option maxRecDepth 100000 in
theorem index_opn_all (g c b0 : Nat) (a0 a1 a2 a3 : Int) (db dd : Nat) (w : World) (hE : w.ownsRow b0 74 4 (.slice (some ⟨g, 0, none⟩) 4 c) 4 [.int .i64 0, .int .i64 0, .int .i64 1, .int .i64 a0, .int .i64 1, .int .i64 0, .int .i64 2, .int .i64 a1, .int .i64 1, .int .i64 1, .int .i64 3, .int .i64 a2, .int .i64 2, .int .i64 0, .int .i64 1, .int .i64 a3]) (hN : Blk w db #[.slice (some ⟨dd, 0, none⟩) 4 4] 41) (hL : Blk w dd #[.bool false, .bool true, .bool false, .bool false] 4) (hb0 : b0 ≤ w.heap.size) :
    Calls Try.prog 53 #[.slice (some ⟨g, 0, none⟩) 4 c, .func (.func 47) #[] #[.pointer (some ⟨db, 0, none⟩)]] w fun e w' => e = .returned (.int .i64 (0)) ∧ Below w.heap.size w w' := by
  have hu74 := Try.underlying74
  have HB : Aside0 (Below w.heap.size w w) := ⟨Below.refl _ _⟩
  have BN := Aside0.mk hN
  have BL := Aside0.mk hL
  have HE := Aside0.mk hE
  have HBB := Aside0.mk hb0
  clear hN hL hE hb0
  have hBN : ∀ i, w.cell? ⟨db, i, none⟩ = (#[.slice (some ⟨dd, 0, none⟩) 4 4] : Array Value)[i]? := fun i => blk_cell BN.out i
  have ltBN := blk_lt BN.out
  have hBL : ∀ i, w.cell? ⟨dd, i, none⟩ = (#[.bool false, .bool true, .bool false, .bool false] : Array Value)[i]? := fun i => blk_cell BL.out i
  have ltBL := blk_lt BL.out
  have hHE0 : w.cell? ⟨g, 0, none⟩ = some (.int .i64 0) := HE.out.cellAt 0 (by decide)
  have hHE1 : w.cell? ⟨g, 1, none⟩ = some (.int .i64 0) := HE.out.cellAt 1 (by decide)
  have hHE2 : w.cell? ⟨g, 2, none⟩ = some (.int .i64 1) := HE.out.cellAt 2 (by decide)
  have hHE3 : w.cell? ⟨g, 3, none⟩ = some (.int .i64 a0) := HE.out.cellAt 3 (by decide)
  have hHE4 : w.cell? ⟨g, 4, none⟩ = some (.int .i64 1) := HE.out.cellAt 4 (by decide)
  have hHE5 : w.cell? ⟨g, 5, none⟩ = some (.int .i64 0) := HE.out.cellAt 5 (by decide)
  have hHE6 : w.cell? ⟨g, 6, none⟩ = some (.int .i64 2) := HE.out.cellAt 6 (by decide)
  have hHE7 : w.cell? ⟨g, 7, none⟩ = some (.int .i64 a1) := HE.out.cellAt 7 (by decide)
  have hHE8 : w.cell? ⟨g, 8, none⟩ = some (.int .i64 1) := HE.out.cellAt 8 (by decide)
  have hHE9 : w.cell? ⟨g, 9, none⟩ = some (.int .i64 1) := HE.out.cellAt 9 (by decide)
  have hHE10 : w.cell? ⟨g, 10, none⟩ = some (.int .i64 3) := HE.out.cellAt 10 (by decide)
  have hHE11 : w.cell? ⟨g, 11, none⟩ = some (.int .i64 a2) := HE.out.cellAt 11 (by decide)
  have hHE12 : w.cell? ⟨g, 12, none⟩ = some (.int .i64 2) := HE.out.cellAt 12 (by decide)
  have hHE13 : w.cell? ⟨g, 13, none⟩ = some (.int .i64 0) := HE.out.cellAt 13 (by decide)
  have hHE14 : w.cell? ⟨g, 14, none⟩ = some (.int .i64 1) := HE.out.cellAt 14 (by decide)
  have hHE15 : w.cell? ⟨g, 15, none⟩ = some (.int .i64 a3) := HE.out.cellAt 15 (by decide)
  have fzHE := fun j => HE.out.frozenAt j
  have ltHE : g < w.heap.size := (HE.out.lt _ rfl).2
  go_enter Try.func53, Try.ntmps53
  go_wp2_with fail
  refine wp_loop_rounds 6 ?_
  rw [rounds_succ]
  go_wp2_with fail
  clear hBN ltBN hBL ltBL hHE0 hHE1 hHE2 hHE3 hHE4 hHE5 hHE6 hHE7 hHE8 hHE9 hHE10 hHE11 hHE12 hHE13 hHE14 hHE15 fzHE ltHE
  refine (opn_01 a0 db dd false true false false _ (blk_below BN.out (by repeat (first | with_reducible exact Below.refl _ _ | apply below_alloc | apply pw_below_drewN | apply below_drew1))) (blk_below BL.out (by repeat (first | with_reducible exact Below.refl _ _ | apply below_alloc | apply pw_below_drewN | apply below_drew1)))).mono ?_
  rintro e w1 ⟨rfl, hb⟩
  replace HB := Aside0.mk (below_step HB.out hb)
  replace BN := Aside0.mk (blk_below BN.out hb)
  replace BL := Aside0.mk (blk_below BL.out hb)
  replace HE := Aside0.mk (pw_own_below HE.out hb)
  clear hb
  have hBN : ∀ i, w1.cell? ⟨db, i, none⟩ = (#[.slice (some ⟨dd, 0, none⟩) 4 4] : Array Value)[i]? := fun i => blk_cell BN.out i
  have ltBN := blk_lt BN.out
  have hBL : ∀ i, w1.cell? ⟨dd, i, none⟩ = (#[.bool false, .bool true, .bool false, .bool false] : Array Value)[i]? := fun i => blk_cell BL.out i
  have ltBL := blk_lt BL.out
  have hHE0 : w1.cell? ⟨g, 0, none⟩ = some (.int .i64 0) := HE.out.cellAt 0 (by decide)
  have hHE1 : w1.cell? ⟨g, 1, none⟩ = some (.int .i64 0) := HE.out.cellAt 1 (by decide)
  have hHE2 : w1.cell? ⟨g, 2, none⟩ = some (.int .i64 1) := HE.out.cellAt 2 (by decide)
  have hHE3 : w1.cell? ⟨g, 3, none⟩ = some (.int .i64 a0) := HE.out.cellAt 3 (by decide)
  have hHE4 : w1.cell? ⟨g, 4, none⟩ = some (.int .i64 1) := HE.out.cellAt 4 (by decide)
  have hHE5 : w1.cell? ⟨g, 5, none⟩ = some (.int .i64 0) := HE.out.cellAt 5 (by decide)
  have hHE6 : w1.cell? ⟨g, 6, none⟩ = some (.int .i64 2) := HE.out.cellAt 6 (by decide)
  have hHE7 : w1.cell? ⟨g, 7, none⟩ = some (.int .i64 a1) := HE.out.cellAt 7 (by decide)
  have hHE8 : w1.cell? ⟨g, 8, none⟩ = some (.int .i64 1) := HE.out.cellAt 8 (by decide)
  have hHE9 : w1.cell? ⟨g, 9, none⟩ = some (.int .i64 1) := HE.out.cellAt 9 (by decide)
  have hHE10 : w1.cell? ⟨g, 10, none⟩ = some (.int .i64 3) := HE.out.cellAt 10 (by decide)
  have hHE11 : w1.cell? ⟨g, 11, none⟩ = some (.int .i64 a2) := HE.out.cellAt 11 (by decide)
  have hHE12 : w1.cell? ⟨g, 12, none⟩ = some (.int .i64 2) := HE.out.cellAt 12 (by decide)
  have hHE13 : w1.cell? ⟨g, 13, none⟩ = some (.int .i64 0) := HE.out.cellAt 13 (by decide)
  have hHE14 : w1.cell? ⟨g, 14, none⟩ = some (.int .i64 1) := HE.out.cellAt 14 (by decide)
  have hHE15 : w1.cell? ⟨g, 15, none⟩ = some (.int .i64 a3) := HE.out.cellAt 15 (by decide)
  have fzHE := fun j => HE.out.frozenAt j
  have ltHE : g < w1.heap.size := (HE.out.lt _ rfl).2
  go_wp2_with fail
  go_ret
  exact ⟨rfl, HB.out⟩
set_option maxHeartbeats 8000000 in
set_option maxRecDepth 100000 in
theorem index_ins_four (g c b0 : Nat) (a0 a1 a2 a3 : Int) (nb ln : Nat) (w : World) (hE : w.ownsRow b0 74 4 (.slice (some ⟨g, 0, none⟩) 4 c) 4 [.int .i64 0, .int .i64 0, .int .i64 1, .int .i64 a0, .int .i64 1, .int .i64 0, .int .i64 2, .int .i64 a1, .int .i64 1, .int .i64 1, .int .i64 3, .int .i64 a2, .int .i64 2, .int .i64 0, .int .i64 1, .int .i64 a3]) (hN : Blk w nb #[.slice (some ⟨ln, 0, none⟩) 2 2] 29) (hL : Blk w ln #[.int .i64 1, .int .i64 2] 3) (hb0 : b0 ≤ w.heap.size) :
    Calls Try.prog 53 #[.slice (some ⟨g, 0, none⟩) 4 c, .func (.func 46) #[] #[.pointer (some ⟨nb, 0, none⟩)]] w fun e w' => e = .returned (.int .i64 (0)) ∧ Below w.heap.size w w' := by
  have hu74 := Try.underlying74
  have HB : Aside0 (Below w.heap.size w w) := ⟨Below.refl _ _⟩
  have BN := Aside0.mk hN
  have BL := Aside0.mk hL
  have HE := Aside0.mk hE
  have HBB := Aside0.mk hb0
  clear hN hL hE hb0
  have hBN : ∀ i, w.cell? ⟨nb, i, none⟩ = (#[.slice (some ⟨ln, 0, none⟩) 2 2] : Array Value)[i]? := fun i => blk_cell BN.out i
  have ltBN := blk_lt BN.out
  have hBL : ∀ i, w.cell? ⟨ln, i, none⟩ = (#[.int .i64 1, .int .i64 2] : Array Value)[i]? := fun i => blk_cell BL.out i
  have ltBL := blk_lt BL.out
  have hHE0 : w.cell? ⟨g, 0, none⟩ = some (.int .i64 0) := HE.out.cellAt 0 (by decide)
  have hHE1 : w.cell? ⟨g, 1, none⟩ = some (.int .i64 0) := HE.out.cellAt 1 (by decide)
  have hHE2 : w.cell? ⟨g, 2, none⟩ = some (.int .i64 1) := HE.out.cellAt 2 (by decide)
  have hHE3 : w.cell? ⟨g, 3, none⟩ = some (.int .i64 a0) := HE.out.cellAt 3 (by decide)
  have hHE4 : w.cell? ⟨g, 4, none⟩ = some (.int .i64 1) := HE.out.cellAt 4 (by decide)
  have hHE5 : w.cell? ⟨g, 5, none⟩ = some (.int .i64 0) := HE.out.cellAt 5 (by decide)
  have hHE6 : w.cell? ⟨g, 6, none⟩ = some (.int .i64 2) := HE.out.cellAt 6 (by decide)
  have hHE7 : w.cell? ⟨g, 7, none⟩ = some (.int .i64 a1) := HE.out.cellAt 7 (by decide)
  have hHE8 : w.cell? ⟨g, 8, none⟩ = some (.int .i64 1) := HE.out.cellAt 8 (by decide)
  have hHE9 : w.cell? ⟨g, 9, none⟩ = some (.int .i64 1) := HE.out.cellAt 9 (by decide)
  have hHE10 : w.cell? ⟨g, 10, none⟩ = some (.int .i64 3) := HE.out.cellAt 10 (by decide)
  have hHE11 : w.cell? ⟨g, 11, none⟩ = some (.int .i64 a2) := HE.out.cellAt 11 (by decide)
  have hHE12 : w.cell? ⟨g, 12, none⟩ = some (.int .i64 2) := HE.out.cellAt 12 (by decide)
  have hHE13 : w.cell? ⟨g, 13, none⟩ = some (.int .i64 0) := HE.out.cellAt 13 (by decide)
  have hHE14 : w.cell? ⟨g, 14, none⟩ = some (.int .i64 1) := HE.out.cellAt 14 (by decide)
  have hHE15 : w.cell? ⟨g, 15, none⟩ = some (.int .i64 a3) := HE.out.cellAt 15 (by decide)
  have fzHE := fun j => HE.out.frozenAt j
  have ltHE : g < w.heap.size := (HE.out.lt _ rfl).2
  go_enter Try.func53, Try.ntmps53
  go_wp2_with fail
  refine wp_loop_rounds 6 ?_
  rw [rounds_succ]
  go_wp2_with fail
  clear hBN ltBN hBL ltBL hHE0 hHE1 hHE2 hHE3 hHE4 hHE5 hHE6 hHE7 hHE8 hHE9 hHE10 hHE11 hHE12 hHE13 hHE14 hHE15 fzHE ltHE
  refine (ins_01 a0 nb ln _ (blk_below BN.out (by repeat (first | with_reducible exact Below.refl _ _ | apply below_alloc | apply pw_below_drewN | apply below_drew1))) (blk_below BL.out (by repeat (first | with_reducible exact Below.refl _ _ | apply below_alloc | apply pw_below_drewN | apply below_drew1)))).mono ?_
  rintro e w1 ⟨rfl, hb⟩
  replace HB := Aside0.mk (below_step HB.out hb)
  replace BN := Aside0.mk (blk_below BN.out hb)
  replace BL := Aside0.mk (blk_below BL.out hb)
  replace HE := Aside0.mk (pw_own_below HE.out hb)
  clear hb
  have hBN : ∀ i, w1.cell? ⟨nb, i, none⟩ = (#[.slice (some ⟨ln, 0, none⟩) 2 2] : Array Value)[i]? := fun i => blk_cell BN.out i
  have ltBN := blk_lt BN.out
  have hBL : ∀ i, w1.cell? ⟨ln, i, none⟩ = (#[.int .i64 1, .int .i64 2] : Array Value)[i]? := fun i => blk_cell BL.out i
  have ltBL := blk_lt BL.out
  have hHE0 : w1.cell? ⟨g, 0, none⟩ = some (.int .i64 0) := HE.out.cellAt 0 (by decide)
  have hHE1 : w1.cell? ⟨g, 1, none⟩ = some (.int .i64 0) := HE.out.cellAt 1 (by decide)
  have hHE2 : w1.cell? ⟨g, 2, none⟩ = some (.int .i64 1) := HE.out.cellAt 2 (by decide)
  have hHE3 : w1.cell? ⟨g, 3, none⟩ = some (.int .i64 a0) := HE.out.cellAt 3 (by decide)
  have hHE4 : w1.cell? ⟨g, 4, none⟩ = some (.int .i64 1) := HE.out.cellAt 4 (by decide)
  have hHE5 : w1.cell? ⟨g, 5, none⟩ = some (.int .i64 0) := HE.out.cellAt 5 (by decide)
  have hHE6 : w1.cell? ⟨g, 6, none⟩ = some (.int .i64 2) := HE.out.cellAt 6 (by decide)
  have hHE7 : w1.cell? ⟨g, 7, none⟩ = some (.int .i64 a1) := HE.out.cellAt 7 (by decide)
  have hHE8 : w1.cell? ⟨g, 8, none⟩ = some (.int .i64 1) := HE.out.cellAt 8 (by decide)
  have hHE9 : w1.cell? ⟨g, 9, none⟩ = some (.int .i64 1) := HE.out.cellAt 9 (by decide)
  have hHE10 : w1.cell? ⟨g, 10, none⟩ = some (.int .i64 3) := HE.out.cellAt 10 (by decide)
  have hHE11 : w1.cell? ⟨g, 11, none⟩ = some (.int .i64 a2) := HE.out.cellAt 11 (by decide)
  have hHE12 : w1.cell? ⟨g, 12, none⟩ = some (.int .i64 2) := HE.out.cellAt 12 (by decide)
  have hHE13 : w1.cell? ⟨g, 13, none⟩ = some (.int .i64 0) := HE.out.cellAt 13 (by decide)
  have hHE14 : w1.cell? ⟨g, 14, none⟩ = some (.int .i64 1) := HE.out.cellAt 14 (by decide)
  have hHE15 : w1.cell? ⟨g, 15, none⟩ = some (.int .i64 a3) := HE.out.cellAt 15 (by decide)
  have fzHE := fun j => HE.out.frozenAt j
  have ltHE : g < w1.heap.size := (HE.out.lt _ rfl).2
  go_wp2_with fail
  go_ret
  exact ⟨rfl, HB.out⟩
set_option maxHeartbeats 8000000 in
set_option maxRecDepth 100000 in
theorem index_ins_two (g c b0 : Nat) (a0 a2 : Int) (nb ln : Nat) (w : World) (hE : w.ownsRow b0 74 4 (.slice (some ⟨g, 0, none⟩) 2 c) 2 [.int .i64 0, .int .i64 0, .int .i64 1, .int .i64 a0, .int .i64 1, .int .i64 1, .int .i64 3, .int .i64 a2]) (hN : Blk w nb #[.slice (some ⟨ln, 0, none⟩) 2 2] 29) (hL : Blk w ln #[.int .i64 1, .int .i64 2] 3) (hb0 : b0 ≤ w.heap.size) :
    Calls Try.prog 53 #[.slice (some ⟨g, 0, none⟩) 2 c, .func (.func 46) #[] #[.pointer (some ⟨nb, 0, none⟩)]] w fun e w' => e = .returned (.int .i64 (0)) ∧ Below w.heap.size w w' := by
  have hu74 := Try.underlying74
  have HB : Aside0 (Below w.heap.size w w) := ⟨Below.refl _ _⟩
  have BN := Aside0.mk hN
  have BL := Aside0.mk hL
  have HE := Aside0.mk hE
  have HBB := Aside0.mk hb0
  clear hN hL hE hb0
  have hBN : ∀ i, w.cell? ⟨nb, i, none⟩ = (#[.slice (some ⟨ln, 0, none⟩) 2 2] : Array Value)[i]? := fun i => blk_cell BN.out i
  have ltBN := blk_lt BN.out
  have hBL : ∀ i, w.cell? ⟨ln, i, none⟩ = (#[.int .i64 1, .int .i64 2] : Array Value)[i]? := fun i => blk_cell BL.out i
  have ltBL := blk_lt BL.out
  have hHE0 : w.cell? ⟨g, 0, none⟩ = some (.int .i64 0) := HE.out.cellAt 0 (by decide)
  have hHE1 : w.cell? ⟨g, 1, none⟩ = some (.int .i64 0) := HE.out.cellAt 1 (by decide)
  have hHE2 : w.cell? ⟨g, 2, none⟩ = some (.int .i64 1) := HE.out.cellAt 2 (by decide)
  have hHE3 : w.cell? ⟨g, 3, none⟩ = some (.int .i64 a0) := HE.out.cellAt 3 (by decide)
  have hHE4 : w.cell? ⟨g, 4, none⟩ = some (.int .i64 1) := HE.out.cellAt 4 (by decide)
  have hHE5 : w.cell? ⟨g, 5, none⟩ = some (.int .i64 1) := HE.out.cellAt 5 (by decide)
  have hHE6 : w.cell? ⟨g, 6, none⟩ = some (.int .i64 3) := HE.out.cellAt 6 (by decide)
  have hHE7 : w.cell? ⟨g, 7, none⟩ = some (.int .i64 a2) := HE.out.cellAt 7 (by decide)
  have fzHE := fun j => HE.out.frozenAt j
  have ltHE : g < w.heap.size := (HE.out.lt _ rfl).2
  go_enter Try.func53, Try.ntmps53
  go_wp2_with fail
  refine wp_loop_rounds 6 ?_
  rw [rounds_succ]
  go_wp2_with fail
  clear hBN ltBN hBL ltBL hHE0 hHE1 hHE2 hHE3 hHE4 hHE5 hHE6 hHE7 fzHE ltHE
  refine (ins_01 a0 nb ln _ (blk_below BN.out (by repeat (first | with_reducible exact Below.refl _ _ | apply below_alloc | apply pw_below_drewN | apply below_drew1))) (blk_below BL.out (by repeat (first | with_reducible exact Below.refl _ _ | apply below_alloc | apply pw_below_drewN | apply below_drew1)))).mono ?_
  rintro e w1 ⟨rfl, hb⟩
  replace HB := Aside0.mk (below_step HB.out hb)
  replace BN := Aside0.mk (blk_below BN.out hb)
  replace BL := Aside0.mk (blk_below BL.out hb)
  replace HE := Aside0.mk (pw_own_below HE.out hb)
  clear hb
  have hBN : ∀ i, w1.cell? ⟨nb, i, none⟩ = (#[.slice (some ⟨ln, 0, none⟩) 2 2] : Array Value)[i]? := fun i => blk_cell BN.out i
  have ltBN := blk_lt BN.out
  have hBL : ∀ i, w1.cell? ⟨ln, i, none⟩ = (#[.int .i64 1, .int .i64 2] : Array Value)[i]? := fun i => blk_cell BL.out i
  have ltBL := blk_lt BL.out
  have hHE0 : w1.cell? ⟨g, 0, none⟩ = some (.int .i64 0) := HE.out.cellAt 0 (by decide)
  have hHE1 : w1.cell? ⟨g, 1, none⟩ = some (.int .i64 0) := HE.out.cellAt 1 (by decide)
  have hHE2 : w1.cell? ⟨g, 2, none⟩ = some (.int .i64 1) := HE.out.cellAt 2 (by decide)
  have hHE3 : w1.cell? ⟨g, 3, none⟩ = some (.int .i64 a0) := HE.out.cellAt 3 (by decide)
  have hHE4 : w1.cell? ⟨g, 4, none⟩ = some (.int .i64 1) := HE.out.cellAt 4 (by decide)
  have hHE5 : w1.cell? ⟨g, 5, none⟩ = some (.int .i64 1) := HE.out.cellAt 5 (by decide)
  have hHE6 : w1.cell? ⟨g, 6, none⟩ = some (.int .i64 3) := HE.out.cellAt 6 (by decide)
  have hHE7 : w1.cell? ⟨g, 7, none⟩ = some (.int .i64 a2) := HE.out.cellAt 7 (by decide)
  have fzHE := fun j => HE.out.frozenAt j
  have ltHE : g < w1.heap.size := (HE.out.lt _ rfl).2
  go_wp2_with fail
  go_ret
  exact ⟨rfl, HB.out⟩
end Go.Proofs.Ytbeochkimihglaa.PHl
