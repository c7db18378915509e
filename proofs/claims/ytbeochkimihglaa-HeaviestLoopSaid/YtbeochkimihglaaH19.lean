/- turned over edges. -/
import Derived.Test.YtbeochkimihglaaH18
import Derived.Outline
import Derived.Deep.CutRange
namespace Go.Proofs.Ytbeochkimihglaa.PHl
open Go.RowKit Go.Proofs.YtbeochkimihglaaW.PrintWords Go.Proofs.YtbeochkimihglaaW.PrintLast Go.Proofs.YtbeochkimihglaaW.PrintMore
set_option linter.unusedVariables false
set_option linter.unusedSimpArgs false
set_option maxHeartbeats 8000000 in
set_option maxRecDepth 100000 in
theorem turned_four (bs ge c : Nat) (a0 a1 a2 a3 : Int) (w : World) (hE : w.ownsRow bs 74 4 (.slice (some ⟨ge, 0, none⟩) 4 c) 4 [.int .i64 0, .int .i64 0, .int .i64 1, .int .i64 a0, .int .i64 1, .int .i64 0, .int .i64 2, .int .i64 a1, .int .i64 1, .int .i64 1, .int .i64 3, .int .i64 a2, .int .i64 2, .int .i64 0, .int .i64 1, .int .i64 a3]) :
    Calls Try.prog 28 #[.slice (some ⟨ge, 0, none⟩) 4 c] w fun e w' => ∃ g c', e = .returned (.slice (some ⟨g, 0, none⟩) 4 c') ∧ w'.ownsRow w.heap.size 74 4 (.slice (some ⟨g, 0, none⟩) 4 c') 4 [.int .i64 1, .int .i64 0, .int .i64 0, .int .i64 a0, .int .i64 2, .int .i64 0, .int .i64 1, .int .i64 a1, .int .i64 3, .int .i64 1, .int .i64 1, .int .i64 a2, .int .i64 1, .int .i64 0, .int .i64 2, .int .i64 a3] ∧ Below w.heap.size w w' := by
  have hu74 := Try.underlying74
  have HB : Aside0 (Below w.heap.size w w) := ⟨Below.refl _ _⟩
  have hx := hE.cells (g := ge) rfl
  clear hE
  go_enter Try.func28, Try.ntmps28
  go_wp2_with fail
  refine (clone_calls ge 4 c [.int .i64 0, .int .i64 0, .int .i64 1, .int .i64 a0, .int .i64 1, .int .i64 0, .int .i64 2, .int .i64 a1, .int .i64 1, .int .i64 1, .int .i64 3, .int .i64 a2, .int .i64 2, .int .i64 0, .int .i64 1, .int .i64 a3] _ hx rfl (oneL [0, 0, 1, a0, 1, 0, 2, a1, 1, 1, 3, a2, 2, 0, 1, a3]) (by decide)).mono ?_
  rintro e w1 ⟨g, c1, rfl, ho, hb⟩
  replace HB := Aside0.mk (HB.out.trans hb)
  have HE := Aside0.mk ho
  have HGB : Aside0 (w.heap.size ≤ g) := ⟨own_base ho g rfl⟩
  clear ho hb hx
  have hHE0 : w1.cell? ⟨g, 0, none⟩ = some (.int .i64 0) := HE.out.cellAt 0 (by decide)
  have hHE1 : w1.cell? ⟨g, 1, none⟩ = some (.int .i64 0) := HE.out.cellAt 1 (by decide)
  have hHE2 : w1.cell? ⟨g, 2, none⟩ = some (.int .i64 1) := HE.out.cellAt 2 (by decide)
  have hHE3 : w1.cell? ⟨g, 3, none⟩ = some (.int .i64 a0) := HE.out.cellAt 3 (by decide)
  have hHE4 : w1.cell? ⟨g, 4, none⟩ = some (.int .i64 1) := HE.out.cellAt 4 (by decide)
  have hHE5 : w1.cell? ⟨g, 5, none⟩ = some (.int .i64 0) := HE.out.cellAt 5 (by decide)
  have hHE6 : w1.cell? ⟨g, 6, none⟩ = some (.int .i64 2) := HE.out.cellAt 6 (by decide)
  have hHE7 : w1.cell? ⟨g, 7, none⟩ = some (.int .i64 a1) := HE.out.cellAt 7 (by decide)
  have hHE8 : w1.cell? ⟨g, 8, none⟩ = some (.int .i64 1) := HE.out.cellAt 8 (by decide)
  have hHE9 : w1.cell? ⟨g, 9, none⟩ = some (.int .i64 1) := HE.out.cellAt 9 (by decide)
  have hHE10 : w1.cell? ⟨g, 10, none⟩ = some (.int .i64 3) := HE.out.cellAt 10 (by decide)
  have hHE11 : w1.cell? ⟨g, 11, none⟩ = some (.int .i64 a2) := HE.out.cellAt 11 (by decide)
  have hHE12 : w1.cell? ⟨g, 12, none⟩ = some (.int .i64 2) := HE.out.cellAt 12 (by decide)
  have hHE13 : w1.cell? ⟨g, 13, none⟩ = some (.int .i64 0) := HE.out.cellAt 13 (by decide)
  have hHE14 : w1.cell? ⟨g, 14, none⟩ = some (.int .i64 1) := HE.out.cellAt 14 (by decide)
  have hHE15 : w1.cell? ⟨g, 15, none⟩ = some (.int .i64 a3) := HE.out.cellAt 15 (by decide)
  have fzHE := fun j => HE.out.frozenAt j
  have ltg : g < w1.heap.size := (HE.out.lt _ rfl).2
  have ltgA : ∀ k, g < w1.heap.size + k := fun k => by omega
  go_wp2_with fail
  refine wp_loop_rounds 6 ?_
  rw [rounds_succ]
  go_upto_block 1 with (fail)
  go_cut [4, 5] from 12 to 26 (fun _ _ wx => wx.ownsRow w.heap.size 74 4 (.slice (some ⟨g, 0, none⟩) 4 c1) 4 [.int .i64 1, .int .i64 0, .int .i64 0, .int .i64 a0, .int .i64 1, .int .i64 0, .int .i64 2, .int .i64 a1, .int .i64 1, .int .i64 1, .int .i64 3, .int .i64 a2, .int .i64 2, .int .i64 0, .int .i64 1, .int .i64 a3] ∧ Below w.heap.size w wx)
  case first =>
    go_upto_region 5 with (fail)
    clear hHE0 hHE1 hHE2 hHE3 hHE4 hHE5 hHE6 hHE7 hHE8 hHE9 hHE10 hHE11 hHE12 hHE13 hHE14 hHE15 fzHE ltg ltgA
    have hbv : Below w.heap.size w (w1.alloc (.cells #[.int .i64 0, .int .i64 0, .int .i64 1, .int .i64 a0] 74)) := below_alloc HB.out _
    have BV : Aside0 (Blk (w1.alloc (.cells #[.int .i64 0, .int .i64 0, .int .i64 1, .int .i64 a0] 74)) w1.heap.size #[.int .i64 0, .int .i64 0, .int .i64 1, .int .i64 a0] 74) := ⟨heap_alloc_new _ _⟩
    have HW : Aside0 (g < w1.heap.size) := ⟨(HE.out.lt _ rfl).2⟩
    have hov := own_alloc HE.out (.cells #[.int .i64 0, .int .i64 0, .int .i64 1, .int .i64 a0] 74)
    generalize w1.alloc (.cells #[.int .i64 0, .int .i64 0, .int .i64 1, .int .i64 a0] 74) = wv0 at hbv BV hov ⊢
    replace HB := Aside0.mk hbv
    replace HE := Aside0.mk hov
    clear hbv hov
    have hHE0 : wv0.cell? ⟨g, 0, none⟩ = some (.int .i64 0) := HE.out.cellAt 0 (by decide)
    have hHE1 : wv0.cell? ⟨g, 1, none⟩ = some (.int .i64 0) := HE.out.cellAt 1 (by decide)
    have hHE2 : wv0.cell? ⟨g, 2, none⟩ = some (.int .i64 1) := HE.out.cellAt 2 (by decide)
    have hHE3 : wv0.cell? ⟨g, 3, none⟩ = some (.int .i64 a0) := HE.out.cellAt 3 (by decide)
    have hHE4 : wv0.cell? ⟨g, 4, none⟩ = some (.int .i64 1) := HE.out.cellAt 4 (by decide)
    have hHE5 : wv0.cell? ⟨g, 5, none⟩ = some (.int .i64 0) := HE.out.cellAt 5 (by decide)
    have hHE6 : wv0.cell? ⟨g, 6, none⟩ = some (.int .i64 2) := HE.out.cellAt 6 (by decide)
    have hHE7 : wv0.cell? ⟨g, 7, none⟩ = some (.int .i64 a1) := HE.out.cellAt 7 (by decide)
    have hHE8 : wv0.cell? ⟨g, 8, none⟩ = some (.int .i64 1) := HE.out.cellAt 8 (by decide)
    have hHE9 : wv0.cell? ⟨g, 9, none⟩ = some (.int .i64 1) := HE.out.cellAt 9 (by decide)
    have hHE10 : wv0.cell? ⟨g, 10, none⟩ = some (.int .i64 3) := HE.out.cellAt 10 (by decide)
    have hHE11 : wv0.cell? ⟨g, 11, none⟩ = some (.int .i64 a2) := HE.out.cellAt 11 (by decide)
    have hHE12 : wv0.cell? ⟨g, 12, none⟩ = some (.int .i64 2) := HE.out.cellAt 12 (by decide)
    have hHE13 : wv0.cell? ⟨g, 13, none⟩ = some (.int .i64 0) := HE.out.cellAt 13 (by decide)
    have hHE14 : wv0.cell? ⟨g, 14, none⟩ = some (.int .i64 1) := HE.out.cellAt 14 (by decide)
    have hHE15 : wv0.cell? ⟨g, 15, none⟩ = some (.int .i64 a3) := HE.out.cellAt 15 (by decide)
    have fzHE := fun j => HE.out.frozenAt j
    have ltg : g < wv0.heap.size := (HE.out.lt _ rfl).2
    have ltgA : ∀ k, g < wv0.heap.size + k := fun k => by omega
    have hBV := fun i => blk_cell BV.out i
    have hgW := HW.out
    have hgV : w1.heap.size < wv0.heap.size := blk_lt BV.out
    go_region
    all_goals
      go_wp2_with fail
      go_meet
      first
        | exact ⟨World.ownsRow.drew (World.ownsRow.stored (World.ownsRow.stored HE.out 0 (.int .i64 1)).1 2 (.int .i64 0)).1, below_drew (bset (bset HB.out HGB.out 0 (.int .i64 1)) HGB.out 2 (.int .i64 0))⟩
        | exact ⟨World.ownsRow.drew (World.ownsRow.stored (World.ownsRow.stored HE.out 2 (.int .i64 0)).1 0 (.int .i64 1)).1, below_drew (bset (bset HB.out HGB.out 2 (.int .i64 0)) HGB.out 0 (.int .i64 1))⟩
  obtain ⟨ho, hb⟩ := hcut
  clear hHE0 hHE1 hHE2 hHE3 hHE4 hHE5 hHE6 hHE7 hHE8 hHE9 hHE10 hHE11 hHE12 hHE13 hHE14 hHE15 fzHE ltg ltgA
  replace HE := Aside0.mk ho
  replace HB := Aside0.mk hb
  clear ho hb
  obtain ⟨ww0, hww⟩ : ∃ x, x = wc := ⟨_, rfl⟩
  subst hww
  have hHE0 : ww0.cell? ⟨g, 0, none⟩ = some (.int .i64 1) := HE.out.cellAt 0 (by decide)
  have hHE1 : ww0.cell? ⟨g, 1, none⟩ = some (.int .i64 0) := HE.out.cellAt 1 (by decide)
  have hHE2 : ww0.cell? ⟨g, 2, none⟩ = some (.int .i64 0) := HE.out.cellAt 2 (by decide)
  have hHE3 : ww0.cell? ⟨g, 3, none⟩ = some (.int .i64 a0) := HE.out.cellAt 3 (by decide)
  have hHE4 : ww0.cell? ⟨g, 4, none⟩ = some (.int .i64 1) := HE.out.cellAt 4 (by decide)
  have hHE5 : ww0.cell? ⟨g, 5, none⟩ = some (.int .i64 0) := HE.out.cellAt 5 (by decide)
  have hHE6 : ww0.cell? ⟨g, 6, none⟩ = some (.int .i64 2) := HE.out.cellAt 6 (by decide)
  have hHE7 : ww0.cell? ⟨g, 7, none⟩ = some (.int .i64 a1) := HE.out.cellAt 7 (by decide)
  have hHE8 : ww0.cell? ⟨g, 8, none⟩ = some (.int .i64 1) := HE.out.cellAt 8 (by decide)
  have hHE9 : ww0.cell? ⟨g, 9, none⟩ = some (.int .i64 1) := HE.out.cellAt 9 (by decide)
  have hHE10 : ww0.cell? ⟨g, 10, none⟩ = some (.int .i64 3) := HE.out.cellAt 10 (by decide)
  have hHE11 : ww0.cell? ⟨g, 11, none⟩ = some (.int .i64 a2) := HE.out.cellAt 11 (by decide)
  have hHE12 : ww0.cell? ⟨g, 12, none⟩ = some (.int .i64 2) := HE.out.cellAt 12 (by decide)
  have hHE13 : ww0.cell? ⟨g, 13, none⟩ = some (.int .i64 0) := HE.out.cellAt 13 (by decide)
  have hHE14 : ww0.cell? ⟨g, 14, none⟩ = some (.int .i64 1) := HE.out.cellAt 14 (by decide)
  have hHE15 : ww0.cell? ⟨g, 15, none⟩ = some (.int .i64 a3) := HE.out.cellAt 15 (by decide)
  have fzHE := fun j => HE.out.frozenAt j
  have ltg : g < ww0.heap.size := (HE.out.lt _ rfl).2
  have ltgA : ∀ k, g < ww0.heap.size + k := fun k => by omega
  go_wp2_with fail
  rw [rounds_succ]
  go_upto_block 1 with (fail)
  go_cut [4, 5] from 12 to 26 (fun _ _ wx => wx.ownsRow w.heap.size 74 4 (.slice (some ⟨g, 0, none⟩) 4 c1) 4 [.int .i64 1, .int .i64 0, .int .i64 0, .int .i64 a0, .int .i64 2, .int .i64 0, .int .i64 1, .int .i64 a1, .int .i64 1, .int .i64 1, .int .i64 3, .int .i64 a2, .int .i64 2, .int .i64 0, .int .i64 1, .int .i64 a3] ∧ Below w.heap.size w wx)
  case first =>
    go_upto_region 5 with (fail)
    clear hHE0 hHE1 hHE2 hHE3 hHE4 hHE5 hHE6 hHE7 hHE8 hHE9 hHE10 hHE11 hHE12 hHE13 hHE14 hHE15 fzHE ltg ltgA
    have hbv : Below w.heap.size w (ww0.alloc (.cells #[.int .i64 1, .int .i64 0, .int .i64 2, .int .i64 a1] 74)) := below_alloc HB.out _
    have BV : Aside0 (Blk (ww0.alloc (.cells #[.int .i64 1, .int .i64 0, .int .i64 2, .int .i64 a1] 74)) ww0.heap.size #[.int .i64 1, .int .i64 0, .int .i64 2, .int .i64 a1] 74) := ⟨heap_alloc_new _ _⟩
    have HW : Aside0 (g < ww0.heap.size) := ⟨(HE.out.lt _ rfl).2⟩
    have hov := own_alloc HE.out (.cells #[.int .i64 1, .int .i64 0, .int .i64 2, .int .i64 a1] 74)
    generalize ww0.alloc (.cells #[.int .i64 1, .int .i64 0, .int .i64 2, .int .i64 a1] 74) = wv1 at hbv BV hov ⊢
    replace HB := Aside0.mk hbv
    replace HE := Aside0.mk hov
    clear hbv hov
    have hHE0 : wv1.cell? ⟨g, 0, none⟩ = some (.int .i64 1) := HE.out.cellAt 0 (by decide)
    have hHE1 : wv1.cell? ⟨g, 1, none⟩ = some (.int .i64 0) := HE.out.cellAt 1 (by decide)
    have hHE2 : wv1.cell? ⟨g, 2, none⟩ = some (.int .i64 0) := HE.out.cellAt 2 (by decide)
    have hHE3 : wv1.cell? ⟨g, 3, none⟩ = some (.int .i64 a0) := HE.out.cellAt 3 (by decide)
    have hHE4 : wv1.cell? ⟨g, 4, none⟩ = some (.int .i64 1) := HE.out.cellAt 4 (by decide)
    have hHE5 : wv1.cell? ⟨g, 5, none⟩ = some (.int .i64 0) := HE.out.cellAt 5 (by decide)
    have hHE6 : wv1.cell? ⟨g, 6, none⟩ = some (.int .i64 2) := HE.out.cellAt 6 (by decide)
    have hHE7 : wv1.cell? ⟨g, 7, none⟩ = some (.int .i64 a1) := HE.out.cellAt 7 (by decide)
    have hHE8 : wv1.cell? ⟨g, 8, none⟩ = some (.int .i64 1) := HE.out.cellAt 8 (by decide)
    have hHE9 : wv1.cell? ⟨g, 9, none⟩ = some (.int .i64 1) := HE.out.cellAt 9 (by decide)
    have hHE10 : wv1.cell? ⟨g, 10, none⟩ = some (.int .i64 3) := HE.out.cellAt 10 (by decide)
    have hHE11 : wv1.cell? ⟨g, 11, none⟩ = some (.int .i64 a2) := HE.out.cellAt 11 (by decide)
    have hHE12 : wv1.cell? ⟨g, 12, none⟩ = some (.int .i64 2) := HE.out.cellAt 12 (by decide)
    have hHE13 : wv1.cell? ⟨g, 13, none⟩ = some (.int .i64 0) := HE.out.cellAt 13 (by decide)
    have hHE14 : wv1.cell? ⟨g, 14, none⟩ = some (.int .i64 1) := HE.out.cellAt 14 (by decide)
    have hHE15 : wv1.cell? ⟨g, 15, none⟩ = some (.int .i64 a3) := HE.out.cellAt 15 (by decide)
    have fzHE := fun j => HE.out.frozenAt j
    have ltg : g < wv1.heap.size := (HE.out.lt _ rfl).2
    have ltgA : ∀ k, g < wv1.heap.size + k := fun k => by omega
    have hBV := fun i => blk_cell BV.out i
    have hgW := HW.out
    have hgV : ww0.heap.size < wv1.heap.size := blk_lt BV.out
    go_region
    all_goals
      go_wp2_with fail
      go_meet
      first
        | exact ⟨World.ownsRow.drew (World.ownsRow.stored (World.ownsRow.stored HE.out 4 (.int .i64 2)).1 6 (.int .i64 1)).1, below_drew (bset (bset HB.out HGB.out 4 (.int .i64 2)) HGB.out 6 (.int .i64 1))⟩
        | exact ⟨World.ownsRow.drew (World.ownsRow.stored (World.ownsRow.stored HE.out 6 (.int .i64 1)).1 4 (.int .i64 2)).1, below_drew (bset (bset HB.out HGB.out 6 (.int .i64 1)) HGB.out 4 (.int .i64 2))⟩
  obtain ⟨ho, hb⟩ := hcut
  clear hHE0 hHE1 hHE2 hHE3 hHE4 hHE5 hHE6 hHE7 hHE8 hHE9 hHE10 hHE11 hHE12 hHE13 hHE14 hHE15 fzHE ltg ltgA
  replace HE := Aside0.mk ho
  replace HB := Aside0.mk hb
  clear ho hb
  obtain ⟨ww1, hww⟩ : ∃ x, x = wc := ⟨_, rfl⟩
  subst hww
  have hHE0 : ww1.cell? ⟨g, 0, none⟩ = some (.int .i64 1) := HE.out.cellAt 0 (by decide)
  have hHE1 : ww1.cell? ⟨g, 1, none⟩ = some (.int .i64 0) := HE.out.cellAt 1 (by decide)
  have hHE2 : ww1.cell? ⟨g, 2, none⟩ = some (.int .i64 0) := HE.out.cellAt 2 (by decide)
  have hHE3 : ww1.cell? ⟨g, 3, none⟩ = some (.int .i64 a0) := HE.out.cellAt 3 (by decide)
  have hHE4 : ww1.cell? ⟨g, 4, none⟩ = some (.int .i64 2) := HE.out.cellAt 4 (by decide)
  have hHE5 : ww1.cell? ⟨g, 5, none⟩ = some (.int .i64 0) := HE.out.cellAt 5 (by decide)
  have hHE6 : ww1.cell? ⟨g, 6, none⟩ = some (.int .i64 1) := HE.out.cellAt 6 (by decide)
  have hHE7 : ww1.cell? ⟨g, 7, none⟩ = some (.int .i64 a1) := HE.out.cellAt 7 (by decide)
  have hHE8 : ww1.cell? ⟨g, 8, none⟩ = some (.int .i64 1) := HE.out.cellAt 8 (by decide)
  have hHE9 : ww1.cell? ⟨g, 9, none⟩ = some (.int .i64 1) := HE.out.cellAt 9 (by decide)
  have hHE10 : ww1.cell? ⟨g, 10, none⟩ = some (.int .i64 3) := HE.out.cellAt 10 (by decide)
  have hHE11 : ww1.cell? ⟨g, 11, none⟩ = some (.int .i64 a2) := HE.out.cellAt 11 (by decide)
  have hHE12 : ww1.cell? ⟨g, 12, none⟩ = some (.int .i64 2) := HE.out.cellAt 12 (by decide)
  have hHE13 : ww1.cell? ⟨g, 13, none⟩ = some (.int .i64 0) := HE.out.cellAt 13 (by decide)
  have hHE14 : ww1.cell? ⟨g, 14, none⟩ = some (.int .i64 1) := HE.out.cellAt 14 (by decide)
  have hHE15 : ww1.cell? ⟨g, 15, none⟩ = some (.int .i64 a3) := HE.out.cellAt 15 (by decide)
  have fzHE := fun j => HE.out.frozenAt j
  have ltg : g < ww1.heap.size := (HE.out.lt _ rfl).2
  have ltgA : ∀ k, g < ww1.heap.size + k := fun k => by omega
  go_wp2_with fail
  rw [rounds_succ]
  go_upto_block 1 with (fail)
  go_cut [4, 5] from 12 to 26 (fun _ _ wx => wx.ownsRow w.heap.size 74 4 (.slice (some ⟨g, 0, none⟩) 4 c1) 4 [.int .i64 1, .int .i64 0, .int .i64 0, .int .i64 a0, .int .i64 2, .int .i64 0, .int .i64 1, .int .i64 a1, .int .i64 3, .int .i64 1, .int .i64 1, .int .i64 a2, .int .i64 2, .int .i64 0, .int .i64 1, .int .i64 a3] ∧ Below w.heap.size w wx)
  case first =>
    go_upto_region 5 with (fail)
    clear hHE0 hHE1 hHE2 hHE3 hHE4 hHE5 hHE6 hHE7 hHE8 hHE9 hHE10 hHE11 hHE12 hHE13 hHE14 hHE15 fzHE ltg ltgA
    have hbv : Below w.heap.size w (ww1.alloc (.cells #[.int .i64 1, .int .i64 1, .int .i64 3, .int .i64 a2] 74)) := below_alloc HB.out _
    have BV : Aside0 (Blk (ww1.alloc (.cells #[.int .i64 1, .int .i64 1, .int .i64 3, .int .i64 a2] 74)) ww1.heap.size #[.int .i64 1, .int .i64 1, .int .i64 3, .int .i64 a2] 74) := ⟨heap_alloc_new _ _⟩
    have HW : Aside0 (g < ww1.heap.size) := ⟨(HE.out.lt _ rfl).2⟩
    have hov := own_alloc HE.out (.cells #[.int .i64 1, .int .i64 1, .int .i64 3, .int .i64 a2] 74)
    generalize ww1.alloc (.cells #[.int .i64 1, .int .i64 1, .int .i64 3, .int .i64 a2] 74) = wv2 at hbv BV hov ⊢
    replace HB := Aside0.mk hbv
    replace HE := Aside0.mk hov
    clear hbv hov
    have hHE0 : wv2.cell? ⟨g, 0, none⟩ = some (.int .i64 1) := HE.out.cellAt 0 (by decide)
    have hHE1 : wv2.cell? ⟨g, 1, none⟩ = some (.int .i64 0) := HE.out.cellAt 1 (by decide)
    have hHE2 : wv2.cell? ⟨g, 2, none⟩ = some (.int .i64 0) := HE.out.cellAt 2 (by decide)
    have hHE3 : wv2.cell? ⟨g, 3, none⟩ = some (.int .i64 a0) := HE.out.cellAt 3 (by decide)
    have hHE4 : wv2.cell? ⟨g, 4, none⟩ = some (.int .i64 2) := HE.out.cellAt 4 (by decide)
    have hHE5 : wv2.cell? ⟨g, 5, none⟩ = some (.int .i64 0) := HE.out.cellAt 5 (by decide)
    have hHE6 : wv2.cell? ⟨g, 6, none⟩ = some (.int .i64 1) := HE.out.cellAt 6 (by decide)
    have hHE7 : wv2.cell? ⟨g, 7, none⟩ = some (.int .i64 a1) := HE.out.cellAt 7 (by decide)
    have hHE8 : wv2.cell? ⟨g, 8, none⟩ = some (.int .i64 1) := HE.out.cellAt 8 (by decide)
    have hHE9 : wv2.cell? ⟨g, 9, none⟩ = some (.int .i64 1) := HE.out.cellAt 9 (by decide)
    have hHE10 : wv2.cell? ⟨g, 10, none⟩ = some (.int .i64 3) := HE.out.cellAt 10 (by decide)
    have hHE11 : wv2.cell? ⟨g, 11, none⟩ = some (.int .i64 a2) := HE.out.cellAt 11 (by decide)
    have hHE12 : wv2.cell? ⟨g, 12, none⟩ = some (.int .i64 2) := HE.out.cellAt 12 (by decide)
    have hHE13 : wv2.cell? ⟨g, 13, none⟩ = some (.int .i64 0) := HE.out.cellAt 13 (by decide)
    have hHE14 : wv2.cell? ⟨g, 14, none⟩ = some (.int .i64 1) := HE.out.cellAt 14 (by decide)
    have hHE15 : wv2.cell? ⟨g, 15, none⟩ = some (.int .i64 a3) := HE.out.cellAt 15 (by decide)
    have fzHE := fun j => HE.out.frozenAt j
    have ltg : g < wv2.heap.size := (HE.out.lt _ rfl).2
    have ltgA : ∀ k, g < wv2.heap.size + k := fun k => by omega
    have hBV := fun i => blk_cell BV.out i
    have hgW := HW.out
    have hgV : ww1.heap.size < wv2.heap.size := blk_lt BV.out
    go_region
    all_goals
      go_wp2_with fail
      go_meet
      first
        | exact ⟨World.ownsRow.drew (World.ownsRow.stored (World.ownsRow.stored HE.out 8 (.int .i64 3)).1 10 (.int .i64 1)).1, below_drew (bset (bset HB.out HGB.out 8 (.int .i64 3)) HGB.out 10 (.int .i64 1))⟩
        | exact ⟨World.ownsRow.drew (World.ownsRow.stored (World.ownsRow.stored HE.out 10 (.int .i64 1)).1 8 (.int .i64 3)).1, below_drew (bset (bset HB.out HGB.out 10 (.int .i64 1)) HGB.out 8 (.int .i64 3))⟩
  obtain ⟨ho, hb⟩ := hcut
  clear hHE0 hHE1 hHE2 hHE3 hHE4 hHE5 hHE6 hHE7 hHE8 hHE9 hHE10 hHE11 hHE12 hHE13 hHE14 hHE15 fzHE ltg ltgA
  replace HE := Aside0.mk ho
  replace HB := Aside0.mk hb
  clear ho hb
  obtain ⟨ww2, hww⟩ : ∃ x, x = wc := ⟨_, rfl⟩
  subst hww
  have hHE0 : ww2.cell? ⟨g, 0, none⟩ = some (.int .i64 1) := HE.out.cellAt 0 (by decide)
  have hHE1 : ww2.cell? ⟨g, 1, none⟩ = some (.int .i64 0) := HE.out.cellAt 1 (by decide)
  have hHE2 : ww2.cell? ⟨g, 2, none⟩ = some (.int .i64 0) := HE.out.cellAt 2 (by decide)
  have hHE3 : ww2.cell? ⟨g, 3, none⟩ = some (.int .i64 a0) := HE.out.cellAt 3 (by decide)
  have hHE4 : ww2.cell? ⟨g, 4, none⟩ = some (.int .i64 2) := HE.out.cellAt 4 (by decide)
  have hHE5 : ww2.cell? ⟨g, 5, none⟩ = some (.int .i64 0) := HE.out.cellAt 5 (by decide)
  have hHE6 : ww2.cell? ⟨g, 6, none⟩ = some (.int .i64 1) := HE.out.cellAt 6 (by decide)
  have hHE7 : ww2.cell? ⟨g, 7, none⟩ = some (.int .i64 a1) := HE.out.cellAt 7 (by decide)
  have hHE8 : ww2.cell? ⟨g, 8, none⟩ = some (.int .i64 3) := HE.out.cellAt 8 (by decide)
  have hHE9 : ww2.cell? ⟨g, 9, none⟩ = some (.int .i64 1) := HE.out.cellAt 9 (by decide)
  have hHE10 : ww2.cell? ⟨g, 10, none⟩ = some (.int .i64 1) := HE.out.cellAt 10 (by decide)
  have hHE11 : ww2.cell? ⟨g, 11, none⟩ = some (.int .i64 a2) := HE.out.cellAt 11 (by decide)
  have hHE12 : ww2.cell? ⟨g, 12, none⟩ = some (.int .i64 2) := HE.out.cellAt 12 (by decide)
  have hHE13 : ww2.cell? ⟨g, 13, none⟩ = some (.int .i64 0) := HE.out.cellAt 13 (by decide)
  have hHE14 : ww2.cell? ⟨g, 14, none⟩ = some (.int .i64 1) := HE.out.cellAt 14 (by decide)
  have hHE15 : ww2.cell? ⟨g, 15, none⟩ = some (.int .i64 a3) := HE.out.cellAt 15 (by decide)
  have fzHE := fun j => HE.out.frozenAt j
  have ltg : g < ww2.heap.size := (HE.out.lt _ rfl).2
  have ltgA : ∀ k, g < ww2.heap.size + k := fun k => by omega
  go_wp2_with fail
  rw [rounds_succ]
  go_upto_block 1 with (fail)
  go_cut [4, 5] from 12 to 26 (fun _ _ wx => wx.ownsRow w.heap.size 74 4 (.slice (some ⟨g, 0, none⟩) 4 c1) 4 [.int .i64 1, .int .i64 0, .int .i64 0, .int .i64 a0, .int .i64 2, .int .i64 0, .int .i64 1, .int .i64 a1, .int .i64 3, .int .i64 1, .int .i64 1, .int .i64 a2, .int .i64 1, .int .i64 0, .int .i64 2, .int .i64 a3] ∧ Below w.heap.size w wx)
  case first =>
    go_upto_region 5 with (fail)
    clear hHE0 hHE1 hHE2 hHE3 hHE4 hHE5 hHE6 hHE7 hHE8 hHE9 hHE10 hHE11 hHE12 hHE13 hHE14 hHE15 fzHE ltg ltgA
    have hbv : Below w.heap.size w (ww2.alloc (.cells #[.int .i64 2, .int .i64 0, .int .i64 1, .int .i64 a3] 74)) := below_alloc HB.out _
    have BV : Aside0 (Blk (ww2.alloc (.cells #[.int .i64 2, .int .i64 0, .int .i64 1, .int .i64 a3] 74)) ww2.heap.size #[.int .i64 2, .int .i64 0, .int .i64 1, .int .i64 a3] 74) := ⟨heap_alloc_new _ _⟩
    have HW : Aside0 (g < ww2.heap.size) := ⟨(HE.out.lt _ rfl).2⟩
    have hov := own_alloc HE.out (.cells #[.int .i64 2, .int .i64 0, .int .i64 1, .int .i64 a3] 74)
    generalize ww2.alloc (.cells #[.int .i64 2, .int .i64 0, .int .i64 1, .int .i64 a3] 74) = wv3 at hbv BV hov ⊢
    replace HB := Aside0.mk hbv
    replace HE := Aside0.mk hov
    clear hbv hov
    have hHE0 : wv3.cell? ⟨g, 0, none⟩ = some (.int .i64 1) := HE.out.cellAt 0 (by decide)
    have hHE1 : wv3.cell? ⟨g, 1, none⟩ = some (.int .i64 0) := HE.out.cellAt 1 (by decide)
    have hHE2 : wv3.cell? ⟨g, 2, none⟩ = some (.int .i64 0) := HE.out.cellAt 2 (by decide)
    have hHE3 : wv3.cell? ⟨g, 3, none⟩ = some (.int .i64 a0) := HE.out.cellAt 3 (by decide)
    have hHE4 : wv3.cell? ⟨g, 4, none⟩ = some (.int .i64 2) := HE.out.cellAt 4 (by decide)
    have hHE5 : wv3.cell? ⟨g, 5, none⟩ = some (.int .i64 0) := HE.out.cellAt 5 (by decide)
    have hHE6 : wv3.cell? ⟨g, 6, none⟩ = some (.int .i64 1) := HE.out.cellAt 6 (by decide)
    have hHE7 : wv3.cell? ⟨g, 7, none⟩ = some (.int .i64 a1) := HE.out.cellAt 7 (by decide)
    have hHE8 : wv3.cell? ⟨g, 8, none⟩ = some (.int .i64 3) := HE.out.cellAt 8 (by decide)
    have hHE9 : wv3.cell? ⟨g, 9, none⟩ = some (.int .i64 1) := HE.out.cellAt 9 (by decide)
    have hHE10 : wv3.cell? ⟨g, 10, none⟩ = some (.int .i64 1) := HE.out.cellAt 10 (by decide)
    have hHE11 : wv3.cell? ⟨g, 11, none⟩ = some (.int .i64 a2) := HE.out.cellAt 11 (by decide)
    have hHE12 : wv3.cell? ⟨g, 12, none⟩ = some (.int .i64 2) := HE.out.cellAt 12 (by decide)
    have hHE13 : wv3.cell? ⟨g, 13, none⟩ = some (.int .i64 0) := HE.out.cellAt 13 (by decide)
    have hHE14 : wv3.cell? ⟨g, 14, none⟩ = some (.int .i64 1) := HE.out.cellAt 14 (by decide)
    have hHE15 : wv3.cell? ⟨g, 15, none⟩ = some (.int .i64 a3) := HE.out.cellAt 15 (by decide)
    have fzHE := fun j => HE.out.frozenAt j
    have ltg : g < wv3.heap.size := (HE.out.lt _ rfl).2
    have ltgA : ∀ k, g < wv3.heap.size + k := fun k => by omega
    have hBV := fun i => blk_cell BV.out i
    have hgW := HW.out
    have hgV : ww2.heap.size < wv3.heap.size := blk_lt BV.out
    go_region
    all_goals
      go_wp2_with fail
      go_meet
      first
        | exact ⟨World.ownsRow.drew (World.ownsRow.stored (World.ownsRow.stored HE.out 12 (.int .i64 1)).1 14 (.int .i64 2)).1, below_drew (bset (bset HB.out HGB.out 12 (.int .i64 1)) HGB.out 14 (.int .i64 2))⟩
        | exact ⟨World.ownsRow.drew (World.ownsRow.stored (World.ownsRow.stored HE.out 14 (.int .i64 2)).1 12 (.int .i64 1)).1, below_drew (bset (bset HB.out HGB.out 14 (.int .i64 2)) HGB.out 12 (.int .i64 1))⟩
  obtain ⟨ho, hb⟩ := hcut
  clear hHE0 hHE1 hHE2 hHE3 hHE4 hHE5 hHE6 hHE7 hHE8 hHE9 hHE10 hHE11 hHE12 hHE13 hHE14 hHE15 fzHE ltg ltgA
  replace HE := Aside0.mk ho
  replace HB := Aside0.mk hb
  clear ho hb
  obtain ⟨ww3, hww⟩ : ∃ x, x = wc := ⟨_, rfl⟩
  subst hww
  have hHE0 : ww3.cell? ⟨g, 0, none⟩ = some (.int .i64 1) := HE.out.cellAt 0 (by decide)
  have hHE1 : ww3.cell? ⟨g, 1, none⟩ = some (.int .i64 0) := HE.out.cellAt 1 (by decide)
  have hHE2 : ww3.cell? ⟨g, 2, none⟩ = some (.int .i64 0) := HE.out.cellAt 2 (by decide)
  have hHE3 : ww3.cell? ⟨g, 3, none⟩ = some (.int .i64 a0) := HE.out.cellAt 3 (by decide)
  have hHE4 : ww3.cell? ⟨g, 4, none⟩ = some (.int .i64 2) := HE.out.cellAt 4 (by decide)
  have hHE5 : ww3.cell? ⟨g, 5, none⟩ = some (.int .i64 0) := HE.out.cellAt 5 (by decide)
  have hHE6 : ww3.cell? ⟨g, 6, none⟩ = some (.int .i64 1) := HE.out.cellAt 6 (by decide)
  have hHE7 : ww3.cell? ⟨g, 7, none⟩ = some (.int .i64 a1) := HE.out.cellAt 7 (by decide)
  have hHE8 : ww3.cell? ⟨g, 8, none⟩ = some (.int .i64 3) := HE.out.cellAt 8 (by decide)
  have hHE9 : ww3.cell? ⟨g, 9, none⟩ = some (.int .i64 1) := HE.out.cellAt 9 (by decide)
  have hHE10 : ww3.cell? ⟨g, 10, none⟩ = some (.int .i64 1) := HE.out.cellAt 10 (by decide)
  have hHE11 : ww3.cell? ⟨g, 11, none⟩ = some (.int .i64 a2) := HE.out.cellAt 11 (by decide)
  have hHE12 : ww3.cell? ⟨g, 12, none⟩ = some (.int .i64 1) := HE.out.cellAt 12 (by decide)
  have hHE13 : ww3.cell? ⟨g, 13, none⟩ = some (.int .i64 0) := HE.out.cellAt 13 (by decide)
  have hHE14 : ww3.cell? ⟨g, 14, none⟩ = some (.int .i64 2) := HE.out.cellAt 14 (by decide)
  have hHE15 : ww3.cell? ⟨g, 15, none⟩ = some (.int .i64 a3) := HE.out.cellAt 15 (by decide)
  have fzHE := fun j => HE.out.frozenAt j
  have ltg : g < ww3.heap.size := (HE.out.lt _ rfl).2
  have ltgA : ∀ k, g < ww3.heap.size + k := fun k => by omega
  go_wp2_with fail
  rw [rounds_succ]
  go_wp2_with fail
  go_ret
  exact ⟨g, c1, rfl, HE.out, HB.out⟩
set_option maxHeartbeats 8000000 in
set_option maxRecDepth 100000 in
theorem turned_two (bs ge c : Nat) (a0 a2 : Int) (w : World) (hE : w.ownsRow bs 74 4 (.slice (some ⟨ge, 0, none⟩) 2 c) 2 [.int .i64 0, .int .i64 0, .int .i64 1, .int .i64 a0, .int .i64 1, .int .i64 1, .int .i64 3, .int .i64 a2]) :
    Calls Try.prog 28 #[.slice (some ⟨ge, 0, none⟩) 2 c] w fun e w' => ∃ g c', e = .returned (.slice (some ⟨g, 0, none⟩) 2 c') ∧ w'.ownsRow w.heap.size 74 4 (.slice (some ⟨g, 0, none⟩) 2 c') 2 [.int .i64 1, .int .i64 0, .int .i64 0, .int .i64 a0, .int .i64 3, .int .i64 1, .int .i64 1, .int .i64 a2] ∧ Below w.heap.size w w' := by
  have hu74 := Try.underlying74
  have HB : Aside0 (Below w.heap.size w w) := ⟨Below.refl _ _⟩
  have hx := hE.cells (g := ge) rfl
  clear hE
  go_enter Try.func28, Try.ntmps28
  go_wp2_with fail
  refine (clone_calls ge 2 c [.int .i64 0, .int .i64 0, .int .i64 1, .int .i64 a0, .int .i64 1, .int .i64 1, .int .i64 3, .int .i64 a2] _ hx rfl (oneL [0, 0, 1, a0, 1, 1, 3, a2]) (by decide)).mono ?_
  rintro e w1 ⟨g, c1, rfl, ho, hb⟩
  replace HB := Aside0.mk (HB.out.trans hb)
  have HE := Aside0.mk ho
  have HGB : Aside0 (w.heap.size ≤ g) := ⟨own_base ho g rfl⟩
  clear ho hb hx
  have hHE0 : w1.cell? ⟨g, 0, none⟩ = some (.int .i64 0) := HE.out.cellAt 0 (by decide)
  have hHE1 : w1.cell? ⟨g, 1, none⟩ = some (.int .i64 0) := HE.out.cellAt 1 (by decide)
  have hHE2 : w1.cell? ⟨g, 2, none⟩ = some (.int .i64 1) := HE.out.cellAt 2 (by decide)
  have hHE3 : w1.cell? ⟨g, 3, none⟩ = some (.int .i64 a0) := HE.out.cellAt 3 (by decide)
  have hHE4 : w1.cell? ⟨g, 4, none⟩ = some (.int .i64 1) := HE.out.cellAt 4 (by decide)
  have hHE5 : w1.cell? ⟨g, 5, none⟩ = some (.int .i64 1) := HE.out.cellAt 5 (by decide)
  have hHE6 : w1.cell? ⟨g, 6, none⟩ = some (.int .i64 3) := HE.out.cellAt 6 (by decide)
  have hHE7 : w1.cell? ⟨g, 7, none⟩ = some (.int .i64 a2) := HE.out.cellAt 7 (by decide)
  have fzHE := fun j => HE.out.frozenAt j
  have ltg : g < w1.heap.size := (HE.out.lt _ rfl).2
  have ltgA : ∀ k, g < w1.heap.size + k := fun k => by omega
  go_wp2_with fail
  refine wp_loop_rounds 6 ?_
  rw [rounds_succ]
  go_upto_block 1 with (fail)
  go_cut [4, 5] from 12 to 26 (fun _ _ wx => wx.ownsRow w.heap.size 74 4 (.slice (some ⟨g, 0, none⟩) 2 c1) 2 [.int .i64 1, .int .i64 0, .int .i64 0, .int .i64 a0, .int .i64 1, .int .i64 1, .int .i64 3, .int .i64 a2] ∧ Below w.heap.size w wx)
  case first =>
    go_upto_region 5 with (fail)
    clear hHE0 hHE1 hHE2 hHE3 hHE4 hHE5 hHE6 hHE7 fzHE ltg ltgA
    have hbv : Below w.heap.size w (w1.alloc (.cells #[.int .i64 0, .int .i64 0, .int .i64 1, .int .i64 a0] 74)) := below_alloc HB.out _
    have BV : Aside0 (Blk (w1.alloc (.cells #[.int .i64 0, .int .i64 0, .int .i64 1, .int .i64 a0] 74)) w1.heap.size #[.int .i64 0, .int .i64 0, .int .i64 1, .int .i64 a0] 74) := ⟨heap_alloc_new _ _⟩
    have HW : Aside0 (g < w1.heap.size) := ⟨(HE.out.lt _ rfl).2⟩
    have hov := own_alloc HE.out (.cells #[.int .i64 0, .int .i64 0, .int .i64 1, .int .i64 a0] 74)
    generalize w1.alloc (.cells #[.int .i64 0, .int .i64 0, .int .i64 1, .int .i64 a0] 74) = wv0 at hbv BV hov ⊢
    replace HB := Aside0.mk hbv
    replace HE := Aside0.mk hov
    clear hbv hov
    have hHE0 : wv0.cell? ⟨g, 0, none⟩ = some (.int .i64 0) := HE.out.cellAt 0 (by decide)
    have hHE1 : wv0.cell? ⟨g, 1, none⟩ = some (.int .i64 0) := HE.out.cellAt 1 (by decide)
    have hHE2 : wv0.cell? ⟨g, 2, none⟩ = some (.int .i64 1) := HE.out.cellAt 2 (by decide)
    have hHE3 : wv0.cell? ⟨g, 3, none⟩ = some (.int .i64 a0) := HE.out.cellAt 3 (by decide)
    have hHE4 : wv0.cell? ⟨g, 4, none⟩ = some (.int .i64 1) := HE.out.cellAt 4 (by decide)
    have hHE5 : wv0.cell? ⟨g, 5, none⟩ = some (.int .i64 1) := HE.out.cellAt 5 (by decide)
    have hHE6 : wv0.cell? ⟨g, 6, none⟩ = some (.int .i64 3) := HE.out.cellAt 6 (by decide)
    have hHE7 : wv0.cell? ⟨g, 7, none⟩ = some (.int .i64 a2) := HE.out.cellAt 7 (by decide)
    have fzHE := fun j => HE.out.frozenAt j
    have ltg : g < wv0.heap.size := (HE.out.lt _ rfl).2
    have ltgA : ∀ k, g < wv0.heap.size + k := fun k => by omega
    have hBV := fun i => blk_cell BV.out i
    have hgW := HW.out
    have hgV : w1.heap.size < wv0.heap.size := blk_lt BV.out
    go_region
    all_goals
      go_wp2_with fail
      go_meet
      first
        | exact ⟨World.ownsRow.drew (World.ownsRow.stored (World.ownsRow.stored HE.out 0 (.int .i64 1)).1 2 (.int .i64 0)).1, below_drew (bset (bset HB.out HGB.out 0 (.int .i64 1)) HGB.out 2 (.int .i64 0))⟩
        | exact ⟨World.ownsRow.drew (World.ownsRow.stored (World.ownsRow.stored HE.out 2 (.int .i64 0)).1 0 (.int .i64 1)).1, below_drew (bset (bset HB.out HGB.out 2 (.int .i64 0)) HGB.out 0 (.int .i64 1))⟩
  obtain ⟨ho, hb⟩ := hcut
  clear hHE0 hHE1 hHE2 hHE3 hHE4 hHE5 hHE6 hHE7 fzHE ltg ltgA
  replace HE := Aside0.mk ho
  replace HB := Aside0.mk hb
  clear ho hb
  obtain ⟨ww0, hww⟩ : ∃ x, x = wc := ⟨_, rfl⟩
  subst hww
  have hHE0 : ww0.cell? ⟨g, 0, none⟩ = some (.int .i64 1) := HE.out.cellAt 0 (by decide)
  have hHE1 : ww0.cell? ⟨g, 1, none⟩ = some (.int .i64 0) := HE.out.cellAt 1 (by decide)
  have hHE2 : ww0.cell? ⟨g, 2, none⟩ = some (.int .i64 0) := HE.out.cellAt 2 (by decide)
  have hHE3 : ww0.cell? ⟨g, 3, none⟩ = some (.int .i64 a0) := HE.out.cellAt 3 (by decide)
  have hHE4 : ww0.cell? ⟨g, 4, none⟩ = some (.int .i64 1) := HE.out.cellAt 4 (by decide)
  have hHE5 : ww0.cell? ⟨g, 5, none⟩ = some (.int .i64 1) := HE.out.cellAt 5 (by decide)
  have hHE6 : ww0.cell? ⟨g, 6, none⟩ = some (.int .i64 3) := HE.out.cellAt 6 (by decide)
  have hHE7 : ww0.cell? ⟨g, 7, none⟩ = some (.int .i64 a2) := HE.out.cellAt 7 (by decide)
  have fzHE := fun j => HE.out.frozenAt j
  have ltg : g < ww0.heap.size := (HE.out.lt _ rfl).2
  have ltgA : ∀ k, g < ww0.heap.size + k := fun k => by omega
  go_wp2_with fail
  rw [rounds_succ]
  go_upto_block 1 with (fail)
  go_cut [4, 5] from 12 to 26 (fun _ _ wx => wx.ownsRow w.heap.size 74 4 (.slice (some ⟨g, 0, none⟩) 2 c1) 2 [.int .i64 1, .int .i64 0, .int .i64 0, .int .i64 a0, .int .i64 3, .int .i64 1, .int .i64 1, .int .i64 a2] ∧ Below w.heap.size w wx)
  case first =>
    go_upto_region 5 with (fail)
    clear hHE0 hHE1 hHE2 hHE3 hHE4 hHE5 hHE6 hHE7 fzHE ltg ltgA
    have hbv : Below w.heap.size w (ww0.alloc (.cells #[.int .i64 1, .int .i64 1, .int .i64 3, .int .i64 a2] 74)) := below_alloc HB.out _
    have BV : Aside0 (Blk (ww0.alloc (.cells #[.int .i64 1, .int .i64 1, .int .i64 3, .int .i64 a2] 74)) ww0.heap.size #[.int .i64 1, .int .i64 1, .int .i64 3, .int .i64 a2] 74) := ⟨heap_alloc_new _ _⟩
    have HW : Aside0 (g < ww0.heap.size) := ⟨(HE.out.lt _ rfl).2⟩
    have hov := own_alloc HE.out (.cells #[.int .i64 1, .int .i64 1, .int .i64 3, .int .i64 a2] 74)
    generalize ww0.alloc (.cells #[.int .i64 1, .int .i64 1, .int .i64 3, .int .i64 a2] 74) = wv1 at hbv BV hov ⊢
    replace HB := Aside0.mk hbv
    replace HE := Aside0.mk hov
    clear hbv hov
    have hHE0 : wv1.cell? ⟨g, 0, none⟩ = some (.int .i64 1) := HE.out.cellAt 0 (by decide)
    have hHE1 : wv1.cell? ⟨g, 1, none⟩ = some (.int .i64 0) := HE.out.cellAt 1 (by decide)
    have hHE2 : wv1.cell? ⟨g, 2, none⟩ = some (.int .i64 0) := HE.out.cellAt 2 (by decide)
    have hHE3 : wv1.cell? ⟨g, 3, none⟩ = some (.int .i64 a0) := HE.out.cellAt 3 (by decide)
    have hHE4 : wv1.cell? ⟨g, 4, none⟩ = some (.int .i64 1) := HE.out.cellAt 4 (by decide)
    have hHE5 : wv1.cell? ⟨g, 5, none⟩ = some (.int .i64 1) := HE.out.cellAt 5 (by decide)
    have hHE6 : wv1.cell? ⟨g, 6, none⟩ = some (.int .i64 3) := HE.out.cellAt 6 (by decide)
    have hHE7 : wv1.cell? ⟨g, 7, none⟩ = some (.int .i64 a2) := HE.out.cellAt 7 (by decide)
    have fzHE := fun j => HE.out.frozenAt j
    have ltg : g < wv1.heap.size := (HE.out.lt _ rfl).2
    have ltgA : ∀ k, g < wv1.heap.size + k := fun k => by omega
    have hBV := fun i => blk_cell BV.out i
    have hgW := HW.out
    have hgV : ww0.heap.size < wv1.heap.size := blk_lt BV.out
    go_region
    all_goals
      go_wp2_with fail
      go_meet
      first
        | exact ⟨World.ownsRow.drew (World.ownsRow.stored (World.ownsRow.stored HE.out 4 (.int .i64 3)).1 6 (.int .i64 1)).1, below_drew (bset (bset HB.out HGB.out 4 (.int .i64 3)) HGB.out 6 (.int .i64 1))⟩
        | exact ⟨World.ownsRow.drew (World.ownsRow.stored (World.ownsRow.stored HE.out 6 (.int .i64 1)).1 4 (.int .i64 3)).1, below_drew (bset (bset HB.out HGB.out 6 (.int .i64 1)) HGB.out 4 (.int .i64 3))⟩
  obtain ⟨ho, hb⟩ := hcut
  clear hHE0 hHE1 hHE2 hHE3 hHE4 hHE5 hHE6 hHE7 fzHE ltg ltgA
  replace HE := Aside0.mk ho
  replace HB := Aside0.mk hb
  clear ho hb
  obtain ⟨ww1, hww⟩ : ∃ x, x = wc := ⟨_, rfl⟩
  subst hww
  have hHE0 : ww1.cell? ⟨g, 0, none⟩ = some (.int .i64 1) := HE.out.cellAt 0 (by decide)
  have hHE1 : ww1.cell? ⟨g, 1, none⟩ = some (.int .i64 0) := HE.out.cellAt 1 (by decide)
  have hHE2 : ww1.cell? ⟨g, 2, none⟩ = some (.int .i64 0) := HE.out.cellAt 2 (by decide)
  have hHE3 : ww1.cell? ⟨g, 3, none⟩ = some (.int .i64 a0) := HE.out.cellAt 3 (by decide)
  have hHE4 : ww1.cell? ⟨g, 4, none⟩ = some (.int .i64 3) := HE.out.cellAt 4 (by decide)
  have hHE5 : ww1.cell? ⟨g, 5, none⟩ = some (.int .i64 1) := HE.out.cellAt 5 (by decide)
  have hHE6 : ww1.cell? ⟨g, 6, none⟩ = some (.int .i64 1) := HE.out.cellAt 6 (by decide)
  have hHE7 : ww1.cell? ⟨g, 7, none⟩ = some (.int .i64 a2) := HE.out.cellAt 7 (by decide)
  have fzHE := fun j => HE.out.frozenAt j
  have ltg : g < ww1.heap.size := (HE.out.lt _ rfl).2
  have ltgA : ∀ k, g < ww1.heap.size + k := fun k => by omega
  go_wp2_with fail
  rw [rounds_succ]
  go_wp2_with fail
  go_ret
  exact ⟨g, c1, rfl, HE.out, HB.out⟩
set_option maxHeartbeats 8000000 in
set_option maxRecDepth 100000 in
theorem turned_none (bs ge c : Nat) (w : World) (hE : w.ownsRow bs 74 4 (.slice (some ⟨ge, 0, none⟩) 0 c) 0 []) :
    Calls Try.prog 28 #[.slice (some ⟨ge, 0, none⟩) 0 c] w fun e w' => ∃ g c', e = .returned (.slice (some ⟨g, 0, none⟩) 0 c') ∧ w'.ownsRow w.heap.size 74 4 (.slice (some ⟨g, 0, none⟩) 0 c') 0 [] ∧ Below w.heap.size w w' := by
  have hu74 := Try.underlying74
  have HB : Aside0 (Below w.heap.size w w) := ⟨Below.refl _ _⟩
  have hx := hE.cells (g := ge) rfl
  clear hE
  go_enter Try.func28, Try.ntmps28
  go_wp2_with fail
  refine (clone_calls ge 0 c [] _ hx rfl (oneL []) (by decide)).mono ?_
  rintro e w1 ⟨g, c1, rfl, ho, hb⟩
  replace HB := Aside0.mk (HB.out.trans hb)
  have HE := Aside0.mk ho
  have HGB : Aside0 (w.heap.size ≤ g) := ⟨own_base ho g rfl⟩
  clear ho hb hx
  have fzHE := fun j => HE.out.frozenAt j
  have ltg : g < w1.heap.size := (HE.out.lt _ rfl).2
  have ltgA : ∀ k, g < w1.heap.size + k := fun k => by omega
  go_wp2_with fail
  refine wp_loop_rounds 6 ?_
  rw [rounds_succ]
  go_wp2_with fail
  go_ret
  exact ⟨g, c1, rfl, HE.out, HB.out⟩
end Go.Proofs.Ytbeochkimihglaa.PHl
