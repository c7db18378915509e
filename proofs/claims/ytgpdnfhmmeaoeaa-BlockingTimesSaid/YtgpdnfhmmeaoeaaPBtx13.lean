-- printed by wip/tools/print2.sh (the kit's print, with given texts of this repo); not trusted: Lean checks it
import Derived.Test.YtgpdnfhmmeaoeaaPBtx0
import Derived.Test.YtgpdnfhmmeaoeaaPBtx12
namespace Go.Proofs.Ytgpdnfhmmeaoeaa.PBt
open Go.RowKit Go.Proofs.YtgpdnfhmmeaoeaaW.PrintWords Go.Proofs.YtgpdnfhmmeaoeaaW.PrintLast Go.Proofs.YtgpdnfhmmeaoeaaW.PrintMore
attribute [local go_sem] max2_int min2_int max_two min_two max_three min_three max_four min_four   -- for this text's walks alone
set_option linter.unusedVariables false
set_option linter.unusedSimpArgs false

/-! ### timeboundref40_Blocking: function 25 -/
mutual
def timeboundref40_Blocking.l0 : Nat → List (S48) → Int → Int → Int → List (S48) → Int → Int → Option (Int)
  | 0, _, _, _, _, _, _, _ => none
  | k + 1, x0, x1, x2, x7, x14, x15, x16 => if x16 < x15 then (if 0 ≤ x16 then (if x16 < (x14.length : Int) then ((timeboundref40_Before.f x0 x1 x16).bind fun t179 => (if t179 = true then (timeboundref40_Blocking.l1 k x0 x1 x2 (mx x7 x2) x14 x15 x16 ((rd_T48 x14 x16).f5) (((rd_T48 x14 x16).f5).length : Int) 0) else (timeboundref40_Blocking.l0 k x0 x1 x2 x7 x14 x15 (wrap64 (x16 + 1))))) else (none)) else (none)) else (some x7)
def timeboundref40_Blocking.l1 : Nat → List (S48) → Int → Int → Int → List (S48) → Int → Int → List (S50) → Int → Int → Option (Int)
  | 0, _, _, _, _, _, _, _, _, _, _ => none
  | k + 1, x0, x1, x2, x7, x14, x15, x16, x30, x31, x32 => if x32 < x31 then (if 0 ≤ x32 then (if x32 < (x30.length : Int) then ((timeboundref40_Ceiling.f k x0 ((rd_T50 x30 x32).f0)).bind fun bt182 => (if bt182.2 = true then (if bt182.1 = x1 then (timeboundref40_Blocking.l1 k x0 x1 x2 (mx x7 ((rd_T50 x30 x32).f1)) x14 x15 x16 x30 x31 (wrap64 (x32 + 1))) else ((timeboundref40_Before.f x0 bt182.1 x1).bind fun t184 => (if t184 = true then (timeboundref40_Blocking.l1 k x0 x1 x2 (mx x7 ((rd_T50 x30 x32).f1)) x14 x15 x16 x30 x31 (wrap64 (x32 + 1))) else (timeboundref40_Blocking.l1 k x0 x1 x2 x7 x14 x15 x16 x30 x31 (wrap64 (x32 + 1)))))) else (timeboundref40_Blocking.l1 k x0 x1 x2 x7 x14 x15 x16 x30 x31 (wrap64 (x32 + 1))))) else (none)) else (none)) else (timeboundref40_Blocking.l0 k x0 x1 x2 x7 x14 x15 (wrap64 (x16 + 1)))
end
def timeboundref40_Blocking.f (k : Nat) (l0 : List (S48)) (a1 : Int) (a2 : Int) : Option (Int) := timeboundref40_Blocking.l0 k l0 a1 a2 0 l0 (l0.length : Int) 0
theorem timeboundref40_Blocking.mono_l : ∀ k, (∀ y0 y1 y2 y3 y4 y5 y6, LeO (timeboundref40_Blocking.l0 k y0 y1 y2 y3 y4 y5 y6) (timeboundref40_Blocking.l0 (k + 1) y0 y1 y2 y3 y4 y5 y6)) ∧ (∀ y0 y1 y2 y3 y4 y5 y6 y7 y8 y9, LeO (timeboundref40_Blocking.l1 k y0 y1 y2 y3 y4 y5 y6 y7 y8 y9) (timeboundref40_Blocking.l1 (k + 1) y0 y1 y2 y3 y4 y5 y6 y7 y8 y9))
  | 0 => ⟨fun _ _ _ _ _ _ _ r h => by simp [timeboundref40_Blocking.l0] at h, fun _ _ _ _ _ _ _ _ _ _ r h => by simp [timeboundref40_Blocking.l1] at h⟩
  | k + 1 => by
    obtain ⟨ih0, ih1⟩ := timeboundref40_Blocking.mono_l k
    refine ⟨?_, ?_⟩
    · intro y0 y1 y2 y3 y4 y5 y6
      unfold timeboundref40_Blocking.l0
      repeat' first
      | (with_reducible exact ih0 _ _ _ _ _ _ _)
      | (with_reducible exact ih1 _ _ _ _ _ _ _ _ _ _)
      | (with_reducible exact timeboundref40_Ceiling.mono _ _ _)
      | (with_reducible exact LeO.refl _)
      | (with_reducible exact LeO.none _)
      | (with_reducible refine LeO.ite ?_ ?_)
      | (with_reducible refine LeO.bind ?_ (fun _ => ?_))
      | exact ih0 _ _ _ _ _ _ _
      | exact ih1 _ _ _ _ _ _ _ _ _ _
      | exact timeboundref40_Ceiling.mono _ _ _
      | exact LeO.none _
      | refine LeO.ite ?_ ?_
      | refine LeO.bind ?_ (fun _ => ?_)
    · intro y0 y1 y2 y3 y4 y5 y6 y7 y8 y9
      unfold timeboundref40_Blocking.l1
      repeat' first
      | (with_reducible exact ih0 _ _ _ _ _ _ _)
      | (with_reducible exact ih1 _ _ _ _ _ _ _ _ _ _)
      | (with_reducible exact timeboundref40_Ceiling.mono _ _ _)
      | (with_reducible exact LeO.refl _)
      | (with_reducible exact LeO.none _)
      | (with_reducible refine LeO.ite ?_ ?_)
      | (with_reducible refine LeO.bind ?_ (fun _ => ?_))
      | exact ih0 _ _ _ _ _ _ _
      | exact ih1 _ _ _ _ _ _ _ _ _ _
      | exact timeboundref40_Ceiling.mono _ _ _
      | exact LeO.none _
      | refine LeO.ite ?_ ?_
      | refine LeO.bind ?_ (fun _ => ?_)
theorem timeboundref40_Blocking.mono : ∀ a0 a1 a2 k, LeO (timeboundref40_Blocking.f k a0 a1 a2) (timeboundref40_Blocking.f (k + 1) a0 a1 a2) := by
  intro a0 a1 a2 k
  obtain ⟨ih0, ih1⟩ := timeboundref40_Blocking.mono_l k
  unfold timeboundref40_Blocking.f
  repeat' first
      | (with_reducible exact ih0 _ _ _ _ _ _ _)
      | (with_reducible exact ih1 _ _ _ _ _ _ _ _ _ _)
      | (with_reducible exact timeboundref40_Ceiling.mono _ _ _)
      | (with_reducible exact LeO.refl _)
      | (with_reducible exact LeO.none _)
      | (with_reducible refine LeO.ite ?_ ?_)
      | (with_reducible refine LeO.bind ?_ (fun _ => ?_))
      | exact ih0 _ _ _ _ _ _ _
      | exact ih1 _ _ _ _ _ _ _ _ _ _
      | exact timeboundref40_Ceiling.mono _ _ _
      | exact LeO.none _
      | refine LeO.ite ?_ ?_
      | refine LeO.bind ?_ (fun _ => ?_)
set_option maxHeartbeats 8000000 in
set_option maxRecDepth 100000 in
theorem timeboundref40_Blocking.calls (k : Nat) (A0 : Option Addr) (c0 : Nat) (l0 : List (S48)) (a1 : Int) (a2 : Int) (r : Int) (w : World) (hr0 : Kd.C k48 w A0 l0.length l0) (hc0 : l0.length ≤ c0) (h : timeboundref40_Blocking.f k l0 a1 a2 = some r) :
    Calls Try.prog 25 #[.slice A0 l0.length c0, .int .i64 a1, .int .i64 a2] w fun e w' => e = .returned (.int .i64 r) ∧ Below w.heap.size w w' := by
  have hu48 := Try.underlying48
  have hu50 := Try.underlying50
  have HR0 := Aside0.mk hr0
  have HC0 := Aside0.mk hc0
  clear hr0 hc0
  have HB := Aside0.mk (Below.refl w.heap.size w)
  have H : (timeboundref40_Blocking.l0 k l0 a1 a2 0 l0 (l0.length : Int) 0) = some r := h
  clear h
  have H' := Aside0.mk H
  clear H
  go_enter Try.func25, Try.ntmps25
  go_wp2
  go_loopg [7, 16] k (fun kq v7 v16 w' => ∃ (x7_1 : Int) (x16_1 : Int), v7 = .int .i64 x7_1 ∧ v16 = .int .i64 x16_1 ∧ Aside0 (timeboundref40_Blocking.l0 kq l0 a1 a2 x7_1 l0 (l0.length : Int) x16_1 = some r) ∧ Aside0 (kq ≤ k) ∧ Aside0 (Below w.heap.size w w'))
  case atStart => exact ⟨(0), (0), (by first | rfl | (simp; done) | (simp [*]; done)), (by first | rfl | (simp; done) | (simp [*]; done)), H', ⟨Nat.le_refl _⟩, ⟨by repeat (first | (with_reducible first | exact HB.out | apply below_alloc | apply pw_below_drewN | apply below_drew1) | exact HB.out)⟩⟩
  case round =>
    clear H'
    try clear c2
    try clear p2
    obtain ⟨x7_1, x16_1, rfl, rfl, HA, HK1, HB⟩ := hrel
    cases gk with
    | zero => exact absurd HA.out (by simp [timeboundref40_Blocking.l0])
    | succ k1 =>
      have H := HA.out
      clear HA
      simp only [timeboundref40_Blocking.l0] at H
      by_cases c4 : x16_1 < (l0.length : Int)
      · rw [if_pos c4] at H
        have c4b0 : decide (x16_1 < (l0.length : Int)) = true := decide_eq_true c4
        clear c4
        by_cases c5 : 0 ≤ x16_1
        · rw [if_pos c5] at H
          have c5b0 : decide (0 ≤ x16_1) = true := decide_eq_true c5
          clear c5
          by_cases c6 : x16_1 < (l0.length : Int)
          · rw [if_pos c6] at H
            have c6b0 : decide (x16_1 < (l0.length : Int)) = true := decide_eq_true c6
            clear c6
            replace H := Option.bind_eq_some_iff.mp H
            obtain ⟨t179, A70, H⟩ := H
            replace H : (if t179 = true then (timeboundref40_Blocking.l1 k1 l0 a1 a2 (mx x7_1 a2) l0 (l0.length : Int) x16_1 ((rd_T48 l0 x16_1).f5) (((rd_T48 l0 x16_1).f5).length : Int) 0) else (timeboundref40_Blocking.l0 k1 l0 a1 a2 x7_1 l0 (l0.length : Int) (wrap64 (x16_1 + 1)))) = some r := H
            have A7 := Aside0.mk A70
            clear A70
            by_cases c8 : t179 = true
            · subst c8
              have H1 : (timeboundref40_Blocking.l1 k1 l0 a1 a2 (mx x7_1 a2) l0 (l0.length : Int) x16_1 ((rd_T48 l0 x16_1).f5) (((rd_T48 l0 x16_1).f5).length : Int) 0) = some r := by rw [if_pos rfl] at H; exact H
              clear H
              have H := H1
              clear H1
              obtain ⟨ji9, hji9⟩ : ∃ j_ : Int, (mx x7_1 a2) = j_ := ⟨_, rfl⟩
              replace H : (timeboundref40_Blocking.l1 k1 l0 a1 a2 ji9 l0 (l0.length : Int) x16_1 ((rd_T48 l0 x16_1).f5) (((rd_T48 l0 x16_1).f5).length : Int) 0) = some r := by first | (rw [hji9] at H; exact H) | (simp only [hji9] at H ⊢; exact H)
              (try rw [hji9] at A7)
              have hji9_ : (if x7_1 < a2 then a2 else x7_1) = ji9 := hji9
              have H' := Aside0.mk H
              clear H
              have p177 : 0 ≤ (x16_1 : Int) := of_decide_eq_true (by first | (with_reducible assumption) | assumption)
              have q177 : x16_1 < (l0.length : Int) := of_decide_eq_true (by first | (with_reducible assumption) | assumption)
              obtain ⟨ad177, A177_5, c177_5, e177, hx177_0, hx177_1, hx177_2, hx177_3, hx177_4, hx177_5, hx177_6, hl177_5, hi177_5⟩ := at_T48 HR0.out x16_1 p177 q177
              cases e177
              replace hx177_0 := (HB.out.cell (World.block_lt_of_cell? w _ hx177_0)).trans hx177_0
              replace hx177_1 := (HB.out.cell (World.block_lt_of_cell? w _ hx177_1)).trans hx177_1
              replace hx177_2 := (HB.out.cell (World.block_lt_of_cell? w _ hx177_2)).trans hx177_2
              replace hx177_3 := (HB.out.cell (World.block_lt_of_cell? w _ hx177_3)).trans hx177_3
              replace hx177_4 := (HB.out.cell (World.block_lt_of_cell? w _ hx177_4)).trans hx177_4
              replace hx177_5 := (HB.out.cell (World.block_lt_of_cell? w _ hx177_5)).trans hx177_5
              replace hx177_6 := (HB.out.cell (World.block_lt_of_cell? w _ hx177_6)).trans hx177_6
              have HR177_5 := Aside0.mk hi177_5
              have HC177_5 := Aside0.mk hl177_5
              clear hi177_5 hl177_5
              replace p177 := eq_true p177
              replace q177 := eq_true q177
              go_wp2_with (first | ((with_reducible refine gate_dst (N := 9) rfl ?_); refine box_event ?hg (N := 9) ?hd (cs := #[.int .i64 0, .int .i64 0, .int .i64 0, .int .i64 0, .int .i64 0, .slice none 0 0, .int .i64 0]) (t := 48) ?hr ?_; (case hd => rfl); (case hg => rfl); (case hr => first | (go_simp; done) | (go_simp; rfl)); intro gb178 hg w10 hbox hb; have n0_ := Aside0.mk (below_step (by repeat (first | (with_reducible first | exact HB.out | apply below_alloc | apply pw_below_drewN | apply below_drew1) | exact HB.out)) hb); have n1_ := Aside0.mk (hbox); have n2_ := Aside0.mk ((by rw [hg]; exact (below_size (by repeat (first | (with_reducible first | exact HB.out | apply below_alloc | apply pw_below_drewN | apply below_drew1) | exact HB.out))) : w.heap.size ≤ gb178)); have n3_ := Aside0.mk ((by rw [hg]; exact (below_size (by repeat (first | (with_reducible first | exact HB.out | apply below_alloc | apply pw_below_drewN | apply below_drew1) | exact HB.out))) : w.heap.size ≤ gb178)); clear HB; have HB := n0_; have BK178 := n1_; have GW178 := n2_; have GE178 := n3_; clear n0_ n1_ n2_ n3_; clear hb hbox hg; have hcz11_0 : w10.cell? ⟨gb178, 0, none⟩ = some (.int .i64 0) := (blk_cell BK178.out 0).trans rfl; have hcz11_1 : w10.cell? ⟨gb178, 1, none⟩ = some (.int .i64 0) := (blk_cell BK178.out 1).trans rfl; have hcz11_2 : w10.cell? ⟨gb178, 2, none⟩ = some (.int .i64 0) := (blk_cell BK178.out 2).trans rfl; have hcz11_3 : w10.cell? ⟨gb178, 3, none⟩ = some (.int .i64 0) := (blk_cell BK178.out 3).trans rfl; have hcz11_4 : w10.cell? ⟨gb178, 4, none⟩ = some (.int .i64 0) := (blk_cell BK178.out 4).trans rfl; have hcz11_5 : w10.cell? ⟨gb178, 5, none⟩ = some (.slice none 0 0) := (blk_cell BK178.out 5).trans rfl; have hcz11_6 : w10.cell? ⟨gb178, 6, none⟩ = some (.int .i64 0) := (blk_cell BK178.out 6).trans rfl; have hfz11_0 := blk_frozen BK178.out 0; have hfz11_1 := blk_frozen BK178.out 1; have hfz11_2 := blk_frozen BK178.out 2; have hfz11_3 := blk_frozen BK178.out 3; have hfz11_4 := blk_frozen BK178.out 4; have hfz11_5 := blk_frozen BK178.out 5; have hfz11_6 := blk_frozen BK178.out 6) | ((with_reducible refine gate_callee (f := 20) rfl ?_); refine goesL_ (some 24) rfl rfl Try.func20 (by kernel_rfl) rfl #[.slice (some ad177) l0.length c0, .int .i64 a1, .int .i64 x16_1] rfl (by (try simp only [List.map_toArray, List.map_cons, List.map_nil]); first | done | rfl | (simp only [List.length_drop, List.length_take]; rfl)) ?_; (with_reducible refine (timeboundref40_Before.calls _ _ l0 a1 x16_1 true _ ?side1 ?side2 A7.out).mono ?_); (case side1 => exact Kd.C_below HR0.out (by repeat (first | (with_reducible first | exact HB.out | apply below_alloc | apply pw_below_drewN | apply below_drew1 | refine below_set ?_ GE178.out) | exact HB.out))); (case side2 => exact HC0.out); rintro e w' ⟨rfl, ⟨nd, rfl⟩⟩; refine ⟨_, rfl, ?_⟩))
              go_loopg [7, 32] k1 (fun kq v7 v32 w' => ∃ (x7_2 : Int) (x32_2 : Int), v7 = .int .i64 x7_2 ∧ v32 = .int .i64 x32_2 ∧ Aside0 (timeboundref40_Blocking.l1 kq l0 a1 a2 x7_2 l0 (l0.length : Int) x16_1 ((rd_T48 l0 x16_1).f5) (((rd_T48 l0 x16_1).f5).length : Int) x32_2 = some r) ∧ Aside0 (kq ≤ k1) ∧ Aside0 (w'.heap[gb178]? = some (.cells #[.int .i64 ((rd_T48 l0 x16_1).f0), .int .i64 ((rd_T48 l0 x16_1).f1), .int .i64 ((rd_T48 l0 x16_1).f2), .int .i64 ((rd_T48 l0 x16_1).f3), .int .i64 ((rd_T48 l0 x16_1).f4), (.slice A177_5 ((rd_T48 l0 x16_1).f5).length c177_5), .int .i64 ((rd_T48 l0 x16_1).f6)] 48 (0, 0))) ∧ Aside0 (Below w.heap.size w w'))
              case atStart => exact ⟨(ji9), (0), (by first | rfl | (simp; done) | (simp only [← hji9] <;> (first | rfl | simp)) | (simp [*]; done)), (by first | rfl | (simp; done) | (simp [*]; done)), H', ⟨Nat.le_refl _⟩, ⟨by (with_reducible repeat (first | refine blk_drewN ?_ _ | refine blk_drew ?_ | refine blk_alloc ?_ _)); refine blk_put (cs := #[.int .i64 ((rd_T48 l0 x16_1).f0), .int .i64 ((rd_T48 l0 x16_1).f1), .int .i64 ((rd_T48 l0 x16_1).f2), .int .i64 ((rd_T48 l0 x16_1).f3), .int .i64 ((rd_T48 l0 x16_1).f4), .slice A177_5 ((rd_T48 l0 x16_1).f5).length c177_5, .int .i64 0]) ?_ 6 _ rfl; (with_reducible repeat (first | refine blk_drewN ?_ _ | refine blk_drew ?_ | refine blk_alloc ?_ _)); refine blk_put (cs := #[.int .i64 ((rd_T48 l0 x16_1).f0), .int .i64 ((rd_T48 l0 x16_1).f1), .int .i64 ((rd_T48 l0 x16_1).f2), .int .i64 ((rd_T48 l0 x16_1).f3), .int .i64 ((rd_T48 l0 x16_1).f4), .slice none 0 0, .int .i64 0]) ?_ 5 _ rfl; (with_reducible repeat (first | refine blk_drewN ?_ _ | refine blk_drew ?_ | refine blk_alloc ?_ _)); refine blk_put (cs := #[.int .i64 ((rd_T48 l0 x16_1).f0), .int .i64 ((rd_T48 l0 x16_1).f1), .int .i64 ((rd_T48 l0 x16_1).f2), .int .i64 ((rd_T48 l0 x16_1).f3), .int .i64 0, .slice none 0 0, .int .i64 0]) ?_ 4 _ rfl; (with_reducible repeat (first | refine blk_drewN ?_ _ | refine blk_drew ?_ | refine blk_alloc ?_ _)); refine blk_put (cs := #[.int .i64 ((rd_T48 l0 x16_1).f0), .int .i64 ((rd_T48 l0 x16_1).f1), .int .i64 ((rd_T48 l0 x16_1).f2), .int .i64 0, .int .i64 0, .slice none 0 0, .int .i64 0]) ?_ 3 _ rfl; (with_reducible repeat (first | refine blk_drewN ?_ _ | refine blk_drew ?_ | refine blk_alloc ?_ _)); refine blk_put (cs := #[.int .i64 ((rd_T48 l0 x16_1).f0), .int .i64 ((rd_T48 l0 x16_1).f1), .int .i64 0, .int .i64 0, .int .i64 0, .slice none 0 0, .int .i64 0]) ?_ 2 _ rfl; (with_reducible repeat (first | refine blk_drewN ?_ _ | refine blk_drew ?_ | refine blk_alloc ?_ _)); refine blk_put (cs := #[.int .i64 ((rd_T48 l0 x16_1).f0), .int .i64 0, .int .i64 0, .int .i64 0, .int .i64 0, .slice none 0 0, .int .i64 0]) ?_ 1 _ rfl; (with_reducible repeat (first | refine blk_drewN ?_ _ | refine blk_drew ?_ | refine blk_alloc ?_ _)); refine blk_put (cs := #[.int .i64 0, .int .i64 0, .int .i64 0, .int .i64 0, .int .i64 0, .slice none 0 0, .int .i64 0]) ?_ 0 _ rfl; (with_reducible repeat (first | refine blk_drewN ?_ _ | refine blk_drew ?_ | refine blk_alloc ?_ _)); exact BK178.out⟩, ⟨by repeat (first | (with_reducible first | exact HB.out | apply below_alloc | apply pw_below_drewN | apply below_drew1 | refine below_set ?_ GE178.out) | exact HB.out)⟩⟩
              case round =>
                clear H'
                try clear c1
                try clear p1
                try clear q1
                try clear hx1
                try clear c2
                try clear p2
                try clear c4
                try clear c4b0
                try clear c5
                try clear c5b0
                try clear c6
                try clear c6b0
                try clear p6
                try clear c8
                try clear hcz11_0
                try clear hcz11_1
                try clear hcz11_2
                try clear hcz11_3
                try clear hcz11_4
                try clear hcz11_5
                try clear hcz11_6
                try clear hfz11_0
                try clear hfz11_1
                try clear hfz11_2
                try clear hfz11_3
                try clear hfz11_4
                try clear hfz11_5
                try clear hfz11_6
                try clear hx177_0
                try clear hx177_1
                try clear hx177_2
                try clear hx177_3
                try clear hx177_4
                try clear hx177_5
                try clear hx177_6
                try clear p177
                try clear p2
                try clear q177
                obtain ⟨x7_2, x32_2, rfl, rfl, HA, HK2, BK178, HB⟩ := hrel
                cases gk with
                | zero => exact absurd HA.out (by simp [timeboundref40_Blocking.l1])
                | succ k2 =>
                  have H := HA.out
                  clear HA
                  simp only [timeboundref40_Blocking.l1] at H
                  by_cases c12 : x32_2 < (((rd_T48 l0 x16_1).f5).length : Int)
                  · rw [if_pos c12] at H
                    have c12b0 : decide (x32_2 < (((rd_T48 l0 x16_1).f5).length : Int)) = true := decide_eq_true c12
                    clear c12
                    by_cases c13 : 0 ≤ x32_2
                    · rw [if_pos c13] at H
                      have c13b0 : decide (0 ≤ x32_2) = true := decide_eq_true c13
                      clear c13
                      by_cases c14 : x32_2 < (((rd_T48 l0 x16_1).f5).length : Int)
                      · rw [if_pos c14] at H
                        have c14b0 : decide (x32_2 < (((rd_T48 l0 x16_1).f5).length : Int)) = true := decide_eq_true c14
                        clear c14
                        replace H := Option.bind_eq_some_iff.mp H
                        obtain ⟨⟨t182, t183⟩, A150, H⟩ := H
                        replace H : (if t183 = true then (if t182 = a1 then (timeboundref40_Blocking.l1 k2 l0 a1 a2 (mx x7_2 ((rd_T50 ((rd_T48 l0 x16_1).f5) x32_2).f1)) l0 (l0.length : Int) x16_1 ((rd_T48 l0 x16_1).f5) (((rd_T48 l0 x16_1).f5).length : Int) (wrap64 (x32_2 + 1))) else ((timeboundref40_Before.f l0 t182 a1).bind fun t184 => (if t184 = true then (timeboundref40_Blocking.l1 k2 l0 a1 a2 (mx x7_2 ((rd_T50 ((rd_T48 l0 x16_1).f5) x32_2).f1)) l0 (l0.length : Int) x16_1 ((rd_T48 l0 x16_1).f5) (((rd_T48 l0 x16_1).f5).length : Int) (wrap64 (x32_2 + 1))) else (timeboundref40_Blocking.l1 k2 l0 a1 a2 x7_2 l0 (l0.length : Int) x16_1 ((rd_T48 l0 x16_1).f5) (((rd_T48 l0 x16_1).f5).length : Int) (wrap64 (x32_2 + 1)))))) else (timeboundref40_Blocking.l1 k2 l0 a1 a2 x7_2 l0 (l0.length : Int) x16_1 ((rd_T48 l0 x16_1).f5) (((rd_T48 l0 x16_1).f5).length : Int) (wrap64 (x32_2 + 1)))) = some r := H
                        have A15 := Aside0.mk A150
                        clear A150
                        by_cases c16 : t183 = true
                        · subst c16
                          have H1 : (if t182 = a1 then (timeboundref40_Blocking.l1 k2 l0 a1 a2 (mx x7_2 ((rd_T50 ((rd_T48 l0 x16_1).f5) x32_2).f1)) l0 (l0.length : Int) x16_1 ((rd_T48 l0 x16_1).f5) (((rd_T48 l0 x16_1).f5).length : Int) (wrap64 (x32_2 + 1))) else ((timeboundref40_Before.f l0 t182 a1).bind fun t184 => (if t184 = true then (timeboundref40_Blocking.l1 k2 l0 a1 a2 (mx x7_2 ((rd_T50 ((rd_T48 l0 x16_1).f5) x32_2).f1)) l0 (l0.length : Int) x16_1 ((rd_T48 l0 x16_1).f5) (((rd_T48 l0 x16_1).f5).length : Int) (wrap64 (x32_2 + 1))) else (timeboundref40_Blocking.l1 k2 l0 a1 a2 x7_2 l0 (l0.length : Int) x16_1 ((rd_T48 l0 x16_1).f5) (((rd_T48 l0 x16_1).f5).length : Int) (wrap64 (x32_2 + 1)))))) = some r := by rw [if_pos rfl] at H; exact H
                          clear H
                          have H := H1
                          clear H1
                          by_cases c17 : t182 = a1
                          · rw [if_pos c17] at H
                            have c17b0 : (t182 == a1) = true := beq_iff_eq.mpr c17
                            have c17b1 : (t182 != a1) = false := bne_eq_false_iff_eq.mpr c17
                            clear c17
                            obtain ⟨ji18, hji18⟩ : ∃ j_ : Int, (mx x7_2 ((rd_T50 ((rd_T48 l0 x16_1).f5) x32_2).f1)) = j_ := ⟨_, rfl⟩
                            replace H : (timeboundref40_Blocking.l1 k2 l0 a1 a2 ji18 l0 (l0.length : Int) x16_1 ((rd_T48 l0 x16_1).f5) (((rd_T48 l0 x16_1).f5).length : Int) (wrap64 (x32_2 + 1))) = some r := by first | (rw [hji18] at H; exact H) | (simp only [hji18] at H ⊢; exact H)
                            (try rw [hji18] at A15)
                            have hji18_ : (if x7_2 < ((rd_T50 ((rd_T48 l0 x16_1).f5) x32_2).f1) then ((rd_T50 ((rd_T48 l0 x16_1).f5) x32_2).f1) else x7_2) = ji18 := hji18
                            have H' := Aside0.mk H
                            clear H
                            have p180 : 0 ≤ (x32_2 : Int) := of_decide_eq_true (by first | (with_reducible assumption) | assumption)
                            have q180 : x32_2 < (((rd_T48 l0 x16_1).f5).length : Int) := of_decide_eq_true (by first | (with_reducible assumption) | assumption)
                            obtain ⟨ad180, e180, hx180_0, hx180_1⟩ := at_T50 HR177_5.out x32_2 p180 q180
                            cases e180
                            replace hx180_0 := (HB.out.cell (World.block_lt_of_cell? w _ hx180_0)).trans hx180_0
                            replace hx180_1 := (HB.out.cell (World.block_lt_of_cell? w _ hx180_1)).trans hx180_1
                            replace p180 := eq_true p180
                            replace q180 := eq_true q180
                            go_wp2_with (first | ((with_reducible refine gate_dst (N := 11) rfl ?_); refine box_event ?hg (N := 11) ?hd (cs := #[.int .i64 0, .int .i64 0]) (t := 50) ?hr ?_; (case hd => rfl); (case hg => rfl); (case hr => first | (go_simp; done) | (go_simp; rfl)); intro gb181 hg w19 hbox hb; have n0_ := Aside0.mk (blk_below (g := gb178) (o := .cells #[.int .i64 ((rd_T48 l0 x16_1).f0), .int .i64 ((rd_T48 l0 x16_1).f1), .int .i64 ((rd_T48 l0 x16_1).f2), .int .i64 ((rd_T48 l0 x16_1).f3), .int .i64 ((rd_T48 l0 x16_1).f4), .slice (some ad180) ((rd_T48 l0 x16_1).f5).length c177_5, .int .i64 ((rd_T48 l0 x16_1).f6)] 48 (0, 0)) (by (with_reducible repeat (first | refine blk_drewN ?_ _ | refine blk_drew ?_ | refine blk_alloc ?_ _)); exact BK178.out) hb); have n1_ := Aside0.mk (below_step (by repeat (first | (with_reducible first | exact HB.out | apply below_alloc | apply pw_below_drewN | apply below_drew1 | refine below_set ?_ GE178.out) | exact HB.out)) hb); have n2_ := Aside0.mk (hbox); have n3_ := Aside0.mk ((by rw [hg]; exact (below_size (by repeat (first | (with_reducible first | exact HB.out | apply below_alloc | apply pw_below_drewN | apply below_drew1 | refine below_set ?_ GE178.out) | exact HB.out))) : w.heap.size ≤ gb181)); have n4_ := Aside0.mk ((by rw [hg]; exact (below_size (by repeat (first | (with_reducible first | exact HB.out | apply below_alloc | apply pw_below_drewN | apply below_drew1 | refine below_set ?_ GE178.out) | exact HB.out))) : w.heap.size ≤ gb181)); have n5_ := Aside0.mk ((by rw [hg]; exact Nat.ne_of_lt (blk_lt (g := gb178) (o := .cells #[.int .i64 ((rd_T48 l0 x16_1).f0), .int .i64 ((rd_T48 l0 x16_1).f1), .int .i64 ((rd_T48 l0 x16_1).f2), .int .i64 ((rd_T48 l0 x16_1).f3), .int .i64 ((rd_T48 l0 x16_1).f4), .slice (some ad180) ((rd_T48 l0 x16_1).f5).length c177_5, .int .i64 ((rd_T48 l0 x16_1).f6)] 48 (0, 0)) (by (with_reducible repeat (first | refine blk_drewN ?_ _ | refine blk_drew ?_ | refine blk_alloc ?_ _)); exact BK178.out)) : gb178 ≠ gb181)); have n6_ := Aside0.mk ((by rw [hg]; exact Nat.ne_of_gt (blk_lt (g := gb178) (o := .cells #[.int .i64 ((rd_T48 l0 x16_1).f0), .int .i64 ((rd_T48 l0 x16_1).f1), .int .i64 ((rd_T48 l0 x16_1).f2), .int .i64 ((rd_T48 l0 x16_1).f3), .int .i64 ((rd_T48 l0 x16_1).f4), .slice (some ad180) ((rd_T48 l0 x16_1).f5).length c177_5, .int .i64 ((rd_T48 l0 x16_1).f6)] 48 (0, 0)) (by (with_reducible repeat (first | refine blk_drewN ?_ _ | refine blk_drew ?_ | refine blk_alloc ?_ _)); exact BK178.out)) : gb181 ≠ gb178)); clear BK178; clear HB; have BK178 := n0_; have HB := n1_; have BK181 := n2_; have GW181 := n3_; have GE181 := n4_; have NB178_181 := n5_; have NB181_178 := n6_; clear n0_ n1_ n2_ n3_ n4_ n5_ n6_; clear hb hbox hg; have hnb20 := NB181_178.out; have hnc20 := NB178_181.out; have hcz21_0 : w19.cell? ⟨gb181, 0, none⟩ = some (.int .i64 0) := (blk_cell BK181.out 0).trans rfl; have hcz21_1 : w19.cell? ⟨gb181, 1, none⟩ = some (.int .i64 0) := (blk_cell BK181.out 1).trans rfl; have hfz21_0 := blk_frozen BK181.out 0; have hfz21_1 := blk_frozen BK181.out 1) | ((with_reducible refine gate_callee (f := 22) rfl ?_); refine goesL_ (some 40) rfl rfl Try.func22 (by kernel_rfl) rfl #[.slice (some ad177) l0.length c0, .int .i64 ((rd_T50 ((rd_T48 l0 x16_1).f5) x32_2).f0)] rfl (by (try simp only [List.map_toArray, List.map_cons, List.map_nil]); first | done | rfl | (simp only [List.length_drop, List.length_take]; rfl)) ?_; (with_reducible refine (timeboundref40_Ceiling.calls k2 _ _ l0 ((rd_T50 ((rd_T48 l0 x16_1).f5) x32_2).f0) t182 true _ ?side1 ?side2 A15.out).mono ?_); (case side1 => exact Kd.C_below HR0.out (by repeat (first | (with_reducible first | exact HB.out | apply below_alloc | apply pw_below_drewN | apply below_drew1 | refine below_set ?_ GE178.out | refine below_set ?_ GE181.out) | exact HB.out))); (case side2 => exact HC0.out); rintro e w22 ⟨rfl, hb⟩; refine ⟨_, rfl, ?_⟩; have n0_ := Aside0.mk (blk_below (g := gb178) (o := .cells #[.int .i64 ((rd_T48 l0 x16_1).f0), .int .i64 ((rd_T48 l0 x16_1).f1), .int .i64 ((rd_T48 l0 x16_1).f2), .int .i64 ((rd_T48 l0 x16_1).f3), .int .i64 ((rd_T48 l0 x16_1).f4), .slice (some ad180) ((rd_T48 l0 x16_1).f5).length c177_5, .int .i64 ((rd_T48 l0 x16_1).f6)] 48 (0, 0)) (by (with_reducible repeat (first | refine blk_drewN ?_ _ | refine blk_drew ?_ | refine blk_alloc ?_ _)); refine blk_far ?_ NB178_181.out _; (with_reducible repeat (first | refine blk_drewN ?_ _ | refine blk_drew ?_ | refine blk_alloc ?_ _)); refine blk_far ?_ NB178_181.out _; (with_reducible repeat (first | refine blk_drewN ?_ _ | refine blk_drew ?_ | refine blk_alloc ?_ _)); exact BK178.out) hb); have n1_ := Aside0.mk (blk_below (g := gb181) (o := .cells #[.int .i64 ((rd_T50 ((rd_T48 l0 x16_1).f5) x32_2).f0), .int .i64 ((rd_T50 ((rd_T48 l0 x16_1).f5) x32_2).f1)] 50 (0, 0)) (by (with_reducible repeat (first | refine blk_drewN ?_ _ | refine blk_drew ?_ | refine blk_alloc ?_ _)); refine blk_put (cs := #[.int .i64 ((rd_T50 ((rd_T48 l0 x16_1).f5) x32_2).f0), .int .i64 0]) ?_ 1 _ rfl; (with_reducible repeat (first | refine blk_drewN ?_ _ | refine blk_drew ?_ | refine blk_alloc ?_ _)); refine blk_put (cs := #[.int .i64 0, .int .i64 0]) ?_ 0 _ rfl; (with_reducible repeat (first | refine blk_drewN ?_ _ | refine blk_drew ?_ | refine blk_alloc ?_ _)); exact BK181.out) hb); have n2_ := Aside0.mk (below_step (by repeat (first | (with_reducible first | exact HB.out | apply below_alloc | apply pw_below_drewN | apply below_drew1 | refine below_set ?_ GE178.out | refine below_set ?_ GE181.out) | exact HB.out)) hb); clear BK178; clear BK181; clear HB; have BK178 := n0_; have BK181 := n1_; have HB := n2_; clear n0_ n1_ n2_; (try clear hb); (try clear hb2); (try clear hk); (try clear hi); have hcz23_0 : w22.cell? ⟨gb181, 0, none⟩ = some (.int .i64 ((rd_T50 ((rd_T48 l0 x16_1).f5) x32_2).f0)) := (blk_cell BK181.out 0).trans rfl; have hcz23_1 : w22.cell? ⟨gb181, 1, none⟩ = some (.int .i64 ((rd_T50 ((rd_T48 l0 x16_1).f5) x32_2).f1)) := (blk_cell BK181.out 1).trans rfl; have hfz23_0 := blk_frozen BK181.out 0; have hfz23_1 := blk_frozen BK181.out 1))
                            go_roundg k2
                            case measure => have := HK1.out; have := HK2.out; omega
                            case rel => exact ⟨(ji18), (wrap64 (x32_2 + 1)), (by first | rfl | (simp; done) | (simp only [← hji18] <;> (first | rfl | simp)) | (simp [*]; done)), (by first | rfl | (simp; done) | (simp [*]; done)), H', ⟨by have := HK1.out; have := HK2.out; omega⟩, ⟨by (with_reducible repeat (first | refine blk_drewN ?_ _ | refine blk_drew ?_ | refine blk_alloc ?_ _)); exact BK178.out⟩, ⟨by repeat (first | (with_reducible first | exact HB.out | apply below_alloc | apply pw_below_drewN | apply below_drew1 | refine below_set ?_ GE178.out | refine below_set ?_ GE181.out) | exact HB.out)⟩⟩
                          · rw [if_neg c17] at H
                            have c17b0 : (t182 == a1) = false := beq_eq_false_iff_ne.mpr c17
                            have c17b1 : (t182 != a1) = true := bne_iff_ne.mpr c17
                            replace H := Option.bind_eq_some_iff.mp H
                            obtain ⟨t184, A240, H⟩ := H
                            replace H : (if t184 = true then (timeboundref40_Blocking.l1 k2 l0 a1 a2 (mx x7_2 ((rd_T50 ((rd_T48 l0 x16_1).f5) x32_2).f1)) l0 (l0.length : Int) x16_1 ((rd_T48 l0 x16_1).f5) (((rd_T48 l0 x16_1).f5).length : Int) (wrap64 (x32_2 + 1))) else (timeboundref40_Blocking.l1 k2 l0 a1 a2 x7_2 l0 (l0.length : Int) x16_1 ((rd_T48 l0 x16_1).f5) (((rd_T48 l0 x16_1).f5).length : Int) (wrap64 (x32_2 + 1)))) = some r := H
                            have A24 := Aside0.mk A240
                            clear A240
                            by_cases c25 : t184 = true
                            · subst c25
                              have H1 : (timeboundref40_Blocking.l1 k2 l0 a1 a2 (mx x7_2 ((rd_T50 ((rd_T48 l0 x16_1).f5) x32_2).f1)) l0 (l0.length : Int) x16_1 ((rd_T48 l0 x16_1).f5) (((rd_T48 l0 x16_1).f5).length : Int) (wrap64 (x32_2 + 1))) = some r := by rw [if_pos rfl] at H; exact H
                              clear H
                              have H := H1
                              clear H1
                              obtain ⟨ji26, hji26⟩ : ∃ j_ : Int, (mx x7_2 ((rd_T50 ((rd_T48 l0 x16_1).f5) x32_2).f1)) = j_ := ⟨_, rfl⟩
                              replace H : (timeboundref40_Blocking.l1 k2 l0 a1 a2 ji26 l0 (l0.length : Int) x16_1 ((rd_T48 l0 x16_1).f5) (((rd_T48 l0 x16_1).f5).length : Int) (wrap64 (x32_2 + 1))) = some r := by first | (rw [hji26] at H; exact H) | (simp only [hji26] at H ⊢; exact H)
                              (try rw [hji26] at A15)
                              (try rw [hji26] at A24)
                              have hji26_ : (if x7_2 < ((rd_T50 ((rd_T48 l0 x16_1).f5) x32_2).f1) then ((rd_T50 ((rd_T48 l0 x16_1).f5) x32_2).f1) else x7_2) = ji26 := hji26
                              have H' := Aside0.mk H
                              clear H
                              have p180 : 0 ≤ (x32_2 : Int) := of_decide_eq_true (by first | (with_reducible assumption) | assumption)
                              have q180 : x32_2 < (((rd_T48 l0 x16_1).f5).length : Int) := of_decide_eq_true (by first | (with_reducible assumption) | assumption)
                              obtain ⟨ad180, e180, hx180_0, hx180_1⟩ := at_T50 HR177_5.out x32_2 p180 q180
                              cases e180
                              replace hx180_0 := (HB.out.cell (World.block_lt_of_cell? w _ hx180_0)).trans hx180_0
                              replace hx180_1 := (HB.out.cell (World.block_lt_of_cell? w _ hx180_1)).trans hx180_1
                              replace p180 := eq_true p180
                              replace q180 := eq_true q180
                              go_wp2_with (first | ((with_reducible refine gate_dst (N := 11) rfl ?_); refine box_event ?hg (N := 11) ?hd (cs := #[.int .i64 0, .int .i64 0]) (t := 50) ?hr ?_; (case hd => rfl); (case hg => rfl); (case hr => first | (go_simp; done) | (go_simp; rfl)); intro gb181 hg w27 hbox hb; have n0_ := Aside0.mk (blk_below (g := gb178) (o := .cells #[.int .i64 ((rd_T48 l0 x16_1).f0), .int .i64 ((rd_T48 l0 x16_1).f1), .int .i64 ((rd_T48 l0 x16_1).f2), .int .i64 ((rd_T48 l0 x16_1).f3), .int .i64 ((rd_T48 l0 x16_1).f4), .slice (some ad180) ((rd_T48 l0 x16_1).f5).length c177_5, .int .i64 ((rd_T48 l0 x16_1).f6)] 48 (0, 0)) (by (with_reducible repeat (first | refine blk_drewN ?_ _ | refine blk_drew ?_ | refine blk_alloc ?_ _)); exact BK178.out) hb); have n1_ := Aside0.mk (below_step (by repeat (first | (with_reducible first | exact HB.out | apply below_alloc | apply pw_below_drewN | apply below_drew1 | refine below_set ?_ GE178.out) | exact HB.out)) hb); have n2_ := Aside0.mk (hbox); have n3_ := Aside0.mk ((by rw [hg]; exact (below_size (by repeat (first | (with_reducible first | exact HB.out | apply below_alloc | apply pw_below_drewN | apply below_drew1 | refine below_set ?_ GE178.out) | exact HB.out))) : w.heap.size ≤ gb181)); have n4_ := Aside0.mk ((by rw [hg]; exact (below_size (by repeat (first | (with_reducible first | exact HB.out | apply below_alloc | apply pw_below_drewN | apply below_drew1 | refine below_set ?_ GE178.out) | exact HB.out))) : w.heap.size ≤ gb181)); have n5_ := Aside0.mk ((by rw [hg]; exact Nat.ne_of_lt (blk_lt (g := gb178) (o := .cells #[.int .i64 ((rd_T48 l0 x16_1).f0), .int .i64 ((rd_T48 l0 x16_1).f1), .int .i64 ((rd_T48 l0 x16_1).f2), .int .i64 ((rd_T48 l0 x16_1).f3), .int .i64 ((rd_T48 l0 x16_1).f4), .slice (some ad180) ((rd_T48 l0 x16_1).f5).length c177_5, .int .i64 ((rd_T48 l0 x16_1).f6)] 48 (0, 0)) (by (with_reducible repeat (first | refine blk_drewN ?_ _ | refine blk_drew ?_ | refine blk_alloc ?_ _)); exact BK178.out)) : gb178 ≠ gb181)); have n6_ := Aside0.mk ((by rw [hg]; exact Nat.ne_of_gt (blk_lt (g := gb178) (o := .cells #[.int .i64 ((rd_T48 l0 x16_1).f0), .int .i64 ((rd_T48 l0 x16_1).f1), .int .i64 ((rd_T48 l0 x16_1).f2), .int .i64 ((rd_T48 l0 x16_1).f3), .int .i64 ((rd_T48 l0 x16_1).f4), .slice (some ad180) ((rd_T48 l0 x16_1).f5).length c177_5, .int .i64 ((rd_T48 l0 x16_1).f6)] 48 (0, 0)) (by (with_reducible repeat (first | refine blk_drewN ?_ _ | refine blk_drew ?_ | refine blk_alloc ?_ _)); exact BK178.out)) : gb181 ≠ gb178)); clear BK178; clear HB; have BK178 := n0_; have HB := n1_; have BK181 := n2_; have GW181 := n3_; have GE181 := n4_; have NB178_181 := n5_; have NB181_178 := n6_; clear n0_ n1_ n2_ n3_ n4_ n5_ n6_; clear hb hbox hg; have hnb28 := NB181_178.out; have hnc28 := NB178_181.out; have hcz29_0 : w27.cell? ⟨gb181, 0, none⟩ = some (.int .i64 0) := (blk_cell BK181.out 0).trans rfl; have hcz29_1 : w27.cell? ⟨gb181, 1, none⟩ = some (.int .i64 0) := (blk_cell BK181.out 1).trans rfl; have hfz29_0 := blk_frozen BK181.out 0; have hfz29_1 := blk_frozen BK181.out 1) | ((with_reducible refine gate_callee (f := 22) rfl ?_); refine goesL_ (some 40) rfl rfl Try.func22 (by kernel_rfl) rfl #[.slice (some ad177) l0.length c0, .int .i64 ((rd_T50 ((rd_T48 l0 x16_1).f5) x32_2).f0)] rfl (by (try simp only [List.map_toArray, List.map_cons, List.map_nil]); first | done | rfl | (simp only [List.length_drop, List.length_take]; rfl)) ?_; (with_reducible refine (timeboundref40_Ceiling.calls k2 _ _ l0 ((rd_T50 ((rd_T48 l0 x16_1).f5) x32_2).f0) t182 true _ ?side1 ?side2 A15.out).mono ?_); (case side1 => exact Kd.C_below HR0.out (by repeat (first | (with_reducible first | exact HB.out | apply below_alloc | apply pw_below_drewN | apply below_drew1 | refine below_set ?_ GE178.out | refine below_set ?_ GE181.out) | exact HB.out))); (case side2 => exact HC0.out); rintro e w30 ⟨rfl, hb⟩; refine ⟨_, rfl, ?_⟩; have n0_ := Aside0.mk (blk_below (g := gb178) (o := .cells #[.int .i64 ((rd_T48 l0 x16_1).f0), .int .i64 ((rd_T48 l0 x16_1).f1), .int .i64 ((rd_T48 l0 x16_1).f2), .int .i64 ((rd_T48 l0 x16_1).f3), .int .i64 ((rd_T48 l0 x16_1).f4), .slice (some ad180) ((rd_T48 l0 x16_1).f5).length c177_5, .int .i64 ((rd_T48 l0 x16_1).f6)] 48 (0, 0)) (by (with_reducible repeat (first | refine blk_drewN ?_ _ | refine blk_drew ?_ | refine blk_alloc ?_ _)); refine blk_far ?_ NB178_181.out _; (with_reducible repeat (first | refine blk_drewN ?_ _ | refine blk_drew ?_ | refine blk_alloc ?_ _)); refine blk_far ?_ NB178_181.out _; (with_reducible repeat (first | refine blk_drewN ?_ _ | refine blk_drew ?_ | refine blk_alloc ?_ _)); exact BK178.out) hb); have n1_ := Aside0.mk (blk_below (g := gb181) (o := .cells #[.int .i64 ((rd_T50 ((rd_T48 l0 x16_1).f5) x32_2).f0), .int .i64 ((rd_T50 ((rd_T48 l0 x16_1).f5) x32_2).f1)] 50 (0, 0)) (by (with_reducible repeat (first | refine blk_drewN ?_ _ | refine blk_drew ?_ | refine blk_alloc ?_ _)); refine blk_put (cs := #[.int .i64 ((rd_T50 ((rd_T48 l0 x16_1).f5) x32_2).f0), .int .i64 0]) ?_ 1 _ rfl; (with_reducible repeat (first | refine blk_drewN ?_ _ | refine blk_drew ?_ | refine blk_alloc ?_ _)); refine blk_put (cs := #[.int .i64 0, .int .i64 0]) ?_ 0 _ rfl; (with_reducible repeat (first | refine blk_drewN ?_ _ | refine blk_drew ?_ | refine blk_alloc ?_ _)); exact BK181.out) hb); have n2_ := Aside0.mk (below_step (by repeat (first | (with_reducible first | exact HB.out | apply below_alloc | apply pw_below_drewN | apply below_drew1 | refine below_set ?_ GE178.out | refine below_set ?_ GE181.out) | exact HB.out)) hb); clear BK178; clear BK181; clear HB; have BK178 := n0_; have BK181 := n1_; have HB := n2_; clear n0_ n1_ n2_; (try clear hb); (try clear hb2); (try clear hk); (try clear hi)) | (go_at_call 20; (with_reducible refine (timeboundref40_Before.calls _ _ l0 t182 a1 true _ ?side1 ?side2 A24.out).mono ?_); (case side1 => repeat (first | exact (Kd.C_below HR0.out HB.out) | (with_reducible refine Kd.C_alloc ?_ _) | (with_reducible refine Kd.C_drewN ?_ _) | (with_reducible refine Kd.C_drew ?_))); (case side2 => exact HC0.out); rintro e w' ⟨rfl, ⟨nd, rfl⟩⟩; have hcz31_0 : w30.cell? ⟨gb181, 0, none⟩ = some (.int .i64 ((rd_T50 ((rd_T48 l0 x16_1).f5) x32_2).f0)) := (blk_cell BK181.out 0).trans rfl; have hcz31_1 : w30.cell? ⟨gb181, 1, none⟩ = some (.int .i64 ((rd_T50 ((rd_T48 l0 x16_1).f5) x32_2).f1)) := (blk_cell BK181.out 1).trans rfl; have hfz31_0 := blk_frozen BK181.out 0; have hfz31_1 := blk_frozen BK181.out 1))
                              go_roundg k2
                              case measure => have := HK1.out; have := HK2.out; omega
                              case rel => exact ⟨(ji26), (wrap64 (x32_2 + 1)), (by first | rfl | (simp; done) | (simp only [← hji26] <;> (first | rfl | simp)) | (simp [*]; done)), (by first | rfl | (simp; done) | (simp [*]; done)), H', ⟨by have := HK1.out; have := HK2.out; omega⟩, ⟨by (with_reducible repeat (first | refine blk_drewN ?_ _ | refine blk_drew ?_ | refine blk_alloc ?_ _)); exact BK178.out⟩, ⟨by repeat (first | (with_reducible first | exact HB.out | apply below_alloc | apply pw_below_drewN | apply below_drew1 | refine below_set ?_ GE178.out | refine below_set ?_ GE181.out) | exact HB.out)⟩⟩
                            · replace c25 := Bool.eq_false_iff.mpr c25
                              subst c25
                              have H1 : (timeboundref40_Blocking.l1 k2 l0 a1 a2 x7_2 l0 (l0.length : Int) x16_1 ((rd_T48 l0 x16_1).f5) (((rd_T48 l0 x16_1).f5).length : Int) (wrap64 (x32_2 + 1))) = some r := by rw [if_neg (show ¬ (false = true) by decide)] at H; exact H
                              clear H
                              have H := H1
                              clear H1
                              have H' := Aside0.mk H
                              clear H
                              have p180 : 0 ≤ (x32_2 : Int) := of_decide_eq_true (by first | (with_reducible assumption) | assumption)
                              have q180 : x32_2 < (((rd_T48 l0 x16_1).f5).length : Int) := of_decide_eq_true (by first | (with_reducible assumption) | assumption)
                              obtain ⟨ad180, e180, hx180_0, hx180_1⟩ := at_T50 HR177_5.out x32_2 p180 q180
                              cases e180
                              replace hx180_0 := (HB.out.cell (World.block_lt_of_cell? w _ hx180_0)).trans hx180_0
                              replace hx180_1 := (HB.out.cell (World.block_lt_of_cell? w _ hx180_1)).trans hx180_1
                              replace p180 := eq_true p180
                              replace q180 := eq_true q180
                              go_wp2_with (first | ((with_reducible refine gate_dst (N := 11) rfl ?_); refine box_event ?hg (N := 11) ?hd (cs := #[.int .i64 0, .int .i64 0]) (t := 50) ?hr ?_; (case hd => rfl); (case hg => rfl); (case hr => first | (go_simp; done) | (go_simp; rfl)); intro gb181 hg w32 hbox hb; have n0_ := Aside0.mk (blk_below (g := gb178) (o := .cells #[.int .i64 ((rd_T48 l0 x16_1).f0), .int .i64 ((rd_T48 l0 x16_1).f1), .int .i64 ((rd_T48 l0 x16_1).f2), .int .i64 ((rd_T48 l0 x16_1).f3), .int .i64 ((rd_T48 l0 x16_1).f4), .slice (some ad180) ((rd_T48 l0 x16_1).f5).length c177_5, .int .i64 ((rd_T48 l0 x16_1).f6)] 48 (0, 0)) (by (with_reducible repeat (first | refine blk_drewN ?_ _ | refine blk_drew ?_ | refine blk_alloc ?_ _)); exact BK178.out) hb); have n1_ := Aside0.mk (below_step (by repeat (first | (with_reducible first | exact HB.out | apply below_alloc | apply pw_below_drewN | apply below_drew1 | refine below_set ?_ GE178.out) | exact HB.out)) hb); have n2_ := Aside0.mk (hbox); have n3_ := Aside0.mk ((by rw [hg]; exact (below_size (by repeat (first | (with_reducible first | exact HB.out | apply below_alloc | apply pw_below_drewN | apply below_drew1 | refine below_set ?_ GE178.out) | exact HB.out))) : w.heap.size ≤ gb181)); have n4_ := Aside0.mk ((by rw [hg]; exact (below_size (by repeat (first | (with_reducible first | exact HB.out | apply below_alloc | apply pw_below_drewN | apply below_drew1 | refine below_set ?_ GE178.out) | exact HB.out))) : w.heap.size ≤ gb181)); have n5_ := Aside0.mk ((by rw [hg]; exact Nat.ne_of_lt (blk_lt (g := gb178) (o := .cells #[.int .i64 ((rd_T48 l0 x16_1).f0), .int .i64 ((rd_T48 l0 x16_1).f1), .int .i64 ((rd_T48 l0 x16_1).f2), .int .i64 ((rd_T48 l0 x16_1).f3), .int .i64 ((rd_T48 l0 x16_1).f4), .slice (some ad180) ((rd_T48 l0 x16_1).f5).length c177_5, .int .i64 ((rd_T48 l0 x16_1).f6)] 48 (0, 0)) (by (with_reducible repeat (first | refine blk_drewN ?_ _ | refine blk_drew ?_ | refine blk_alloc ?_ _)); exact BK178.out)) : gb178 ≠ gb181)); have n6_ := Aside0.mk ((by rw [hg]; exact Nat.ne_of_gt (blk_lt (g := gb178) (o := .cells #[.int .i64 ((rd_T48 l0 x16_1).f0), .int .i64 ((rd_T48 l0 x16_1).f1), .int .i64 ((rd_T48 l0 x16_1).f2), .int .i64 ((rd_T48 l0 x16_1).f3), .int .i64 ((rd_T48 l0 x16_1).f4), .slice (some ad180) ((rd_T48 l0 x16_1).f5).length c177_5, .int .i64 ((rd_T48 l0 x16_1).f6)] 48 (0, 0)) (by (with_reducible repeat (first | refine blk_drewN ?_ _ | refine blk_drew ?_ | refine blk_alloc ?_ _)); exact BK178.out)) : gb181 ≠ gb178)); clear BK178; clear HB; have BK178 := n0_; have HB := n1_; have BK181 := n2_; have GW181 := n3_; have GE181 := n4_; have NB178_181 := n5_; have NB181_178 := n6_; clear n0_ n1_ n2_ n3_ n4_ n5_ n6_; clear hb hbox hg; have hnb33 := NB181_178.out; have hnc33 := NB178_181.out; have hcz34_0 : w32.cell? ⟨gb181, 0, none⟩ = some (.int .i64 0) := (blk_cell BK181.out 0).trans rfl; have hcz34_1 : w32.cell? ⟨gb181, 1, none⟩ = some (.int .i64 0) := (blk_cell BK181.out 1).trans rfl; have hfz34_0 := blk_frozen BK181.out 0; have hfz34_1 := blk_frozen BK181.out 1) | ((with_reducible refine gate_callee (f := 22) rfl ?_); refine goesL_ (some 40) rfl rfl Try.func22 (by kernel_rfl) rfl #[.slice (some ad177) l0.length c0, .int .i64 ((rd_T50 ((rd_T48 l0 x16_1).f5) x32_2).f0)] rfl (by (try simp only [List.map_toArray, List.map_cons, List.map_nil]); first | done | rfl | (simp only [List.length_drop, List.length_take]; rfl)) ?_; (with_reducible refine (timeboundref40_Ceiling.calls k2 _ _ l0 ((rd_T50 ((rd_T48 l0 x16_1).f5) x32_2).f0) t182 true _ ?side1 ?side2 A15.out).mono ?_); (case side1 => exact Kd.C_below HR0.out (by repeat (first | (with_reducible first | exact HB.out | apply below_alloc | apply pw_below_drewN | apply below_drew1 | refine below_set ?_ GE178.out | refine below_set ?_ GE181.out) | exact HB.out))); (case side2 => exact HC0.out); rintro e w35 ⟨rfl, hb⟩; refine ⟨_, rfl, ?_⟩; have n0_ := Aside0.mk (blk_below (g := gb178) (o := .cells #[.int .i64 ((rd_T48 l0 x16_1).f0), .int .i64 ((rd_T48 l0 x16_1).f1), .int .i64 ((rd_T48 l0 x16_1).f2), .int .i64 ((rd_T48 l0 x16_1).f3), .int .i64 ((rd_T48 l0 x16_1).f4), .slice (some ad180) ((rd_T48 l0 x16_1).f5).length c177_5, .int .i64 ((rd_T48 l0 x16_1).f6)] 48 (0, 0)) (by (with_reducible repeat (first | refine blk_drewN ?_ _ | refine blk_drew ?_ | refine blk_alloc ?_ _)); refine blk_far ?_ NB178_181.out _; (with_reducible repeat (first | refine blk_drewN ?_ _ | refine blk_drew ?_ | refine blk_alloc ?_ _)); refine blk_far ?_ NB178_181.out _; (with_reducible repeat (first | refine blk_drewN ?_ _ | refine blk_drew ?_ | refine blk_alloc ?_ _)); exact BK178.out) hb); have n1_ := Aside0.mk (blk_below (g := gb181) (o := .cells #[.int .i64 ((rd_T50 ((rd_T48 l0 x16_1).f5) x32_2).f0), .int .i64 ((rd_T50 ((rd_T48 l0 x16_1).f5) x32_2).f1)] 50 (0, 0)) (by (with_reducible repeat (first | refine blk_drewN ?_ _ | refine blk_drew ?_ | refine blk_alloc ?_ _)); refine blk_put (cs := #[.int .i64 ((rd_T50 ((rd_T48 l0 x16_1).f5) x32_2).f0), .int .i64 0]) ?_ 1 _ rfl; (with_reducible repeat (first | refine blk_drewN ?_ _ | refine blk_drew ?_ | refine blk_alloc ?_ _)); refine blk_put (cs := #[.int .i64 0, .int .i64 0]) ?_ 0 _ rfl; (with_reducible repeat (first | refine blk_drewN ?_ _ | refine blk_drew ?_ | refine blk_alloc ?_ _)); exact BK181.out) hb); have n2_ := Aside0.mk (below_step (by repeat (first | (with_reducible first | exact HB.out | apply below_alloc | apply pw_below_drewN | apply below_drew1 | refine below_set ?_ GE178.out | refine below_set ?_ GE181.out) | exact HB.out)) hb); clear BK178; clear BK181; clear HB; have BK178 := n0_; have BK181 := n1_; have HB := n2_; clear n0_ n1_ n2_; (try clear hb); (try clear hb2); (try clear hk); (try clear hi)) | (go_at_call 20; (with_reducible refine (timeboundref40_Before.calls _ _ l0 t182 a1 false _ ?side1 ?side2 A24.out).mono ?_); (case side1 => repeat (first | exact (Kd.C_below HR0.out HB.out) | (with_reducible refine Kd.C_alloc ?_ _) | (with_reducible refine Kd.C_drewN ?_ _) | (with_reducible refine Kd.C_drew ?_))); (case side2 => exact HC0.out); rintro e w' ⟨rfl, ⟨nd, rfl⟩⟩))
                              go_roundg k2
                              case measure => have := HK1.out; have := HK2.out; omega
                              case rel => exact ⟨(x7_2), (wrap64 (x32_2 + 1)), (by first | rfl | (simp; done) | (simp [*]; done)), (by first | rfl | (simp; done) | (simp [*]; done)), H', ⟨by have := HK1.out; have := HK2.out; omega⟩, ⟨by (with_reducible repeat (first | refine blk_drewN ?_ _ | refine blk_drew ?_ | refine blk_alloc ?_ _)); exact BK178.out⟩, ⟨by repeat (first | (with_reducible first | exact HB.out | apply below_alloc | apply pw_below_drewN | apply below_drew1 | refine below_set ?_ GE178.out | refine below_set ?_ GE181.out) | exact HB.out)⟩⟩
                        · replace c16 := Bool.eq_false_iff.mpr c16
                          subst c16
                          have H1 : (timeboundref40_Blocking.l1 k2 l0 a1 a2 x7_2 l0 (l0.length : Int) x16_1 ((rd_T48 l0 x16_1).f5) (((rd_T48 l0 x16_1).f5).length : Int) (wrap64 (x32_2 + 1))) = some r := by rw [if_neg (show ¬ (false = true) by decide)] at H; exact H
                          clear H
                          have H := H1
                          clear H1
                          have H' := Aside0.mk H
                          clear H
                          have p180 : 0 ≤ (x32_2 : Int) := of_decide_eq_true (by first | (with_reducible assumption) | assumption)
                          have q180 : x32_2 < (((rd_T48 l0 x16_1).f5).length : Int) := of_decide_eq_true (by first | (with_reducible assumption) | assumption)
                          obtain ⟨ad180, e180, hx180_0, hx180_1⟩ := at_T50 HR177_5.out x32_2 p180 q180
                          cases e180
                          replace hx180_0 := (HB.out.cell (World.block_lt_of_cell? w _ hx180_0)).trans hx180_0
                          replace hx180_1 := (HB.out.cell (World.block_lt_of_cell? w _ hx180_1)).trans hx180_1
                          replace p180 := eq_true p180
                          replace q180 := eq_true q180
                          go_wp2_with (first | ((with_reducible refine gate_dst (N := 11) rfl ?_); refine box_event ?hg (N := 11) ?hd (cs := #[.int .i64 0, .int .i64 0]) (t := 50) ?hr ?_; (case hd => rfl); (case hg => rfl); (case hr => first | (go_simp; done) | (go_simp; rfl)); intro gb181 hg w36 hbox hb; have n0_ := Aside0.mk (blk_below (g := gb178) (o := .cells #[.int .i64 ((rd_T48 l0 x16_1).f0), .int .i64 ((rd_T48 l0 x16_1).f1), .int .i64 ((rd_T48 l0 x16_1).f2), .int .i64 ((rd_T48 l0 x16_1).f3), .int .i64 ((rd_T48 l0 x16_1).f4), .slice (some ad180) ((rd_T48 l0 x16_1).f5).length c177_5, .int .i64 ((rd_T48 l0 x16_1).f6)] 48 (0, 0)) (by (with_reducible repeat (first | refine blk_drewN ?_ _ | refine blk_drew ?_ | refine blk_alloc ?_ _)); exact BK178.out) hb); have n1_ := Aside0.mk (below_step (by repeat (first | (with_reducible first | exact HB.out | apply below_alloc | apply pw_below_drewN | apply below_drew1 | refine below_set ?_ GE178.out) | exact HB.out)) hb); have n2_ := Aside0.mk (hbox); have n3_ := Aside0.mk ((by rw [hg]; exact (below_size (by repeat (first | (with_reducible first | exact HB.out | apply below_alloc | apply pw_below_drewN | apply below_drew1 | refine below_set ?_ GE178.out) | exact HB.out))) : w.heap.size ≤ gb181)); have n4_ := Aside0.mk ((by rw [hg]; exact (below_size (by repeat (first | (with_reducible first | exact HB.out | apply below_alloc | apply pw_below_drewN | apply below_drew1 | refine below_set ?_ GE178.out) | exact HB.out))) : w.heap.size ≤ gb181)); have n5_ := Aside0.mk ((by rw [hg]; exact Nat.ne_of_lt (blk_lt (g := gb178) (o := .cells #[.int .i64 ((rd_T48 l0 x16_1).f0), .int .i64 ((rd_T48 l0 x16_1).f1), .int .i64 ((rd_T48 l0 x16_1).f2), .int .i64 ((rd_T48 l0 x16_1).f3), .int .i64 ((rd_T48 l0 x16_1).f4), .slice (some ad180) ((rd_T48 l0 x16_1).f5).length c177_5, .int .i64 ((rd_T48 l0 x16_1).f6)] 48 (0, 0)) (by (with_reducible repeat (first | refine blk_drewN ?_ _ | refine blk_drew ?_ | refine blk_alloc ?_ _)); exact BK178.out)) : gb178 ≠ gb181)); have n6_ := Aside0.mk ((by rw [hg]; exact Nat.ne_of_gt (blk_lt (g := gb178) (o := .cells #[.int .i64 ((rd_T48 l0 x16_1).f0), .int .i64 ((rd_T48 l0 x16_1).f1), .int .i64 ((rd_T48 l0 x16_1).f2), .int .i64 ((rd_T48 l0 x16_1).f3), .int .i64 ((rd_T48 l0 x16_1).f4), .slice (some ad180) ((rd_T48 l0 x16_1).f5).length c177_5, .int .i64 ((rd_T48 l0 x16_1).f6)] 48 (0, 0)) (by (with_reducible repeat (first | refine blk_drewN ?_ _ | refine blk_drew ?_ | refine blk_alloc ?_ _)); exact BK178.out)) : gb181 ≠ gb178)); clear BK178; clear HB; have BK178 := n0_; have HB := n1_; have BK181 := n2_; have GW181 := n3_; have GE181 := n4_; have NB178_181 := n5_; have NB181_178 := n6_; clear n0_ n1_ n2_ n3_ n4_ n5_ n6_; clear hb hbox hg; have hnb37 := NB181_178.out; have hnc37 := NB178_181.out; have hcz38_0 : w36.cell? ⟨gb181, 0, none⟩ = some (.int .i64 0) := (blk_cell BK181.out 0).trans rfl; have hcz38_1 : w36.cell? ⟨gb181, 1, none⟩ = some (.int .i64 0) := (blk_cell BK181.out 1).trans rfl; have hfz38_0 := blk_frozen BK181.out 0; have hfz38_1 := blk_frozen BK181.out 1) | ((with_reducible refine gate_callee (f := 22) rfl ?_); refine goesL_ (some 40) rfl rfl Try.func22 (by kernel_rfl) rfl #[.slice (some ad177) l0.length c0, .int .i64 ((rd_T50 ((rd_T48 l0 x16_1).f5) x32_2).f0)] rfl (by (try simp only [List.map_toArray, List.map_cons, List.map_nil]); first | done | rfl | (simp only [List.length_drop, List.length_take]; rfl)) ?_; (with_reducible refine (timeboundref40_Ceiling.calls k2 _ _ l0 ((rd_T50 ((rd_T48 l0 x16_1).f5) x32_2).f0) t182 false _ ?side1 ?side2 A15.out).mono ?_); (case side1 => exact Kd.C_below HR0.out (by repeat (first | (with_reducible first | exact HB.out | apply below_alloc | apply pw_below_drewN | apply below_drew1 | refine below_set ?_ GE178.out | refine below_set ?_ GE181.out) | exact HB.out))); (case side2 => exact HC0.out); rintro e w39 ⟨rfl, hb⟩; refine ⟨_, rfl, ?_⟩; have n0_ := Aside0.mk (blk_below (g := gb178) (o := .cells #[.int .i64 ((rd_T48 l0 x16_1).f0), .int .i64 ((rd_T48 l0 x16_1).f1), .int .i64 ((rd_T48 l0 x16_1).f2), .int .i64 ((rd_T48 l0 x16_1).f3), .int .i64 ((rd_T48 l0 x16_1).f4), .slice (some ad180) ((rd_T48 l0 x16_1).f5).length c177_5, .int .i64 ((rd_T48 l0 x16_1).f6)] 48 (0, 0)) (by (with_reducible repeat (first | refine blk_drewN ?_ _ | refine blk_drew ?_ | refine blk_alloc ?_ _)); refine blk_far ?_ NB178_181.out _; (with_reducible repeat (first | refine blk_drewN ?_ _ | refine blk_drew ?_ | refine blk_alloc ?_ _)); refine blk_far ?_ NB178_181.out _; (with_reducible repeat (first | refine blk_drewN ?_ _ | refine blk_drew ?_ | refine blk_alloc ?_ _)); exact BK178.out) hb); have n1_ := Aside0.mk (blk_below (g := gb181) (o := .cells #[.int .i64 ((rd_T50 ((rd_T48 l0 x16_1).f5) x32_2).f0), .int .i64 ((rd_T50 ((rd_T48 l0 x16_1).f5) x32_2).f1)] 50 (0, 0)) (by (with_reducible repeat (first | refine blk_drewN ?_ _ | refine blk_drew ?_ | refine blk_alloc ?_ _)); refine blk_put (cs := #[.int .i64 ((rd_T50 ((rd_T48 l0 x16_1).f5) x32_2).f0), .int .i64 0]) ?_ 1 _ rfl; (with_reducible repeat (first | refine blk_drewN ?_ _ | refine blk_drew ?_ | refine blk_alloc ?_ _)); refine blk_put (cs := #[.int .i64 0, .int .i64 0]) ?_ 0 _ rfl; (with_reducible repeat (first | refine blk_drewN ?_ _ | refine blk_drew ?_ | refine blk_alloc ?_ _)); exact BK181.out) hb); have n2_ := Aside0.mk (below_step (by repeat (first | (with_reducible first | exact HB.out | apply below_alloc | apply pw_below_drewN | apply below_drew1 | refine below_set ?_ GE178.out | refine below_set ?_ GE181.out) | exact HB.out)) hb); clear BK178; clear BK181; clear HB; have BK178 := n0_; have BK181 := n1_; have HB := n2_; clear n0_ n1_ n2_; (try clear hb); (try clear hb2); (try clear hk); (try clear hi)))
                          go_roundg k2
                          case measure => have := HK1.out; have := HK2.out; omega
                          case rel => exact ⟨(x7_2), (wrap64 (x32_2 + 1)), (by first | rfl | (simp; done) | (simp [*]; done)), (by first | rfl | (simp; done) | (simp [*]; done)), H', ⟨by have := HK1.out; have := HK2.out; omega⟩, ⟨by (with_reducible repeat (first | refine blk_drewN ?_ _ | refine blk_drew ?_ | refine blk_alloc ?_ _)); exact BK178.out⟩, ⟨by repeat (first | (with_reducible first | exact HB.out | apply below_alloc | apply pw_below_drewN | apply below_drew1 | refine below_set ?_ GE178.out | refine below_set ?_ GE181.out) | exact HB.out)⟩⟩
                      · rw [if_neg c14] at H
                        exact absurd H (by simp)
                    · rw [if_neg c13] at H
                      exact absurd H (by simp)
                  · rw [if_neg c12] at H
                    have c12b0 : decide (x32_2 < (((rd_T48 l0 x16_1).f5).length : Int)) = false := decide_eq_false c12
                    clear c12
                    have H' := Aside0.mk H
                    clear H
                    go_wp2
                    go_roundg k2
                    case measure => have := HK1.out; have := HK2.out; omega
                    case rel => exact ⟨(x7_2), (wrap64 (x16_1 + 1)), (by first | rfl | (simp; done) | (simp [*]; done)), (by first | rfl | (simp; done) | (simp [*]; done)), H', ⟨by have := HK1.out; have := HK2.out; omega⟩, ⟨by repeat (first | (with_reducible first | exact HB.out | apply below_alloc | apply pw_below_drewN | apply below_drew1 | refine below_set ?_ GE178.out) | exact HB.out)⟩⟩
            · replace c8 := Bool.eq_false_iff.mpr c8
              subst c8
              have H1 : (timeboundref40_Blocking.l0 k1 l0 a1 a2 x7_1 l0 (l0.length : Int) (wrap64 (x16_1 + 1))) = some r := by rw [if_neg (show ¬ (false = true) by decide)] at H; exact H
              clear H
              have H := H1
              clear H1
              have H' := Aside0.mk H
              clear H
              have p177 : 0 ≤ (x16_1 : Int) := of_decide_eq_true (by first | (with_reducible assumption) | assumption)
              have q177 : x16_1 < (l0.length : Int) := of_decide_eq_true (by first | (with_reducible assumption) | assumption)
              obtain ⟨ad177, A177_5, c177_5, e177, hx177_0, hx177_1, hx177_2, hx177_3, hx177_4, hx177_5, hx177_6, hl177_5, hi177_5⟩ := at_T48 HR0.out x16_1 p177 q177
              cases e177
              replace hx177_0 := (HB.out.cell (World.block_lt_of_cell? w _ hx177_0)).trans hx177_0
              replace hx177_1 := (HB.out.cell (World.block_lt_of_cell? w _ hx177_1)).trans hx177_1
              replace hx177_2 := (HB.out.cell (World.block_lt_of_cell? w _ hx177_2)).trans hx177_2
              replace hx177_3 := (HB.out.cell (World.block_lt_of_cell? w _ hx177_3)).trans hx177_3
              replace hx177_4 := (HB.out.cell (World.block_lt_of_cell? w _ hx177_4)).trans hx177_4
              replace hx177_5 := (HB.out.cell (World.block_lt_of_cell? w _ hx177_5)).trans hx177_5
              replace hx177_6 := (HB.out.cell (World.block_lt_of_cell? w _ hx177_6)).trans hx177_6
              have HR177_5 := Aside0.mk hi177_5
              have HC177_5 := Aside0.mk hl177_5
              clear hi177_5 hl177_5
              replace p177 := eq_true p177
              replace q177 := eq_true q177
              go_wp2_with (first | ((with_reducible refine gate_dst (N := 9) rfl ?_); refine box_event ?hg (N := 9) ?hd (cs := #[.int .i64 0, .int .i64 0, .int .i64 0, .int .i64 0, .int .i64 0, .slice none 0 0, .int .i64 0]) (t := 48) ?hr ?_; (case hd => rfl); (case hg => rfl); (case hr => first | (go_simp; done) | (go_simp; rfl)); intro gb178 hg w40 hbox hb; have n0_ := Aside0.mk (below_step (by repeat (first | (with_reducible first | exact HB.out | apply below_alloc | apply pw_below_drewN | apply below_drew1) | exact HB.out)) hb); have n1_ := Aside0.mk (hbox); have n2_ := Aside0.mk ((by rw [hg]; exact (below_size (by repeat (first | (with_reducible first | exact HB.out | apply below_alloc | apply pw_below_drewN | apply below_drew1) | exact HB.out))) : w.heap.size ≤ gb178)); have n3_ := Aside0.mk ((by rw [hg]; exact (below_size (by repeat (first | (with_reducible first | exact HB.out | apply below_alloc | apply pw_below_drewN | apply below_drew1) | exact HB.out))) : w.heap.size ≤ gb178)); clear HB; have HB := n0_; have BK178 := n1_; have GW178 := n2_; have GE178 := n3_; clear n0_ n1_ n2_ n3_; clear hb hbox hg; have hcz41_0 : w40.cell? ⟨gb178, 0, none⟩ = some (.int .i64 0) := (blk_cell BK178.out 0).trans rfl; have hcz41_1 : w40.cell? ⟨gb178, 1, none⟩ = some (.int .i64 0) := (blk_cell BK178.out 1).trans rfl; have hcz41_2 : w40.cell? ⟨gb178, 2, none⟩ = some (.int .i64 0) := (blk_cell BK178.out 2).trans rfl; have hcz41_3 : w40.cell? ⟨gb178, 3, none⟩ = some (.int .i64 0) := (blk_cell BK178.out 3).trans rfl; have hcz41_4 : w40.cell? ⟨gb178, 4, none⟩ = some (.int .i64 0) := (blk_cell BK178.out 4).trans rfl; have hcz41_5 : w40.cell? ⟨gb178, 5, none⟩ = some (.slice none 0 0) := (blk_cell BK178.out 5).trans rfl; have hcz41_6 : w40.cell? ⟨gb178, 6, none⟩ = some (.int .i64 0) := (blk_cell BK178.out 6).trans rfl; have hfz41_0 := blk_frozen BK178.out 0; have hfz41_1 := blk_frozen BK178.out 1; have hfz41_2 := blk_frozen BK178.out 2; have hfz41_3 := blk_frozen BK178.out 3; have hfz41_4 := blk_frozen BK178.out 4; have hfz41_5 := blk_frozen BK178.out 5; have hfz41_6 := blk_frozen BK178.out 6) | ((with_reducible refine gate_callee (f := 20) rfl ?_); refine goesL_ (some 24) rfl rfl Try.func20 (by kernel_rfl) rfl #[.slice (some ad177) l0.length c0, .int .i64 a1, .int .i64 x16_1] rfl (by (try simp only [List.map_toArray, List.map_cons, List.map_nil]); first | done | rfl | (simp only [List.length_drop, List.length_take]; rfl)) ?_; (with_reducible refine (timeboundref40_Before.calls _ _ l0 a1 x16_1 false _ ?side1 ?side2 A7.out).mono ?_); (case side1 => exact Kd.C_below HR0.out (by repeat (first | (with_reducible first | exact HB.out | apply below_alloc | apply pw_below_drewN | apply below_drew1 | refine below_set ?_ GE178.out) | exact HB.out))); (case side2 => exact HC0.out); rintro e w' ⟨rfl, ⟨nd, rfl⟩⟩; refine ⟨_, rfl, ?_⟩))
              go_roundg k1
              case measure => have := HK1.out; omega
              case rel => exact ⟨(x7_1), (wrap64 (x16_1 + 1)), (by first | rfl | (simp; done) | (simp [*]; done)), (by first | rfl | (simp; done) | (simp [*]; done)), H', ⟨by have := HK1.out; omega⟩, ⟨by repeat (first | (with_reducible first | exact HB.out | apply below_alloc | apply pw_below_drewN | apply below_drew1 | refine below_set ?_ GE178.out) | exact HB.out)⟩⟩
          · rw [if_neg c6] at H
            exact absurd H (by simp)
        · rw [if_neg c5] at H
          exact absurd H (by simp)
      · rw [if_neg c4] at H
        have c4b0 : decide (x16_1 < (l0.length : Int)) = false := decide_eq_false c4
        clear c4
        obtain rfl := Option.some.inj H
        go_wp2
        go_ret
        exact ⟨by first | rfl | (simp [errW_none, errW_some] <;> rfl) | (simp [*, errW_none, errW_some] <;> rfl), by repeat (first | (with_reducible first | exact HB.out | apply below_alloc | apply pw_below_drewN | apply below_drew1) | exact HB.out)⟩

-- NOT PRINTED: function 5 (timeboundlaw40_BlockingTimes)

-- NOT PRINTED: function 6 (timeboundlaw40_BlockingGrows)

end Go.Proofs.Ytgpdnfhmmeaoeaa.PBt
