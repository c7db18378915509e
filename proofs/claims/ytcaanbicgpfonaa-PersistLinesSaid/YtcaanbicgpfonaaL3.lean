/- The law PersistLines walked: it returns true at every input, and leaves what it was given as it was. -/
import Derived.Test.YtcaanbicgpfonaaPPlx2
import Derived.Test.YtcaanbicgpfonaaPPlx3
import Derived.Test.YtcaanbicgpfonaaPPlx7
import Derived.Test.YtcaanbicgpfonaaPPlx10
import Derived.Test.YtcaanbicgpfonaaA1
import Derived.Test.YtcaanbicgpfonaaL2
import Derived.IntWalk
import Derived.Deep.RegionHeld3
import Derived.Deep.DeepCutAuto
import Derived.BigRegion
namespace Go.Proofs.Ytcaanbicgpfonaa.PPl
open Go.RowKit Go.Proofs.YtcaanbicgpfonaaW.PrintWords Go.Proofs.YtcaanbicgpfonaaW.PrintLast Go.Proofs.YtcaanbicgpfonaaW.PrintMore
set_option linter.unusedVariables false
set_option linter.unusedSimpArgs false
set_option maxHeartbeats 8000000 in
set_option maxRecDepth 100000 in
theorem PersistLines.walk (A0 : Option Addr) (c0 : Nat) (l0 : List Int) (lo wide at_ : Int) (w : World) (hr0 : Kd.C (Kd.int .i64) w A0 l0.length l0) (hc0 : l0.length ≤ c0) (hw : l0.length * 8 ≤ 140737488351232) :
    Calls Try.prog 3 #[.slice A0 l0.length c0, .int .i64 lo, .int .i64 wide, .int .i64 at_] w fun e w' => e = .returned (.bool true) ∧ Below w.heap.size w w' := by
  have HR0 := Aside0.mk hr0
  have HW := Aside0.mk hw
  clear hr0 hw
  obtain ⟨lo', hlo, hlo0, hlo1⟩ := mod_ok lo 60 (by omega) (by omega)
  obtain ⟨wi', hwi, hwi0, hwi1⟩ := mod_ok wide 20 (by omega) (by omega)
  obtain ⟨at', hat, hat0, hat1⟩ := mod_ok at_ 130 (by omega) (by omega)
  have HLO := Aside0.mk hlo
  have HWI := Aside0.mk hwi
  have HAT := Aside0.mk hat
  clear hlo hwi hat
  go_enter Try.func3, Try.ntmps3
  go_wp2_with fail
  refine (timeboundmake_New.calls A0 c0 l0 l0 0 w w (Below.refl _ _) HR0.out hc0 rfl).mono ?_
  rintro e w1 ⟨g, rfl, hI, hB, hB'⟩
  have HI := Aside0.mk hI
  have HB := Aside0.mk hB
  clear hI hB hB'
  go_wp2_with fail
  refine (Processor_calls g l0 0 w w1 HI.out HB.out ⟨by omega, by omega, by have := HW.out; omega⟩).mono ?_
  rintro e w2 ⟨a0, a1, a2, a3, a4, a5, a6, a7, a8, a9, a10, a11, a12, a13, a14, A15, c15, l15, A16, c16, l16, q, rfl, hca, hl15, hC15, hl16, hC16, hD, hI, hB⟩
  clear HI HB
  have HCA := Aside0.mk hca
  have HL15 := Aside0.mk hl15
  have HL16 := Aside0.mk hl16
  have HC15 := Aside0.mk hC15
  have HC16 := Aside0.mk hC16
  have HB := Aside0.mk hB
  clear hca hl15 hl16 hC15 hC16 hD hI hB
  go_wp2_with fail
  have BK := Aside0.mk (heap_alloc_new w2 (.cells #[.int .i64 a0, .int .i64 a1, .int .i64 a2, .int .i64 a3, .int .i64 a4, .int .i64 a5, .int .i64 a6, .int .i64 a7, .int .i64 a8, .int .i64 a9, .int .i64 a10, .int .i64 a11, .int .i64 a12, .int .i64 a13, .int .i64 a14, .slice A15 l15.length c15, .slice A16 l16.length c16] 29))
  replace HC15 := Aside0.mk (Kd.C_below HC15.out (below_alloc (Below.refl w2.heap.size w2) (.cells #[.int .i64 a0, .int .i64 a1, .int .i64 a2, .int .i64 a3, .int .i64 a4, .int .i64 a5, .int .i64 a6, .int .i64 a7, .int .i64 a8, .int .i64 a9, .int .i64 a10, .int .i64 a11, .int .i64 a12, .int .i64 a13, .int .i64 a14, .slice A15 l15.length c15, .slice A16 l16.length c16] 29)))
  replace HC16 := Aside0.mk (Kd.C_below HC16.out (below_alloc (Below.refl w2.heap.size w2) (.cells #[.int .i64 a0, .int .i64 a1, .int .i64 a2, .int .i64 a3, .int .i64 a4, .int .i64 a5, .int .i64 a6, .int .i64 a7, .int .i64 a8, .int .i64 a9, .int .i64 a10, .int .i64 a11, .int .i64 a12, .int .i64 a13, .int .i64 a14, .slice A15 l15.length c15, .slice A16 l16.length c16] 29)))
  have HGE : Aside0 (w.heap.size ≤ w2.heap.size) := ⟨HB.out.size⟩
  replace HB := Aside0.mk (below_alloc HB.out (.cells #[.int .i64 a0, .int .i64 a1, .int .i64 a2, .int .i64 a3, .int .i64 a4, .int .i64 a5, .int .i64 a6, .int .i64 a7, .int .i64 a8, .int .i64 a9, .int .i64 a10, .int .i64 a11, .int .i64 a12, .int .i64 a13, .int .i64 a14, .slice A15 l15.length c15, .slice A16 l16.length c16] 29))
  generalize w2.alloc (.cells #[.int .i64 a0, .int .i64 a1, .int .i64 a2, .int .i64 a3, .int .i64 a4, .int .i64 a5, .int .i64 a6, .int .i64 a7, .int .i64 a8, .int .i64 a9, .int .i64 a10, .int .i64 a11, .int .i64 a12, .int .i64 a13, .int .i64 a14, .slice A15 l15.length c15, .slice A16 l16.length c16] 29) = u0 at BK HC15 HC16 HB ⊢
  generalize w2.heap.size = b10 at BK HGE ⊢
  refine (timeboundmake_Mod.calls lo 60 lo' _ HLO.out).mono ?_
  rintro e u1 ⟨rfl, hd⟩
  replace BK := Aside0.mk (blk_below BK.out hd.below)
  replace HC15 := Aside0.mk (Kd.C_below HC15.out hd.below)
  replace HC16 := Aside0.mk (Kd.C_below HC16.out hd.below)
  replace HB := Aside0.mk (below_step HB.out hd.below)
  clear hd HLO
  go_wp2_with fail
  have BA := Aside0.mk (heap_alloc_new u1 (.cells #[.int .i64 0, .int .i64 lo', .int .i64 0] 33))
  have HU2 := Aside0.mk (below_alloc (Below.refl u1.heap.size u1) (.cells #[.int .i64 0, .int .i64 lo', .int .i64 0] 33))
  generalize u1.alloc (.cells #[.int .i64 0, .int .i64 lo', .int .i64 0] 33) = u2 at BA HU2 ⊢
  obtain ⟨b11, HB11⟩ : ∃ b, Aside0 (b = u1.heap.size) := ⟨_, ⟨rfl⟩⟩
  have HGB : Aside0 (u1.heap.size ≤ b11) := ⟨Nat.le_of_eq HB11.out.symm⟩
  rw [← HB11.out] at BA ⊢
  clear HB11
  have hc1 : u2.cell? ⟨b11, 1, none⟩ = some (.int .i64 lo') := (blk_cell BA.out 1).trans rfl
  have hc2 : u2.cell? ⟨b11, 2, none⟩ = some (.int .i64 0) := (blk_cell BA.out 2).trans rfl
  have hf2 : u2.frozen? ⟨b11, 2, none⟩ = false := blk_frozen BA.out 2
  have hoth : ∀ (W : World) (v : Value), (W.setCell ⟨b11, 2, none⟩ v).cell? ⟨b11, 1, none⟩ = W.cell? ⟨b11, 1, none⟩ := fun W v => World.cell?_setCell_other W _ _ v (by simp)
  have hs1 : IntKind.i64.wrap (lo' + wi') = lo' + wi' := IntWalk.i64_in _ (by omega)
  have hs2 : IntKind.i64.wrap (lo' + wi' - 1) = lo' + wi' - 1 := IntWalk.i64_in _ (by omega)
  go_upto_region 5 with (fail)
  go_region_held3 (fun w' => w'.cell? ⟨b11, 1, none⟩ = some (.int .i64 lo')) (go_keep) (first | (go_at_call 7; refine (timeboundmake_Mod.calls wide 20 wi' _ HWI.out).mono ?_; rintro e u3 ⟨rfl, ⟨nd, rfl⟩⟩))
  all_goals (try go_wp2_with fail)
  have HU : Aside0 (Below u1.heap.size u1 ((u2.drewN (1 + nd)).setCell ⟨b11, 2, none⟩ (.int .i64 (lo' + wi' - 1)))) := ⟨below_set (pw_below_drewN HU2.out _) HGB.out⟩
  replace BA := Aside0.mk (blk_set (blk_drewN BA.out (1 + nd)) 2 (.int .i64 (lo' + wi' - 1)))
  clear hc1 hc2 hf2 hoth hs1 hs2 HU2
  generalize (u2.drewN (1 + nd)).setCell ⟨b11, 2, none⟩ (.int .i64 (lo' + wi' - 1)) = u4 at HU BA ⊢
  refine (timeboundmake_Mod.calls at_ 130 at' _ HAT.out).mono ?_
  rintro e u5 ⟨rfl, hd⟩
  replace HU := Aside0.mk (below_step HU.out hd.below)
  replace BA := Aside0.mk (blk_below BA.out hd.below)
  clear hd HAT
  go_wp2_with fail
  obtain ⟨r, e1, e2⟩ := lines_same a0 a1 a2 a3 a4 a5 a6 a7 a8 a9 a10 a11 a12 a13 a14 l15 l16 0 lo' (lo' + wi' - 1) HCA.out (by omega) (by omega) (by omega)
  have HE1 := Aside0.mk e1
  have HE2 := Aside0.mk e2
  clear e1 e2
  have HSA : Aside0 (r.length ≤ 9223372036854775807 → ∃ k, timeboundref01_SameInts.f k r r = some true) := ⟨same_self r⟩
  have hH0 : HeldL u1 b10 b11 #[.int .i64 a0, .int .i64 a1, .int .i64 a2, .int .i64 a3, .int .i64 a4, .int .i64 a5, .int .i64 a6, .int .i64 a7, .int .i64 a8, .int .i64 a9, .int .i64 a10, .int .i64 a11, .int .i64 a12, .int .i64 a13, .int .i64 a14, .slice A15 l15.length c15, .slice A16 l16.length c16] #[.int .i64 0, .int .i64 lo', .int .i64 (lo' + wi' - 1)] u5 := ⟨HU.out, blk_below BK.out HU.out, BA.out.trans (by rfl)⟩
  obtain ⟨Hd, HHd⟩ : ∃ Hd : World → Prop, Aside0 (Hd = HeldL u1 b10 b11 #[.int .i64 a0, .int .i64 a1, .int .i64 a2, .int .i64 a3, .int .i64 a4, .int .i64 a5, .int .i64 a6, .int .i64 a7, .int .i64 a8, .int .i64 a9, .int .i64 a10, .int .i64 a11, .int .i64 a12, .int .i64 a13, .int .i64 a14, .slice A15 l15.length c15, .slice A16 l16.length c16] #[.int .i64 0, .int .i64 lo', .int .i64 (lo' + wi' - 1)]) := ⟨_, ⟨rfl⟩⟩
  rw [← HHd.out] at hH0
  have HDR : Aside0 (∀ W, Hd W → Hd W.drew) := ⟨by rw [HHd.out]; exact fun W h => h.drew⟩
  have HST : Aside0 (∀ W W', Hd W → Below W.heap.size W W' → Hd W') := ⟨by rw [HHd.out]; exact fun W W' h hb => h.step hb⟩
  have HBF : Aside0 (∀ W, Hd W → Below w.heap.size w W) := ⟨by rw [HHd.out]; exact fun W h => below_step HB.out h.1⟩
  have HF15 : Aside0 (∀ W, Hd W → Kd.C k53 W A15 l15.length l15) := ⟨by rw [HHd.out]; exact fun W h => Kd.C_below HC15.out h.1⟩
  have HF16 : Aside0 (∀ W, Hd W → Kd.C k53 W A16 l16.length l16) := ⟨by rw [HHd.out]; exact fun W h => Kd.C_below HC16.out h.1⟩
  have HLD10 : Aside0 (∀ W, Hd W → W.heap[b10]? = some (.cells #[.int .i64 a0, .int .i64 a1, .int .i64 a2, .int .i64 a3, .int .i64 a4, .int .i64 a5, .int .i64 a6, .int .i64 a7, .int .i64 a8, .int .i64 a9, .int .i64 a10, .int .i64 a11, .int .i64 a12, .int .i64 a13, .int .i64 a14, .slice A15 l15.length c15, .slice A16 l16.length c16] 29 (0, 0))) := ⟨by rw [HHd.out]; exact fun W h => h.2.1⟩
  have HLD11 : Aside0 (∀ W, Hd W → W.heap[b11]? = some (.cells #[.int .i64 0, .int .i64 lo', .int .i64 (lo' + wi' - 1)] 33 (0, 0))) := ⟨by rw [HHd.out]; exact fun W h => h.2.2⟩
  clear HU BK BA HHd HC15 HC16
  refine wp_region_noPanic ?_
  refine wp_region_held_drew (S := Hd) (by kernel_rfl) (HDR.out _ hH0) (fun hHeld => ?_)
  refine wpAnyH_take (i := 0) (oi := { dst := some 30, op := Go.Op.load 29 (Go.Operand.tmp 10), type := 29, pos := "law.go:63", after := #[], guard := none }) (v := .agg #[.int .i64 a0, .int .i64 a1, .int .i64 a2, .int .i64 a3, .int .i64 a4, .int .i64 a5, .int .i64 a6, .int .i64 a7, .int .i64 a8, .int .i64 a9, .int .i64 a10, .int .i64 a11, .int .i64 a12, .int .i64 a13, .int .i64 a14, .slice A15 l15.length c15, .slice A16 l16.length c16]) rfl (by kernel_rfl) (by kernel_rfl) (by kernel_rfl) (fun _ _ _ h => h) (yields_row (by rfl) 29 (.tmp 10) rfl b10 rfl 29 #[.int .i64 a0, .int .i64 a1, .int .i64 a2, .int .i64 a3, .int .i64 a4, .int .i64 a5, .int .i64 a6, .int .i64 a7, .int .i64 a8, .int .i64 a9, .int .i64 a10, .int .i64 a11, .int .i64 a12, .int .i64 a13, .int .i64 a14, .slice A15 l15.length c15, .slice A16 l16.length c16] HLD10.out Try.underlying29 (by kernel_rfl)) (by assumption) ?_
  simp only [Act.put, List.setIfInBounds_toArray, List.set_cons_zero, List.set_cons_succ]
  refine wpAnyH_take (i := 3) (oi := { dst := some 33, op := Go.Op.load 29 (Go.Operand.tmp 10), type := 29, pos := "law.go:63", after := #[], guard := none }) (v := .agg #[.int .i64 a0, .int .i64 a1, .int .i64 a2, .int .i64 a3, .int .i64 a4, .int .i64 a5, .int .i64 a6, .int .i64 a7, .int .i64 a8, .int .i64 a9, .int .i64 a10, .int .i64 a11, .int .i64 a12, .int .i64 a13, .int .i64 a14, .slice A15 l15.length c15, .slice A16 l16.length c16]) rfl (by kernel_rfl) (by kernel_rfl) (by kernel_rfl) (fun _ _ _ h => h) (yields_row (by rfl) 29 (.tmp 10) rfl b10 rfl 29 #[.int .i64 a0, .int .i64 a1, .int .i64 a2, .int .i64 a3, .int .i64 a4, .int .i64 a5, .int .i64 a6, .int .i64 a7, .int .i64 a8, .int .i64 a9, .int .i64 a10, .int .i64 a11, .int .i64 a12, .int .i64 a13, .int .i64 a14, .slice A15 l15.length c15, .slice A16 l16.length c16] HLD10.out Try.underlying29 (by kernel_rfl)) (by assumption) ?_
  simp only [Act.put, List.setIfInBounds_toArray, List.set_cons_zero, List.set_cons_succ]
  refine wpAnyH_take (i := 1) (oi := { dst := some 31, op := Go.Op.load 33 (Go.Operand.tmp 11), type := 33, pos := "law.go:63", after := #[], guard := none }) (v := .agg #[.int .i64 0, .int .i64 lo', .int .i64 (lo' + wi' - 1)]) rfl (by kernel_rfl) (by kernel_rfl) (by kernel_rfl) (fun _ _ _ h => h) (yields_row (by rfl) 33 (.tmp 11) rfl b11 rfl 33 #[.int .i64 0, .int .i64 lo', .int .i64 (lo' + wi' - 1)] HLD11.out Try.underlying33 (by kernel_rfl)) (by assumption) ?_
  simp only [Act.put, List.setIfInBounds_toArray, List.set_cons_zero, List.set_cons_succ]
  refine wpAnyH_take (i := 4) (oi := { dst := some 34, op := Go.Op.load 33 (Go.Operand.tmp 11), type := 33, pos := "law.go:63", after := #[], guard := none }) (v := .agg #[.int .i64 0, .int .i64 lo', .int .i64 (lo' + wi' - 1)]) rfl (by kernel_rfl) (by kernel_rfl) (by kernel_rfl) (fun _ _ _ h => h) (yields_row (by rfl) 33 (.tmp 11) rfl b11 rfl 33 #[.int .i64 0, .int .i64 lo', .int .i64 (lo' + wi' - 1)] HLD11.out Try.underlying33 (by kernel_rfl)) (by assumption) ?_
  simp only [Act.put, List.setIfInBounds_toArray, List.set_cons_zero, List.set_cons_succ]
  refine wpAnyH_ready (rs := [2]) (by kernel_rfl) (by simp) ?_
  refine AllReadyH.cons (o := { dst := some 32, op := Go.Op.call { callee := Go.Callee.value (Go.Operand.func 9), args := #[Go.Operand.tmp 30, Go.Operand.tmp 31], argTypes := #[29, 33] }, type := 22, pos := "law.go:63", after := #[{ on := 0, ground := Go.Ground.data }, { on := 1, ground := Go.Ground.data }], guard := none }) rfl (fun K hK => ?_) AllReadyH.nil
  go_simp
  (go_at_call 9; refine (persist_Lines.calls a0 a1 a2 a3 a4 a5 a6 a7 a8 a9 a10 a11 a12 a13 a14 A15 c15 l15 A16 c16 l16 0 lo' (lo' + wi' - 1) r _ (HF15.out _ (by assumption)) HL15.out (HF16.out _ (by assumption)) HL16.out HE1.out).mono ?_; rintro e v1 ⟨q1, rfl, hR, hb⟩; obtain ⟨B1, d1, rfl, hd1, hR1⟩ := Kd.R_reads hR; have hs := HST.out _ _ (by assumption) hb; have HX1 := Aside0.mk hR1; have HD1 := Aside0.mk hd1; clear hb hR hR1 hd1)
  (try go_wp2_with fail)
  refine hK.out _ _ (by assumption) (fun hHeld => ?_)
  clear hK K
  try simp only [Act.put, List.setIfInBounds_toArray, List.set_cons_zero, List.set_cons_succ]
  refine wpAnyH_ready (rs := [5]) (by kernel_rfl) (by simp) ?_
  refine AllReadyH.cons (o := { dst := some 35, op := Go.Op.call { callee := Go.Callee.value (Go.Operand.func 10), args := #[Go.Operand.tmp 33, Go.Operand.tmp 34], argTypes := #[29, 33] }, type := 22, pos := "law.go:63", after := #[{ on := 3, ground := Go.Ground.data }, { on := 4, ground := Go.Ground.data }, { on := 2, ground := Go.Ground.chain }], guard := none }) rfl (fun K hK => ?_) AllReadyH.nil
  go_simp
  (go_at_call 10; refine (timeboundref26_Lines.calls a0 a1 a2 a3 a4 a5 a6 a7 a8 a9 a10 a11 a12 a13 a14 A15 c15 l15 A16 c16 l16 0 lo' (lo' + wi' - 1) r _ (HF15.out _ (by assumption)) HL15.out (HF16.out _ (by assumption)) HL16.out HE2.out).mono ?_; rintro e v2 ⟨q2, rfl, hR, hb⟩; obtain ⟨B2, d2, rfl, hd2, hR2⟩ := Kd.R_reads hR; have hs := HST.out _ _ (by assumption) hb; have HX2 := Aside0.mk hR2; have HD2 := Aside0.mk hd2; replace HX1 := Aside0.mk (Kd.C_below HX1.out hb); clear hb hR hR2 hd2)
  (try go_wp2_with fail)
  refine hK.out _ _ (by assumption) (fun hHeld => ?_)
  clear hK K
  try simp only [Act.put, List.setIfInBounds_toArray, List.set_cons_zero, List.set_cons_succ]
  refine wpAnyH_ready (rs := [6]) (by kernel_rfl) (by simp) ?_
  refine AllReadyH.cons (o := { dst := some 36, op := Go.Op.call { callee := Go.Callee.value (Go.Operand.func 8), args := #[Go.Operand.tmp 32, Go.Operand.tmp 35], argTypes := #[22, 22] }, type := 4, pos := "law.go:63", after := #[{ on := 2, ground := Go.Ground.data }, { on := 5, ground := Go.Ground.data }, { on := 5, ground := Go.Ground.chain }], guard := none }) rfl (fun K hK => ?_) AllReadyH.nil
  go_simp
  (go_at_call 8; obtain ⟨ks, hks⟩ := HSA.out HX1.out.2.1; refine (timeboundref01_SameInts.calls ks B1 d1 r B2 d2 r true _ HX1.out HD1.out HX2.out HD2.out hks).mono ?_; rintro e v3 ⟨rfl, hd⟩; have hs := HST.out _ _ (by assumption) hd.below; clear hd hks HX1 HX2)
  (try go_wp2_with fail)
  refine hK.out _ _ (by assumption) (fun hHeld => ?_)
  clear hK K
  try simp only [Act.put, List.setIfInBounds_toArray, List.set_cons_zero, List.set_cons_succ]
  refine wpAnyH_take (i := 7) (oi := { dst := some 37, op := Go.Op.move (Go.Operand.tmp 36), type := 4, pos := "law.go:63", after := #[{ on := 6, ground := Go.Ground.data }, { on := 6, ground := Go.Ground.chain }], guard := none }) (v := .bool true) rfl (by kernel_rfl) (by kernel_rfl) (by kernel_rfl) (fun _ _ _ h => h) (Or.inl ⟨by rfl, by intro w hSw; go_simp⟩) (by assumption) ?_
  simp only [Act.put, List.setIfInBounds_toArray, List.set_cons_zero, List.set_cons_succ]
  refine wpAnyH_take (i := 8) (oi := { dst := some 38, op := Go.Op.load 29 (Go.Operand.tmp 10), type := 29, pos := "law.go:63", after := #[{ on := 7, ground := Go.Ground.guard }], guard := some (7, true) }) (v := .agg #[.int .i64 a0, .int .i64 a1, .int .i64 a2, .int .i64 a3, .int .i64 a4, .int .i64 a5, .int .i64 a6, .int .i64 a7, .int .i64 a8, .int .i64 a9, .int .i64 a10, .int .i64 a11, .int .i64 a12, .int .i64 a13, .int .i64 a14, .slice A15 l15.length c15, .slice A16 l16.length c16]) rfl (by kernel_rfl) (by kernel_rfl) (by kernel_rfl) (fun _ _ _ h => h) (yields_row (by rfl) 29 (.tmp 10) rfl b10 rfl 29 #[.int .i64 a0, .int .i64 a1, .int .i64 a2, .int .i64 a3, .int .i64 a4, .int .i64 a5, .int .i64 a6, .int .i64 a7, .int .i64 a8, .int .i64 a9, .int .i64 a10, .int .i64 a11, .int .i64 a12, .int .i64 a13, .int .i64 a14, .slice A15 l15.length c15, .slice A16 l16.length c16] HLD10.out Try.underlying29 (by kernel_rfl)) (by assumption) ?_
  simp only [Act.put, List.setIfInBounds_toArray, List.set_cons_zero, List.set_cons_succ]
  refine wpAnyH_take (i := 9) (oi := { dst := some 39, op := Go.Op.move (Go.Operand.tmp 12), type := 3, pos := "law.go:63", after := #[{ on := 7, ground := Go.Ground.guard }], guard := some (7, true) }) (v := .int .i64 (at' - 2)) rfl (by kernel_rfl) (by kernel_rfl) (by kernel_rfl) (fun _ _ _ h => h) (Or.inl ⟨by rfl, by intro w hSw; go_simp⟩) (by assumption) ?_
  simp only [Act.put, List.setIfInBounds_toArray, List.set_cons_zero, List.set_cons_succ]
  refine wpAnyH_take (i := 11) (oi := { dst := some 41, op := Go.Op.load 29 (Go.Operand.tmp 10), type := 29, pos := "law.go:63", after := #[{ on := 7, ground := Go.Ground.guard }], guard := some (7, true) }) (v := .agg #[.int .i64 a0, .int .i64 a1, .int .i64 a2, .int .i64 a3, .int .i64 a4, .int .i64 a5, .int .i64 a6, .int .i64 a7, .int .i64 a8, .int .i64 a9, .int .i64 a10, .int .i64 a11, .int .i64 a12, .int .i64 a13, .int .i64 a14, .slice A15 l15.length c15, .slice A16 l16.length c16]) rfl (by kernel_rfl) (by kernel_rfl) (by kernel_rfl) (fun _ _ _ h => h) (yields_row (by rfl) 29 (.tmp 10) rfl b10 rfl 29 #[.int .i64 a0, .int .i64 a1, .int .i64 a2, .int .i64 a3, .int .i64 a4, .int .i64 a5, .int .i64 a6, .int .i64 a7, .int .i64 a8, .int .i64 a9, .int .i64 a10, .int .i64 a11, .int .i64 a12, .int .i64 a13, .int .i64 a14, .slice A15 l15.length c15, .slice A16 l16.length c16] HLD10.out Try.underlying29 (by kernel_rfl)) (by assumption) ?_
  simp only [Act.put, List.setIfInBounds_toArray, List.set_cons_zero, List.set_cons_succ]
  refine wpAnyH_take (i := 12) (oi := { dst := some 42, op := Go.Op.move (Go.Operand.tmp 12), type := 3, pos := "law.go:63", after := #[{ on := 7, ground := Go.Ground.guard }], guard := some (7, true) }) (v := .int .i64 (at' - 2)) rfl (by kernel_rfl) (by kernel_rfl) (by kernel_rfl) (fun _ _ _ h => h) (Or.inl ⟨by rfl, by intro w hSw; go_simp⟩) (by assumption) ?_
  simp only [Act.put, List.setIfInBounds_toArray, List.set_cons_zero, List.set_cons_succ]
  refine wpAnyH_ready (rs := [10]) (by kernel_rfl) (by simp) ?_
  refine AllReadyH.cons (o := { dst := some 40, op := Go.Op.call { callee := Go.Callee.value (Go.Operand.func 11), args := #[Go.Operand.tmp 38, Go.Operand.tmp 39, Go.Operand.const (Go.Value.bool true)], argTypes := #[29, 3, 4] }, type := 4, pos := "law.go:63", after := #[{ on := 8, ground := Go.Ground.data }, { on := 9, ground := Go.Ground.data }, { on := 7, ground := Go.Ground.chain }, { on := 7, ground := Go.Ground.guard }], guard := some (7, true) }) rfl (fun K hK => ?_) AllReadyH.nil
  go_simp
  (go_at_call 11; refine (FreeP_calls a0 a1 a2 a3 a4 a5 a6 a7 a8 a9 a10 a11 a12 a13 a14 A15 c15 l15 A16 c16 l16 _ _ _ (HF15.out _ (by assumption)) HL15.out (HF16.out _ (by assumption)) HL16.out).mono ?_; rintro e v4 ⟨rfl, hb⟩; have hs := HST.out _ _ (by assumption) hb; clear hb)
  (try go_wp2_with fail)
  refine hK.out _ _ (by assumption) (fun hHeld => ?_)
  clear hK K
  try simp only [Act.put, List.setIfInBounds_toArray, List.set_cons_zero, List.set_cons_succ]
  refine wpAnyH_ready (rs := [13]) (by kernel_rfl) (by simp) ?_
  refine AllReadyH.cons (o := { dst := some 43, op := Go.Op.call { callee := Go.Callee.value (Go.Operand.func 12), args := #[Go.Operand.tmp 41, Go.Operand.tmp 42, Go.Operand.const (Go.Value.bool true)], argTypes := #[29, 3, 4] }, type := 4, pos := "law.go:63", after := #[{ on := 11, ground := Go.Ground.data }, { on := 12, ground := Go.Ground.data }, { on := 10, ground := Go.Ground.chain }, { on := 7, ground := Go.Ground.guard }], guard := some (7, true) }) rfl (fun K hK => ?_) AllReadyH.nil
  go_simp
  (go_at_call 12; refine (FreeR_calls a0 a1 a2 a3 a4 a5 a6 a7 a8 a9 a10 a11 a12 a13 a14 A15 c15 l15 A16 c16 l16 _ _ _ (HF15.out _ (by assumption)) HL15.out (HF16.out _ (by assumption)) HL16.out).mono ?_; rintro e v5 ⟨rfl, hb⟩; have hs := HST.out _ _ (by assumption) hb; clear hb)
  (try go_wp2_with fail)
  refine hK.out _ _ (by assumption) (fun hHeld => ?_)
  clear hK K
  try simp only [Act.put, List.setIfInBounds_toArray, List.set_cons_zero, List.set_cons_succ]
  refine wpAnyH_take (i := 14) (oi := { dst := some 44, op := Go.Op.binOp Go.BinOp.eql 4 (Go.Operand.tmp 40) (Go.Operand.tmp 43) 4, type := 4, pos := "law.go:63", after := #[{ on := 10, ground := Go.Ground.data }, { on := 13, ground := Go.Ground.data }, { on := 7, ground := Go.Ground.guard }], guard := some (7, true) }) (v := .bool true) rfl (by kernel_rfl) (by kernel_rfl) (by kernel_rfl) (fun _ _ _ h => h) (Or.inl ⟨by rfl, by intro w hSw; go_simp⟩) (by assumption) ?_
  simp only [Act.put, List.setIfInBounds_toArray, List.set_cons_zero, List.set_cons_succ]
  refine wpAnyH_take (i := 15) (oi := { dst := some 45, op := Go.Op.pick (Go.Operand.tmp 37) (Go.Operand.tmp 44) (Go.Operand.const (Go.Value.bool false)), type := 4, pos := "law.go:63", after := #[{ on := 7, ground := Go.Ground.data }, { on := 14, ground := Go.Ground.data }], guard := none }) (v := .bool true) rfl (by kernel_rfl) (by kernel_rfl) (by kernel_rfl) (fun _ _ _ h => h) (Or.inl ⟨by rfl, by intro w hSw; go_simp⟩) (by assumption) ?_
  simp only [Act.put, List.setIfInBounds_toArray, List.set_cons_zero, List.set_cons_succ]
  refine wpAnyH_take (i := 16) (oi := { dst := some 46, op := Go.Op.move (Go.Operand.tmp 45), type := 4, pos := "law.go:63", after := #[{ on := 15, ground := Go.Ground.data }, { on := 13, ground := Go.Ground.chain }], guard := none }) (v := .bool true) rfl (by kernel_rfl) (by kernel_rfl) (by kernel_rfl) (fun _ _ _ h => h) (Or.inl ⟨by rfl, by intro w hSw; go_simp⟩) (by assumption) ?_
  simp only [Act.put, List.setIfInBounds_toArray, List.set_cons_zero, List.set_cons_succ]
  refine wpAnyH_take (i := 17) (oi := { dst := some 47, op := Go.Op.load 29 (Go.Operand.tmp 10), type := 29, pos := "law.go:63", after := #[{ on := 16, ground := Go.Ground.guard }], guard := some (16, true) }) (v := .agg #[.int .i64 a0, .int .i64 a1, .int .i64 a2, .int .i64 a3, .int .i64 a4, .int .i64 a5, .int .i64 a6, .int .i64 a7, .int .i64 a8, .int .i64 a9, .int .i64 a10, .int .i64 a11, .int .i64 a12, .int .i64 a13, .int .i64 a14, .slice A15 l15.length c15, .slice A16 l16.length c16]) rfl (by kernel_rfl) (by kernel_rfl) (by kernel_rfl) (fun _ _ _ h => h) (yields_row (by rfl) 29 (.tmp 10) rfl b10 rfl 29 #[.int .i64 a0, .int .i64 a1, .int .i64 a2, .int .i64 a3, .int .i64 a4, .int .i64 a5, .int .i64 a6, .int .i64 a7, .int .i64 a8, .int .i64 a9, .int .i64 a10, .int .i64 a11, .int .i64 a12, .int .i64 a13, .int .i64 a14, .slice A15 l15.length c15, .slice A16 l16.length c16] HLD10.out Try.underlying29 (by kernel_rfl)) (by assumption) ?_
  simp only [Act.put, List.setIfInBounds_toArray, List.set_cons_zero, List.set_cons_succ]
  refine wpAnyH_take (i := 18) (oi := { dst := some 48, op := Go.Op.move (Go.Operand.tmp 12), type := 3, pos := "law.go:63", after := #[{ on := 16, ground := Go.Ground.guard }], guard := some (16, true) }) (v := .int .i64 (at' - 2)) rfl (by kernel_rfl) (by kernel_rfl) (by kernel_rfl) (fun _ _ _ h => h) (Or.inl ⟨by rfl, by intro w hSw; go_simp⟩) (by assumption) ?_
  simp only [Act.put, List.setIfInBounds_toArray, List.set_cons_zero, List.set_cons_succ]
  refine wpAnyH_take (i := 20) (oi := { dst := some 50, op := Go.Op.load 29 (Go.Operand.tmp 10), type := 29, pos := "law.go:63", after := #[{ on := 16, ground := Go.Ground.guard }], guard := some (16, true) }) (v := .agg #[.int .i64 a0, .int .i64 a1, .int .i64 a2, .int .i64 a3, .int .i64 a4, .int .i64 a5, .int .i64 a6, .int .i64 a7, .int .i64 a8, .int .i64 a9, .int .i64 a10, .int .i64 a11, .int .i64 a12, .int .i64 a13, .int .i64 a14, .slice A15 l15.length c15, .slice A16 l16.length c16]) rfl (by kernel_rfl) (by kernel_rfl) (by kernel_rfl) (fun _ _ _ h => h) (yields_row (by rfl) 29 (.tmp 10) rfl b10 rfl 29 #[.int .i64 a0, .int .i64 a1, .int .i64 a2, .int .i64 a3, .int .i64 a4, .int .i64 a5, .int .i64 a6, .int .i64 a7, .int .i64 a8, .int .i64 a9, .int .i64 a10, .int .i64 a11, .int .i64 a12, .int .i64 a13, .int .i64 a14, .slice A15 l15.length c15, .slice A16 l16.length c16] HLD10.out Try.underlying29 (by kernel_rfl)) (by assumption) ?_
  simp only [Act.put, List.setIfInBounds_toArray, List.set_cons_zero, List.set_cons_succ]
  refine wpAnyH_take (i := 21) (oi := { dst := some 51, op := Go.Op.move (Go.Operand.tmp 12), type := 3, pos := "law.go:63", after := #[{ on := 16, ground := Go.Ground.guard }], guard := some (16, true) }) (v := .int .i64 (at' - 2)) rfl (by kernel_rfl) (by kernel_rfl) (by kernel_rfl) (fun _ _ _ h => h) (Or.inl ⟨by rfl, by intro w hSw; go_simp⟩) (by assumption) ?_
  simp only [Act.put, List.setIfInBounds_toArray, List.set_cons_zero, List.set_cons_succ]
  refine wpAnyH_ready (rs := [19]) (by kernel_rfl) (by simp) ?_
  refine AllReadyH.cons (o := { dst := some 49, op := Go.Op.call { callee := Go.Callee.value (Go.Operand.func 11), args := #[Go.Operand.tmp 47, Go.Operand.tmp 48, Go.Operand.const (Go.Value.bool false)], argTypes := #[29, 3, 4] }, type := 4, pos := "law.go:63", after := #[{ on := 17, ground := Go.Ground.data }, { on := 18, ground := Go.Ground.data }, { on := 16, ground := Go.Ground.chain }, { on := 16, ground := Go.Ground.guard }], guard := some (16, true) }) rfl (fun K hK => ?_) AllReadyH.nil
  go_simp
  (go_at_call 11; refine (FreeP_calls a0 a1 a2 a3 a4 a5 a6 a7 a8 a9 a10 a11 a12 a13 a14 A15 c15 l15 A16 c16 l16 _ _ _ (HF15.out _ (by assumption)) HL15.out (HF16.out _ (by assumption)) HL16.out).mono ?_; rintro e v4 ⟨rfl, hb⟩; have hs := HST.out _ _ (by assumption) hb; clear hb)
  (try go_wp2_with fail)
  refine hK.out _ _ (by assumption) (fun hHeld => ?_)
  clear hK K
  try simp only [Act.put, List.setIfInBounds_toArray, List.set_cons_zero, List.set_cons_succ]
  refine wpAnyH_ready (rs := [22]) (by kernel_rfl) (by simp) ?_
  refine AllReadyH.cons (o := { dst := some 52, op := Go.Op.call { callee := Go.Callee.value (Go.Operand.func 12), args := #[Go.Operand.tmp 50, Go.Operand.tmp 51, Go.Operand.const (Go.Value.bool false)], argTypes := #[29, 3, 4] }, type := 4, pos := "law.go:63", after := #[{ on := 20, ground := Go.Ground.data }, { on := 21, ground := Go.Ground.data }, { on := 19, ground := Go.Ground.chain }, { on := 16, ground := Go.Ground.guard }], guard := some (16, true) }) rfl (fun K hK => ?_) AllReadyH.nil
  go_simp
  (go_at_call 12; refine (FreeR_calls a0 a1 a2 a3 a4 a5 a6 a7 a8 a9 a10 a11 a12 a13 a14 A15 c15 l15 A16 c16 l16 _ _ _ (HF15.out _ (by assumption)) HL15.out (HF16.out _ (by assumption)) HL16.out).mono ?_; rintro e v5 ⟨rfl, hb⟩; have hs := HST.out _ _ (by assumption) hb; clear hb)
  (try go_wp2_with fail)
  refine hK.out _ _ (by assumption) (fun hHeld => ?_)
  clear hK K
  try simp only [Act.put, List.setIfInBounds_toArray, List.set_cons_zero, List.set_cons_succ]
  refine wpAnyH_take (i := 23) (oi := { dst := some 53, op := Go.Op.binOp Go.BinOp.eql 4 (Go.Operand.tmp 49) (Go.Operand.tmp 52) 4, type := 4, pos := "law.go:63", after := #[{ on := 19, ground := Go.Ground.data }, { on := 22, ground := Go.Ground.data }, { on := 16, ground := Go.Ground.guard }], guard := some (16, true) }) (v := .bool true) rfl (by kernel_rfl) (by kernel_rfl) (by kernel_rfl) (fun _ _ _ h => h) (Or.inl ⟨by rfl, by intro w hSw; go_simp⟩) (by assumption) ?_
  simp only [Act.put, List.setIfInBounds_toArray, List.set_cons_zero, List.set_cons_succ]
  refine wpAnyH_take (i := 24) (oi := { dst := some 54, op := Go.Op.pick (Go.Operand.tmp 46) (Go.Operand.tmp 53) (Go.Operand.const (Go.Value.bool false)), type := 4, pos := "law.go:63", after := #[{ on := 16, ground := Go.Ground.data }, { on := 23, ground := Go.Ground.data }], guard := none }) (v := .bool true) rfl (by kernel_rfl) (by kernel_rfl) (by kernel_rfl) (fun _ _ _ h => h) (Or.inl ⟨by rfl, by intro w hSw; go_simp⟩) (by assumption) ?_
  simp only [Act.put, List.setIfInBounds_toArray, List.set_cons_zero, List.set_cons_succ]
  refine wpAnyH_take (i := 25) (oi := { dst := some 55, op := Go.Op.move (Go.Operand.tmp 54), type := 4, pos := "law.go:63", after := #[{ on := 24, ground := Go.Ground.data }, { on := 22, ground := Go.Ground.chain }], guard := none }) (v := .bool true) rfl (by kernel_rfl) (by kernel_rfl) (by kernel_rfl) (fun _ _ _ h => h) (Or.inl ⟨by rfl, by intro w hSw; go_simp⟩) (by assumption) ?_
  simp only [Act.put, List.setIfInBounds_toArray, List.set_cons_zero, List.set_cons_succ]
  refine wpAnyH_ready (rs := [26]) (by kernel_rfl) (by simp) ?_
  refine AllReadyH.cons (o := { dst := some 56, op := Go.Op.call { callee := Go.Callee.value (Go.Operand.func 13), args := #[], argTypes := #[] }, type := 4, pos := "law.go:63", after := #[{ on := 25, ground := Go.Ground.chain }, { on := 25, ground := Go.Ground.guard }], guard := some (25, true) }) rfl (fun K hK => ?_) AllReadyH.nil
  go_simp
  (go_at_call 13; refine (timeboundlaw26_awake.calls0 _).mono ?_; rintro e v6 ⟨rfl, hb⟩; have hs := HST.out _ _ (by assumption) hb; clear hb)
  (try go_wp2_with fail)
  refine hK.out _ _ (by assumption) (fun hHeld => ?_)
  clear hK K
  try simp only [Act.put, List.setIfInBounds_toArray, List.set_cons_zero, List.set_cons_succ]
  refine wpAnyH_take (i := 27) (oi := { dst := some 57, op := Go.Op.pick (Go.Operand.tmp 55) (Go.Operand.tmp 56) (Go.Operand.const (Go.Value.bool false)), type := 4, pos := "law.go:63", after := #[{ on := 25, ground := Go.Ground.data }, { on := 26, ground := Go.Ground.data }], guard := none }) (v := .bool true) rfl (by kernel_rfl) (by kernel_rfl) (by kernel_rfl) (fun _ _ _ h => h) (Or.inl ⟨by rfl, by intro w hSw; go_simp⟩) (by assumption) ?_
  simp only [Act.put, List.setIfInBounds_toArray, List.set_cons_zero, List.set_cons_succ]
  refine wpAnyH_take (i := 28) (oi := { dst := some 8, op := Go.Op.assign (Go.Operand.tmp 57), type := 4, pos := "law.go:63", after := #[{ on := 27, ground := Go.Ground.data }, { on := 26, ground := Go.Ground.chain }, { on := 0, ground := Go.Ground.phase }, { on := 1, ground := Go.Ground.phase }, { on := 2, ground := Go.Ground.phase }, { on := 3, ground := Go.Ground.phase }, { on := 4, ground := Go.Ground.phase }, { on := 5, ground := Go.Ground.phase }, { on := 6, ground := Go.Ground.phase }, { on := 7, ground := Go.Ground.phase }, { on := 8, ground := Go.Ground.phase }, { on := 9, ground := Go.Ground.phase }, { on := 10, ground := Go.Ground.phase }, { on := 11, ground := Go.Ground.phase }, { on := 12, ground := Go.Ground.phase }, { on := 13, ground := Go.Ground.phase }, { on := 14, ground := Go.Ground.phase }, { on := 15, ground := Go.Ground.phase }, { on := 16, ground := Go.Ground.phase }, { on := 17, ground := Go.Ground.phase }, { on := 18, ground := Go.Ground.phase }, { on := 19, ground := Go.Ground.phase }, { on := 20, ground := Go.Ground.phase }, { on := 21, ground := Go.Ground.phase }, { on := 22, ground := Go.Ground.phase }, { on := 23, ground := Go.Ground.phase }, { on := 24, ground := Go.Ground.phase }, { on := 25, ground := Go.Ground.phase }, { on := 26, ground := Go.Ground.phase }, { on := 27, ground := Go.Ground.phase }], guard := none }) (v := .bool true) rfl (by kernel_rfl) (by kernel_rfl) (by kernel_rfl) (fun _ _ _ h => h) (Or.inl ⟨by rfl, by intro w hSw; go_simp⟩) (by assumption) ?_
  simp only [Act.put, List.setIfInBounds_toArray, List.set_cons_zero, List.set_cons_succ]
  refine wpAnyH_done (by kernel_rfl) ?_ _
  refine NoPanic.normal ?_
  go_wp2_with fail
  go_ret
  exact ⟨rfl, HBF.out _ (by assumption)⟩
end Go.Proofs.Ytcaanbicgpfonaa.PPl
