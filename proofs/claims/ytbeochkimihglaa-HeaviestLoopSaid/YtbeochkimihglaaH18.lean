/- open and inside over edges. -/
import Derived.Test.YtbeochkimihglaaH17
import Derived.Outline
namespace Go.Proofs.Ytbeochkimihglaa.PHl
open Go.RowKit Go.Proofs.YtbeochkimihglaaW.PrintWords Go.Proofs.YtbeochkimihglaaW.PrintLast Go.Proofs.YtbeochkimihglaaW.PrintMore
set_option linter.unusedVariables false
set_option linter.unusedSimpArgs false
theorem oneL (l : List Int) : ∀ u ∈ l.map (Value.int .i64), u.oneCell' = true := by
  intro u hu
  obtain ⟨x, -, rfl⟩ := List.mem_map.1 hu
  rfl
set_option maxHeartbeats 8000000 in
set_option maxRecDepth 100000 in
theorem call_opn_none (bs ge c dd : Nat) (a0 a1 a2 a3 : Int) (w : World) (hE : w.ownsRow bs 74 4 (.slice (some ⟨ge, 0, none⟩) 4 c) 4 [.int .i64 0, .int .i64 0, .int .i64 1, .int .i64 a0, .int .i64 1, .int .i64 0, .int .i64 2, .int .i64 a1, .int .i64 1, .int .i64 1, .int .i64 3, .int .i64 a2, .int .i64 2, .int .i64 0, .int .i64 1, .int .i64 a3]) (hL : Blk w dd #[.bool false, .bool false, .bool false, .bool false] 4) :
    Calls Try.prog 25 #[.slice (some ⟨ge, 0, none⟩) 4 c, .slice (some ⟨dd, 0, none⟩) 4 4] w fun e w' => ∃ g c', e = .returned (.slice (some ⟨g, 0, none⟩) 4 c') ∧ w'.ownsRow w.heap.size 74 4 (.slice (some ⟨g, 0, none⟩) 4 c') 4 [.int .i64 0, .int .i64 0, .int .i64 1, .int .i64 a0, .int .i64 1, .int .i64 0, .int .i64 2, .int .i64 a1, .int .i64 1, .int .i64 1, .int .i64 3, .int .i64 a2, .int .i64 2, .int .i64 0, .int .i64 1, .int .i64 a3] ∧ Below w.heap.size w w' := by
  have BL := Aside0.mk hL
  have HS := Aside0.mk hE
  have HB : Aside0 (Below w.heap.size w w) := ⟨Below.refl _ _⟩
  clear hE hL
  go_enter Try.func25, Try.ntmps25
  go_upto_region 1 with (fail)
  have HS1 : Aside0 ((w.alloc (.cells #[.slice (some ⟨dd, 0, none⟩) 4 4] 41)).ownsRow bs 74 4 (.slice (some ⟨ge, 0, none⟩) 4 c) 4 [.int .i64 0, .int .i64 0, .int .i64 1, .int .i64 a0, .int .i64 1, .int .i64 0, .int .i64 2, .int .i64 a1, .int .i64 1, .int .i64 1, .int .i64 3, .int .i64 a2, .int .i64 2, .int .i64 0, .int .i64 1, .int .i64 a3]) := ⟨own_alloc HS.out _⟩
  have hb : Below w.heap.size w (w.alloc (.cells #[.slice (some ⟨dd, 0, none⟩) 4 4] 41)) := (by repeat (first | with_reducible exact Below.refl _ _ | apply below_alloc | apply pw_below_drewN | apply below_drew1))
  have BN : Aside0 (Blk (w.alloc (.cells #[.slice (some ⟨dd, 0, none⟩) 4 4] 41)) w.heap.size #[.slice (some ⟨dd, 0, none⟩) 4 4] 41) := ⟨(by (repeat (first | with_reducible exact heap_alloc_new _ _ | with_reducible exact heap_alloc2_new _ _ _ | with_reducible exact blk_at3 _ _ _ _ | with_reducible exact blk_at4 _ _ _ _ _ | refine blk_alloc ?_ _)))⟩
  replace HB := Aside0.mk (below_step HB.out hb)
  replace BL := Aside0.mk (blk_below BL.out hb)
  clear hb
  generalize (w.alloc (.cells #[.slice (some ⟨dd, 0, none⟩) 4 4] 41)) = Wa at HS1 HB BL BN ⊢
  have HB2 : Aside0 (Below Wa.heap.size Wa Wa) := ⟨Below.refl _ _⟩
  have BL0 := BL
  have BN0 := BN
  have GN : Aside0 (w.heap.size < Wa.heap.size) := ⟨blk_lt BN.out⟩
  have GL : Aside0 (dd < Wa.heap.size) := ⟨blk_lt BL.out⟩
  clear HS
  go_wp2_with fail
  refine (clone_calls ge 4 c [.int .i64 0, .int .i64 0, .int .i64 1, .int .i64 a0, .int .i64 1, .int .i64 0, .int .i64 2, .int .i64 a1, .int .i64 1, .int .i64 1, .int .i64 3, .int .i64 a2, .int .i64 2, .int .i64 0, .int .i64 1, .int .i64 a3] _ (HS1.out.cells (g := ge) rfl) rfl (oneL [0, 0, 1, a0, 1, 0, 2, a1, 1, 1, 3, a2, 2, 0, 1, a3]) (by decide)).mono ?_
  rintro e w1 ⟨g1, c1, rfl, ho, hb⟩
  have HE := Aside0.mk ho
  clear ho HS1
  replace HB2 := Aside0.mk (below_step HB2.out hb)
  replace BL := Aside0.mk (blk_below BL0.out HB2.out)
  replace BN := Aside0.mk (blk_below BN0.out HB2.out)
  clear hb
  go_wp2_with fail
  refine (delete_opn_none g1 c1 Wa.heap.size a0 a1 a2 a3 w.heap.size dd _ HE.out BN.out BL.out HB2.out.size GN.out GL.out).mono ?_
  rintro e w2 ⟨rfl, ho, hb⟩
  have hb2 := below_step HB.out (HB2.out.trans hb)
  have ho2 := own_weaken ho HB.out.size
  clear ho hb
  go_wp2_with fail
  go_ret
  exact ⟨g1, c1, rfl, ho2, hb2⟩
set_option maxHeartbeats 8000000 in
set_option maxRecDepth 100000 in
theorem call_opn_two (bs ge c dd : Nat) (a0 a1 a2 a3 : Int) (w : World) (hE : w.ownsRow bs 74 4 (.slice (some ⟨ge, 0, none⟩) 4 c) 4 [.int .i64 0, .int .i64 0, .int .i64 1, .int .i64 a0, .int .i64 1, .int .i64 0, .int .i64 2, .int .i64 a1, .int .i64 1, .int .i64 1, .int .i64 3, .int .i64 a2, .int .i64 2, .int .i64 0, .int .i64 1, .int .i64 a3]) (hL : Blk w dd #[.bool false, .bool false, .bool true, .bool false] 4) :
    Calls Try.prog 25 #[.slice (some ⟨ge, 0, none⟩) 4 c, .slice (some ⟨dd, 0, none⟩) 4 4] w fun e w' => ∃ g c', e = .returned (.slice (some ⟨g, 0, none⟩) 2 c') ∧ w'.ownsRow w.heap.size 74 4 (.slice (some ⟨g, 0, none⟩) 2 c') 2 [.int .i64 0, .int .i64 0, .int .i64 1, .int .i64 a0, .int .i64 1, .int .i64 1, .int .i64 3, .int .i64 a2] ∧ Below w.heap.size w w' := by
  have BL := Aside0.mk hL
  have HS := Aside0.mk hE
  have HB : Aside0 (Below w.heap.size w w) := ⟨Below.refl _ _⟩
  clear hE hL
  go_enter Try.func25, Try.ntmps25
  go_upto_region 1 with (fail)
  have HS1 : Aside0 ((w.alloc (.cells #[.slice (some ⟨dd, 0, none⟩) 4 4] 41)).ownsRow bs 74 4 (.slice (some ⟨ge, 0, none⟩) 4 c) 4 [.int .i64 0, .int .i64 0, .int .i64 1, .int .i64 a0, .int .i64 1, .int .i64 0, .int .i64 2, .int .i64 a1, .int .i64 1, .int .i64 1, .int .i64 3, .int .i64 a2, .int .i64 2, .int .i64 0, .int .i64 1, .int .i64 a3]) := ⟨own_alloc HS.out _⟩
  have hb : Below w.heap.size w (w.alloc (.cells #[.slice (some ⟨dd, 0, none⟩) 4 4] 41)) := (by repeat (first | with_reducible exact Below.refl _ _ | apply below_alloc | apply pw_below_drewN | apply below_drew1))
  have BN : Aside0 (Blk (w.alloc (.cells #[.slice (some ⟨dd, 0, none⟩) 4 4] 41)) w.heap.size #[.slice (some ⟨dd, 0, none⟩) 4 4] 41) := ⟨(by (repeat (first | with_reducible exact heap_alloc_new _ _ | with_reducible exact heap_alloc2_new _ _ _ | with_reducible exact blk_at3 _ _ _ _ | with_reducible exact blk_at4 _ _ _ _ _ | refine blk_alloc ?_ _)))⟩
  replace HB := Aside0.mk (below_step HB.out hb)
  replace BL := Aside0.mk (blk_below BL.out hb)
  clear hb
  generalize (w.alloc (.cells #[.slice (some ⟨dd, 0, none⟩) 4 4] 41)) = Wa at HS1 HB BL BN ⊢
  have HB2 : Aside0 (Below Wa.heap.size Wa Wa) := ⟨Below.refl _ _⟩
  have BL0 := BL
  have BN0 := BN
  have GN : Aside0 (w.heap.size < Wa.heap.size) := ⟨blk_lt BN.out⟩
  have GL : Aside0 (dd < Wa.heap.size) := ⟨blk_lt BL.out⟩
  clear HS
  go_wp2_with fail
  refine (clone_calls ge 4 c [.int .i64 0, .int .i64 0, .int .i64 1, .int .i64 a0, .int .i64 1, .int .i64 0, .int .i64 2, .int .i64 a1, .int .i64 1, .int .i64 1, .int .i64 3, .int .i64 a2, .int .i64 2, .int .i64 0, .int .i64 1, .int .i64 a3] _ (HS1.out.cells (g := ge) rfl) rfl (oneL [0, 0, 1, a0, 1, 0, 2, a1, 1, 1, 3, a2, 2, 0, 1, a3]) (by decide)).mono ?_
  rintro e w1 ⟨g1, c1, rfl, ho, hb⟩
  have HE := Aside0.mk ho
  clear ho HS1
  replace HB2 := Aside0.mk (below_step HB2.out hb)
  replace BL := Aside0.mk (blk_below BL0.out HB2.out)
  replace BN := Aside0.mk (blk_below BN0.out HB2.out)
  clear hb
  go_wp2_with fail
  refine (delete_opn_two g1 c1 Wa.heap.size a0 a1 a2 a3 w.heap.size dd _ HE.out BN.out BL.out HB2.out.size GN.out GL.out).mono ?_
  rintro e w2 ⟨rfl, ho, hb⟩
  have hb2 := below_step HB.out (HB2.out.trans hb)
  have ho2 := own_weaken ho HB.out.size
  clear ho hb
  go_wp2_with fail
  go_ret
  exact ⟨g1, c1, rfl, ho2, hb2⟩
set_option maxHeartbeats 8000000 in
set_option maxRecDepth 100000 in
theorem call_opn_all (bs ge c dd : Nat) (a0 a1 a2 a3 : Int) (w : World) (hE : w.ownsRow bs 74 4 (.slice (some ⟨ge, 0, none⟩) 4 c) 4 [.int .i64 0, .int .i64 0, .int .i64 1, .int .i64 a0, .int .i64 1, .int .i64 0, .int .i64 2, .int .i64 a1, .int .i64 1, .int .i64 1, .int .i64 3, .int .i64 a2, .int .i64 2, .int .i64 0, .int .i64 1, .int .i64 a3]) (hL : Blk w dd #[.bool false, .bool true, .bool false, .bool false] 4) :
    Calls Try.prog 25 #[.slice (some ⟨ge, 0, none⟩) 4 c, .slice (some ⟨dd, 0, none⟩) 4 4] w fun e w' => ∃ g c', e = .returned (.slice (some ⟨g, 0, none⟩) 0 c') ∧ w'.ownsRow w.heap.size 74 4 (.slice (some ⟨g, 0, none⟩) 0 c') 0 [] ∧ Below w.heap.size w w' := by
  have BL := Aside0.mk hL
  have HS := Aside0.mk hE
  have HB : Aside0 (Below w.heap.size w w) := ⟨Below.refl _ _⟩
  clear hE hL
  go_enter Try.func25, Try.ntmps25
  go_upto_region 1 with (fail)
  have HS1 : Aside0 ((w.alloc (.cells #[.slice (some ⟨dd, 0, none⟩) 4 4] 41)).ownsRow bs 74 4 (.slice (some ⟨ge, 0, none⟩) 4 c) 4 [.int .i64 0, .int .i64 0, .int .i64 1, .int .i64 a0, .int .i64 1, .int .i64 0, .int .i64 2, .int .i64 a1, .int .i64 1, .int .i64 1, .int .i64 3, .int .i64 a2, .int .i64 2, .int .i64 0, .int .i64 1, .int .i64 a3]) := ⟨own_alloc HS.out _⟩
  have hb : Below w.heap.size w (w.alloc (.cells #[.slice (some ⟨dd, 0, none⟩) 4 4] 41)) := (by repeat (first | with_reducible exact Below.refl _ _ | apply below_alloc | apply pw_below_drewN | apply below_drew1))
  have BN : Aside0 (Blk (w.alloc (.cells #[.slice (some ⟨dd, 0, none⟩) 4 4] 41)) w.heap.size #[.slice (some ⟨dd, 0, none⟩) 4 4] 41) := ⟨(by (repeat (first | with_reducible exact heap_alloc_new _ _ | with_reducible exact heap_alloc2_new _ _ _ | with_reducible exact blk_at3 _ _ _ _ | with_reducible exact blk_at4 _ _ _ _ _ | refine blk_alloc ?_ _)))⟩
  replace HB := Aside0.mk (below_step HB.out hb)
  replace BL := Aside0.mk (blk_below BL.out hb)
  clear hb
  generalize (w.alloc (.cells #[.slice (some ⟨dd, 0, none⟩) 4 4] 41)) = Wa at HS1 HB BL BN ⊢
  have HB2 : Aside0 (Below Wa.heap.size Wa Wa) := ⟨Below.refl _ _⟩
  have BL0 := BL
  have BN0 := BN
  have GN : Aside0 (w.heap.size < Wa.heap.size) := ⟨blk_lt BN.out⟩
  have GL : Aside0 (dd < Wa.heap.size) := ⟨blk_lt BL.out⟩
  clear HS
  go_wp2_with fail
  refine (clone_calls ge 4 c [.int .i64 0, .int .i64 0, .int .i64 1, .int .i64 a0, .int .i64 1, .int .i64 0, .int .i64 2, .int .i64 a1, .int .i64 1, .int .i64 1, .int .i64 3, .int .i64 a2, .int .i64 2, .int .i64 0, .int .i64 1, .int .i64 a3] _ (HS1.out.cells (g := ge) rfl) rfl (oneL [0, 0, 1, a0, 1, 0, 2, a1, 1, 1, 3, a2, 2, 0, 1, a3]) (by decide)).mono ?_
  rintro e w1 ⟨g1, c1, rfl, ho, hb⟩
  have HE := Aside0.mk ho
  clear ho HS1
  replace HB2 := Aside0.mk (below_step HB2.out hb)
  replace BL := Aside0.mk (blk_below BL0.out HB2.out)
  replace BN := Aside0.mk (blk_below BN0.out HB2.out)
  clear hb
  go_wp2_with fail
  refine (delete_opn_all g1 c1 Wa.heap.size a0 a1 a2 a3 w.heap.size dd _ HE.out BN.out BL.out HB2.out.size GN.out GL.out).mono ?_
  rintro e w2 ⟨rfl, ho, hb⟩
  have hb2 := below_step HB.out (HB2.out.trans hb)
  have ho2 := own_weaken ho HB.out.size
  clear ho hb
  go_wp2_with fail
  go_ret
  exact ⟨g1, c1, rfl, ho2, hb2⟩
set_option maxHeartbeats 8000000 in
set_option maxRecDepth 100000 in
theorem call_ins_four (bs ge c ln : Nat) (a0 a1 a2 a3 : Int) (w : World) (hE : w.ownsRow bs 74 4 (.slice (some ⟨ge, 0, none⟩) 4 c) 4 [.int .i64 0, .int .i64 0, .int .i64 1, .int .i64 a0, .int .i64 1, .int .i64 0, .int .i64 2, .int .i64 a1, .int .i64 1, .int .i64 1, .int .i64 3, .int .i64 a2, .int .i64 2, .int .i64 0, .int .i64 1, .int .i64 a3]) (hL : Blk w ln #[.int .i64 1, .int .i64 2] 3) :
    Calls Try.prog 24 #[.slice (some ⟨ge, 0, none⟩) 4 c, .slice (some ⟨ln, 0, none⟩) 2 2] w fun e w' => ∃ g c', e = .returned (.slice (some ⟨g, 0, none⟩) 2 c') ∧ w'.ownsRow w.heap.size 74 4 (.slice (some ⟨g, 0, none⟩) 2 c') 2 [.int .i64 1, .int .i64 0, .int .i64 2, .int .i64 a1, .int .i64 2, .int .i64 0, .int .i64 1, .int .i64 a3] ∧ Below w.heap.size w w' := by
  have BL := Aside0.mk hL
  have HS := Aside0.mk hE
  have HB : Aside0 (Below w.heap.size w w) := ⟨Below.refl _ _⟩
  clear hE hL
  go_enter Try.func24, Try.ntmps24
  go_upto_region 1 with (fail)
  have HS1 : Aside0 ((w.alloc (.cells #[.slice (some ⟨ln, 0, none⟩) 2 2] 29)).ownsRow bs 74 4 (.slice (some ⟨ge, 0, none⟩) 4 c) 4 [.int .i64 0, .int .i64 0, .int .i64 1, .int .i64 a0, .int .i64 1, .int .i64 0, .int .i64 2, .int .i64 a1, .int .i64 1, .int .i64 1, .int .i64 3, .int .i64 a2, .int .i64 2, .int .i64 0, .int .i64 1, .int .i64 a3]) := ⟨own_alloc HS.out _⟩
  have hb : Below w.heap.size w (w.alloc (.cells #[.slice (some ⟨ln, 0, none⟩) 2 2] 29)) := (by repeat (first | with_reducible exact Below.refl _ _ | apply below_alloc | apply pw_below_drewN | apply below_drew1))
  have BN : Aside0 (Blk (w.alloc (.cells #[.slice (some ⟨ln, 0, none⟩) 2 2] 29)) w.heap.size #[.slice (some ⟨ln, 0, none⟩) 2 2] 29) := ⟨(by (repeat (first | with_reducible exact heap_alloc_new _ _ | with_reducible exact heap_alloc2_new _ _ _ | with_reducible exact blk_at3 _ _ _ _ | with_reducible exact blk_at4 _ _ _ _ _ | refine blk_alloc ?_ _)))⟩
  replace HB := Aside0.mk (below_step HB.out hb)
  replace BL := Aside0.mk (blk_below BL.out hb)
  clear hb
  generalize (w.alloc (.cells #[.slice (some ⟨ln, 0, none⟩) 2 2] 29)) = Wa at HS1 HB BL BN ⊢
  have HB2 : Aside0 (Below Wa.heap.size Wa Wa) := ⟨Below.refl _ _⟩
  have BL0 := BL
  have BN0 := BN
  have GN : Aside0 (w.heap.size < Wa.heap.size) := ⟨blk_lt BN.out⟩
  have GL : Aside0 (ln < Wa.heap.size) := ⟨blk_lt BL.out⟩
  clear HS
  go_wp2_with fail
  refine (clone_calls ge 4 c [.int .i64 0, .int .i64 0, .int .i64 1, .int .i64 a0, .int .i64 1, .int .i64 0, .int .i64 2, .int .i64 a1, .int .i64 1, .int .i64 1, .int .i64 3, .int .i64 a2, .int .i64 2, .int .i64 0, .int .i64 1, .int .i64 a3] _ (HS1.out.cells (g := ge) rfl) rfl (oneL [0, 0, 1, a0, 1, 0, 2, a1, 1, 1, 3, a2, 2, 0, 1, a3]) (by decide)).mono ?_
  rintro e w1 ⟨g1, c1, rfl, ho, hb⟩
  have HE := Aside0.mk ho
  clear ho HS1
  replace HB2 := Aside0.mk (below_step HB2.out hb)
  replace BL := Aside0.mk (blk_below BL0.out HB2.out)
  replace BN := Aside0.mk (blk_below BN0.out HB2.out)
  clear hb
  go_wp2_with fail
  refine (delete_ins_four g1 c1 Wa.heap.size a0 a1 a2 a3 w.heap.size ln _ HE.out BN.out BL.out HB2.out.size GN.out GL.out).mono ?_
  rintro e w2 ⟨rfl, ho, hb⟩
  have hb2 := below_step HB.out (HB2.out.trans hb)
  have ho2 := own_weaken ho HB.out.size
  clear ho hb
  go_wp2_with fail
  go_ret
  exact ⟨g1, c1, rfl, ho2, hb2⟩
set_option maxHeartbeats 8000000 in
set_option maxRecDepth 100000 in
theorem call_ins_two (bs ge c ln : Nat) (a0 a2 : Int) (w : World) (hE : w.ownsRow bs 74 4 (.slice (some ⟨ge, 0, none⟩) 2 c) 2 [.int .i64 0, .int .i64 0, .int .i64 1, .int .i64 a0, .int .i64 1, .int .i64 1, .int .i64 3, .int .i64 a2]) (hL : Blk w ln #[.int .i64 1, .int .i64 2] 3) :
    Calls Try.prog 24 #[.slice (some ⟨ge, 0, none⟩) 2 c, .slice (some ⟨ln, 0, none⟩) 2 2] w fun e w' => ∃ g c', e = .returned (.slice (some ⟨g, 0, none⟩) 0 c') ∧ w'.ownsRow w.heap.size 74 4 (.slice (some ⟨g, 0, none⟩) 0 c') 0 [] ∧ Below w.heap.size w w' := by
  have BL := Aside0.mk hL
  have HS := Aside0.mk hE
  have HB : Aside0 (Below w.heap.size w w) := ⟨Below.refl _ _⟩
  clear hE hL
  go_enter Try.func24, Try.ntmps24
  go_upto_region 1 with (fail)
  have HS1 : Aside0 ((w.alloc (.cells #[.slice (some ⟨ln, 0, none⟩) 2 2] 29)).ownsRow bs 74 4 (.slice (some ⟨ge, 0, none⟩) 2 c) 2 [.int .i64 0, .int .i64 0, .int .i64 1, .int .i64 a0, .int .i64 1, .int .i64 1, .int .i64 3, .int .i64 a2]) := ⟨own_alloc HS.out _⟩
  have hb : Below w.heap.size w (w.alloc (.cells #[.slice (some ⟨ln, 0, none⟩) 2 2] 29)) := (by repeat (first | with_reducible exact Below.refl _ _ | apply below_alloc | apply pw_below_drewN | apply below_drew1))
  have BN : Aside0 (Blk (w.alloc (.cells #[.slice (some ⟨ln, 0, none⟩) 2 2] 29)) w.heap.size #[.slice (some ⟨ln, 0, none⟩) 2 2] 29) := ⟨(by (repeat (first | with_reducible exact heap_alloc_new _ _ | with_reducible exact heap_alloc2_new _ _ _ | with_reducible exact blk_at3 _ _ _ _ | with_reducible exact blk_at4 _ _ _ _ _ | refine blk_alloc ?_ _)))⟩
  replace HB := Aside0.mk (below_step HB.out hb)
  replace BL := Aside0.mk (blk_below BL.out hb)
  clear hb
  generalize (w.alloc (.cells #[.slice (some ⟨ln, 0, none⟩) 2 2] 29)) = Wa at HS1 HB BL BN ⊢
  have HB2 : Aside0 (Below Wa.heap.size Wa Wa) := ⟨Below.refl _ _⟩
  have BL0 := BL
  have BN0 := BN
  have GN : Aside0 (w.heap.size < Wa.heap.size) := ⟨blk_lt BN.out⟩
  have GL : Aside0 (ln < Wa.heap.size) := ⟨blk_lt BL.out⟩
  clear HS
  go_wp2_with fail
  refine (clone_calls ge 2 c [.int .i64 0, .int .i64 0, .int .i64 1, .int .i64 a0, .int .i64 1, .int .i64 1, .int .i64 3, .int .i64 a2] _ (HS1.out.cells (g := ge) rfl) rfl (oneL [0, 0, 1, a0, 1, 1, 3, a2]) (by decide)).mono ?_
  rintro e w1 ⟨g1, c1, rfl, ho, hb⟩
  have HE := Aside0.mk ho
  clear ho HS1
  replace HB2 := Aside0.mk (below_step HB2.out hb)
  replace BL := Aside0.mk (blk_below BL0.out HB2.out)
  replace BN := Aside0.mk (blk_below BN0.out HB2.out)
  clear hb
  go_wp2_with fail
  refine (delete_ins_two g1 c1 Wa.heap.size a0 a2 w.heap.size ln _ HE.out BN.out BL.out HB2.out.size GN.out GL.out).mono ?_
  rintro e w2 ⟨rfl, ho, hb⟩
  have hb2 := below_step HB.out (HB2.out.trans hb)
  have ho2 := own_weaken ho HB.out.size
  clear ho hb
  go_wp2_with fail
  go_ret
  exact ⟨g1, c1, rfl, ho2, hb2⟩
end Go.Proofs.Ytbeochkimihglaa.PHl
