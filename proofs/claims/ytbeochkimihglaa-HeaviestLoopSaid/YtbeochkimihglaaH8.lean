/- heaviest.Looped over the unit; costs in memory. -/
import Derived.Test.YtbeochkimihglaaH7
import Derived.Outline
namespace Go.Proofs.Ytbeochkimihglaa.PHl
open Go.RowKit Go.Proofs.YtbeochkimihglaaW.PrintWords Go.Proofs.YtbeochkimihglaaW.PrintLast Go.Proofs.YtbeochkimihglaaW.PrintMore
set_option linter.unusedVariables false
set_option linter.unusedSimpArgs false
/-- Costs of the unit, in memory. -/
def CostW (W : World) (be k0 k1 k2 k3 kt : Nat) (cb ch cl cd ce ct : Int) : Prop :=
  Blk W be #[.slice (some ⟨k0, 0, none⟩) 1 1, .slice (some ⟨k1, 0, none⟩) 2 2, .slice (some ⟨k2, 0, none⟩) 1 1, .slice (some ⟨k3, 0, none⟩) 1 1] 29 ∧ Blk W k0 #[.int .i64 cb] 3 ∧ Blk W k1 #[.int .i64 ch, .int .i64 cl] 3 ∧ Blk W k2 #[.int .i64 cd] 3 ∧ Blk W k3 #[.int .i64 ce] 3 ∧ Blk W kt #[.int .i64 ct] 3
abbrev CV (be kt : Nat) : Value := .agg #[.slice (some ⟨be, 0, none⟩) 4 4, .slice (some ⟨kt, 0, none⟩) 1 1]
def Low (cb ch cl cd ce ct mx : Int) : Prop := (0 ≤ cb ∧ cb ≤ 255) ∧ (0 ≤ ch ∧ ch ≤ 255) ∧ (0 ≤ cl ∧ cl ≤ 255) ∧ (0 ≤ cd ∧ cd ≤ 255) ∧ (0 ≤ ce ∧ ce ≤ 255) ∧ (0 ≤ ct ∧ ct ≤ 255) ∧ 0 ≤ mx ∧ mx ≤ 32
theorem CostW.below {W W' : World} {be k0 k1 k2 k3 kt : Nat} {cb ch cl cd ce ct : Int} (h : CostW W be k0 k1 k2 k3 kt cb ch cl cd ce ct) (hb : Below W.heap.size W W') : CostW W' be k0 k1 k2 k3 kt cb ch cl cd ce ct :=
  ⟨blk_below h.1 hb, blk_below h.2.1 hb, blk_below h.2.2.1 hb, blk_below h.2.2.2.1 hb, blk_below h.2.2.2.2.1 hb, blk_below h.2.2.2.2.2 hb⟩
theorem CostW.reads {W : World} {be k0 k1 k2 k3 kt : Nat} {cb ch cl cd ce ct : Int} (h : CostW W be k0 k1 k2 k3 kt cb ch cl cd ce ct) :
    (∀ i, W.cell? ⟨be, i, none⟩ = (#[.slice (some ⟨k0, 0, none⟩) 1 1, .slice (some ⟨k1, 0, none⟩) 2 2, .slice (some ⟨k2, 0, none⟩) 1 1, .slice (some ⟨k3, 0, none⟩) 1 1] : Array Value)[i]?) ∧ W.cell? ⟨k0, 0, none⟩ = some (.int .i64 cb) ∧ W.cell? ⟨k1, 0, none⟩ = some (.int .i64 ch) ∧ W.cell? ⟨k1, 1, none⟩ = some (.int .i64 cl) ∧ W.cell? ⟨k2, 0, none⟩ = some (.int .i64 cd) ∧ W.cell? ⟨k3, 0, none⟩ = some (.int .i64 ce) ∧ W.cell? ⟨kt, 0, none⟩ = some (.int .i64 ct) :=
  ⟨fun i => blk_cell h.1 i, blk_cell h.2.1 0, blk_cell h.2.2.1 0, blk_cell h.2.2.1 1, blk_cell h.2.2.2.1 0, blk_cell h.2.2.2.2.1 0, blk_cell h.2.2.2.2.2 0⟩
theorem CostW.lts {W : World} {be k0 k1 k2 k3 kt : Nat} {cb ch cl cd ce ct : Int} (h : CostW W be k0 k1 k2 k3 kt cb ch cl cd ce ct) : be < W.heap.size ∧ k0 < W.heap.size ∧ k1 < W.heap.size ∧ k2 < W.heap.size ∧ k3 < W.heap.size ∧ kt < W.heap.size :=
  ⟨blk_lt h.1, blk_lt h.2.1, blk_lt h.2.2.1, blk_lt h.2.2.2.1, blk_lt h.2.2.2.2.1, blk_lt h.2.2.2.2.2⟩
set_option maxHeartbeats 8000000 in
set_option maxRecDepth 100000 in
theorem looped_calls (bn bl n0 n1 n2 ln : Nat) (mx : Int) (w : World) (hU : UnitW w bn bl n0 n1 n2 ln mx) (hm0 : 0 ≤ mx) (hm1 : mx ≤ 32) :
    Calls Try.prog 9 #[UV bn bl] w fun e w' => e = .returned (.bool true) ∧ Below w.heap.size w w' := by
  have hu32 := Try.underlying32
  have hu46 := Try.underlying46
  have HU := Aside0.mk hU
  clear hU
  obtain ⟨hN, hL, h0, h1, h1', h2, hln, hln'⟩ := HU.out.reads
  obtain ⟨lbn, lbl, ln0, ln1, ln2, lln⟩ := HU.out.lts
  have lbnA : ∀ k, bn < w.heap.size + k := fun k => by omega
  have lbnB : ∀ k j, bn < w.heap.size + k + j := fun k j => by omega
  have lblA : ∀ k, bl < w.heap.size + k := fun k => by omega
  have lblB : ∀ k j, bl < w.heap.size + k + j := fun k j => by omega
  have ln0A : ∀ k, n0 < w.heap.size + k := fun k => by omega
  have ln0B : ∀ k j, n0 < w.heap.size + k + j := fun k j => by omega
  have ln1A : ∀ k, n1 < w.heap.size + k := fun k => by omega
  have ln1B : ∀ k j, n1 < w.heap.size + k + j := fun k j => by omega
  have ln2A : ∀ k, n2 < w.heap.size + k := fun k => by omega
  have ln2B : ∀ k j, n2 < w.heap.size + k + j := fun k j => by omega
  have llnA : ∀ k, ln < w.heap.size + k := fun k => by omega
  have llnB : ∀ k j, ln < w.heap.size + k + j := fun k j => by omega
  go_enter Try.func9, Try.ntmps9
  go_wp2_with fail
  iterate 13 (first | (rw [rounds_succ]; go_wp2_with (first | (go_at_call 16; fail) | (go_at_call 14; go_in) | (go_at_call 31; go_in) | (go_at_call 15; go_in))) | (refine wp_loop_rounds 5 ?_; rw [rounds_succ]; go_wp2_with (first | (go_at_call 16; fail) | (go_at_call 14; go_in) | (go_at_call 31; go_in) | (go_at_call 15; go_in))))
  clear hN hL h0 h1 h1' h2 hln hln' lbn lbl ln0 ln1 ln2 lln lbnA lbnB lblA lblB ln0A ln0B ln1A ln1B ln2A ln2B llnA llnB
  refine (end_calls bn bl n0 n1 n2 ln mx _ (HU.out.below (by repeat (first | with_reducible exact Below.refl _ _ | with_reducible exact HB.out | apply below_alloc | apply pw_below_drewN | apply below_drew1)))).mono ?_
  rintro e w1 ⟨rfl, hb⟩
  have HB : Aside0 (Below w.heap.size w w1) := ⟨below_step (by repeat (first | with_reducible exact Below.refl _ _ | with_reducible exact HB.out | apply below_alloc | apply pw_below_drewN | apply below_drew1)) hb⟩
  have BU : Aside0 (Blk w1 w.heap.size (unitC bn bl) 32) := ⟨blk_below (by (repeat (first | exact heap_alloc_new w _ | refine blk_alloc ?_ _))) hb⟩
  have HU1 := Aside0.mk (HU.out.below HB.out)
  clear hb
  obtain ⟨hN, hL, h0, h1, h1', h2, hln, hln'⟩ := HU1.out.reads
  obtain ⟨lbn, lbl, ln0, ln1, ln2, lln⟩ := HU1.out.lts
  have hbu : ∀ i, w1.cell? ⟨w.heap.size, i, none⟩ = (#[.string ⟨#[]⟩, .slice (some ⟨bn, 0, none⟩) 4 4, .slice (some ⟨bl, 0, none⟩) 1 1, .slice none 0 0, .slice none 0 0, .slice none 0 0, .slice none 0 0, .slice none 0 0, .slice none 0 0, .slice none 0 0] : Array Value)[i]? := fun i => blk_cell BU.out i
  go_wp2_with fail
  clear hN hL h0 h1 h1' h2 hln hln' lbn lbl ln0 ln1 ln2 lln hbu
  refine (reached_calls bn bl n0 n1 n2 ln mx _ HU1.out).mono ?_
  rintro e w2 ⟨B, rfl, _, hR, hb⟩
  replace HB := Aside0.mk (below_step HB.out hb)
  replace BU := Aside0.mk (blk_below BU.out hb)
  replace HU1 := Aside0.mk (HU1.out.below hb)
  have HR := Aside0.mk hR
  clear hR hb
  obtain ⟨hN, hL, h0, h1, h1', h2, hln, hln'⟩ := HU1.out.reads
  obtain ⟨lbn, lbl, ln0, ln1, ln2, lln⟩ := HU1.out.lts
  have hbu : ∀ i, w2.cell? ⟨w.heap.size, i, none⟩ = (#[.string ⟨#[]⟩, .slice (some ⟨bn, 0, none⟩) 4 4, .slice (some ⟨bl, 0, none⟩) 1 1, .slice none 0 0, .slice none 0 0, .slice none 0 0, .slice none 0 0, .slice none 0 0, .slice none 0 0, .slice none 0 0] : Array Value)[i]? := fun i => blk_cell BU.out i
  go_wp2_with fail
  refine wp_loop_rounds 5 ?_
  rw [rounds_succ]
  go_wp2_with fail
  clear hN hL h0 h1 h1' h2 hln hln' lbn lbl ln0 ln1 ln2 lln hbu
  refine (loop1_calls bn bl n0 n1 n2 ln mx _ HU1.out B HR.out hm0 hm1).mono ?_
  rintro e w3 ⟨rfl, hb⟩
  replace HB := Aside0.mk (below_step HB.out hb)
  replace BU := Aside0.mk (blk_below BU.out hb)
  replace HU1 := Aside0.mk (HU1.out.below hb)
  replace HR := Aside0.mk (blk_below HR.out hb)
  clear hb
  obtain ⟨hN, hL, h0, h1, h1', h2, hln, hln'⟩ := HU1.out.reads
  obtain ⟨lbn, lbl, ln0, ln1, ln2, lln⟩ := HU1.out.lts
  have hbu : ∀ i, w3.cell? ⟨w.heap.size, i, none⟩ = (#[.string ⟨#[]⟩, .slice (some ⟨bn, 0, none⟩) 4 4, .slice (some ⟨bl, 0, none⟩) 1 1, .slice none 0 0, .slice none 0 0, .slice none 0 0, .slice none 0 0, .slice none 0 0, .slice none 0 0, .slice none 0 0] : Array Value)[i]? := fun i => blk_cell BU.out i
  go_wp2_with fail
  rw [rounds_succ]
  go_wp2_with fail
  clear hN hL h0 h1 h1' h2 hln hln' lbn lbl ln0 ln1 ln2 lln hbu
  refine (nested_calls bn bl n0 n1 n2 ln mx _ HU1.out).mono ?_
  rintro e w4 ⟨rfl, hb⟩
  replace HB := Aside0.mk (below_step HB.out hb)
  replace BU := Aside0.mk (blk_below BU.out hb)
  replace HU1 := Aside0.mk (HU1.out.below hb)
  replace HR := Aside0.mk (blk_below HR.out hb)
  clear hb
  obtain ⟨hN, hL, h0, h1, h1', h2, hln, hln'⟩ := HU1.out.reads
  obtain ⟨lbn, lbl, ln0, ln1, ln2, lln⟩ := HU1.out.lts
  have hbu : ∀ i, w4.cell? ⟨w.heap.size, i, none⟩ = (#[.string ⟨#[]⟩, .slice (some ⟨bn, 0, none⟩) 4 4, .slice (some ⟨bl, 0, none⟩) 1 1, .slice none 0 0, .slice none 0 0, .slice none 0 0, .slice none 0 0, .slice none 0 0, .slice none 0 0, .slice none 0 0] : Array Value)[i]? := fun i => blk_cell BU.out i
  go_wp2_with fail
  clear hN hL h0 h1 h1' h2 hln hln' lbn lbl ln0 ln1 ln2 lln hbu
  refine (forward_calls bn bl n0 n1 n2 ln mx _ HU1.out B HR.out).mono ?_
  rintro e w5 ⟨rfl, hb⟩
  replace HB := Aside0.mk (below_step HB.out hb)
  clear hb
  go_wp2_with fail
  go_ret
  exact ⟨rfl, HB.out⟩
end Go.Proofs.Ytbeochkimihglaa.PHl
