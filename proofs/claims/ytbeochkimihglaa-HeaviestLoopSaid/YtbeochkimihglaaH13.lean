/- heaviest.weigh over the unit. -/
import Derived.Test.YtbeochkimihglaaH12
import Derived.Outline
namespace Go.Proofs.Ytbeochkimihglaa.PHl
open Go.RowKit Go.Proofs.YtbeochkimihglaaW.PrintWords Go.Proofs.YtbeochkimihglaaW.PrintLast Go.Proofs.YtbeochkimihglaaW.PrintMore
set_option linter.unusedVariables false
set_option linter.unusedSimpArgs false
abbrev SV (bn bl be kt pp : Nat) : Value := .agg #[.string ⟨#[]⟩, .slice (some ⟨bn, 0, none⟩) 4 4, .slice (some ⟨bl, 0, none⟩) 1 1, .slice none 0 0, .slice none 0 0, .slice none 0 0, .slice none 0 0, .slice none 0 0, .slice none 0 0, .slice none 0 0, .slice (some ⟨be, 0, none⟩) 4 4, .slice (some ⟨kt, 0, none⟩) 1 1, .slice (some ⟨pp, 0, none⟩) 1 1]
set_option maxHeartbeats 8000000 in
set_option maxRecDepth 100000 in
theorem weigh_00 (bn bl n0 n1 n2 ln : Nat) (mx : Int) (w : World) (hU : UnitW w bn bl n0 n1 n2 ln mx) (be k0 k1 k2 k3 kt : Nat) (cb ch cl cd ce ct : Int) (hC : CostW w be k0 k1 k2 k3 kt cb ch cl cd ce ct) (hlow : Low cb ch cl cd ce ct mx) (pp : Nat) (p : Int) (hP : Blk w pp #[.int .i64 p] 3) (gp : 0 ≤ p) (gp' : p ≤ 510) :
    Calls Try.prog 30 #[SV bn bl be kt pp, .int .i64 0, .int .i64 0] w fun e w' => e = .returned (.int .i64 (cb + (ct + mx * p))) ∧ Below w.heap.size w w' := by
  have hu32 := Try.underlying32
  have hu34 := Try.underlying34
  have hu38 := Try.underlying38
  have hu46 := Try.underlying46
  have hu80 := Try.underlying80
  have BP := Aside0.mk hP
  clear hP
  obtain ⟨⟨gcb, gcb'⟩, ⟨gch, gch'⟩, ⟨gcl, gcl'⟩, ⟨gcd, gcd'⟩, ⟨gce, gce'⟩, ⟨gct, gct'⟩, gmx, gmx'⟩ := hlow
  have hm1 : mx * p ≤ 32 * 510 := Int.mul_le_mul (by omega) (by omega) (by omega) (by omega)
  have hm0 : 0 ≤ mx * p := Int.mul_nonneg (by omega) (by omega)
  have HU := Aside0.mk hU
  have HC := Aside0.mk hC
  have HB : Aside0 (Below w.heap.size w w) := ⟨Below.refl _ _⟩
  clear hU hC
  obtain ⟨hN, hL, h0, h1, h1', h2, hln, hln'⟩ := HU.out.reads
  obtain ⟨lbn, lbl, ln0, ln1, ln2, lln⟩ := HU.out.lts
  have lbnA : ∀ k, bn < w.heap.size + k := fun k => by omega
  have lbnB : ∀ k j, bn < w.heap.size + k + j := fun k j => by omega
  have lblA : ∀ k, bl < w.heap.size + k := fun k => by omega
  have lblB : ∀ k j, bl < w.heap.size + k + j := fun k j => by omega
  have ln0A : ∀ k, n0 < w.heap.size + k := fun k => by omega
  have ln0B : ∀ k j, n0 < w.heap.size + k + j := fun k j => by omega
  have ln1A : ∀ k, n1 < w.heap.size + k := fun k => by omega
  have ln1B : ∀ k j, n1 < w.heap.size + k + j := fun k j => by omega
  have ln2A : ∀ k, n2 < w.heap.size + k := fun k => by omega
  have ln2B : ∀ k j, n2 < w.heap.size + k + j := fun k j => by omega
  have llnA : ∀ k, ln < w.heap.size + k := fun k => by omega
  have llnB : ∀ k j, ln < w.heap.size + k + j := fun k j => by omega
  obtain ⟨hE, q0, q1, q1', q2, q3, qt⟩ := HC.out.reads
  obtain ⟨lbe, lk0, lk1, lk2, lk3, lkt⟩ := HC.out.lts
  have lbeA : ∀ k, be < w.heap.size + k := fun k => by omega
  have lbeB : ∀ k j, be < w.heap.size + k + j := fun k j => by omega
  have lk0A : ∀ k, k0 < w.heap.size + k := fun k => by omega
  have lk0B : ∀ k j, k0 < w.heap.size + k + j := fun k j => by omega
  have lk1A : ∀ k, k1 < w.heap.size + k := fun k => by omega
  have lk1B : ∀ k j, k1 < w.heap.size + k + j := fun k j => by omega
  have lk2A : ∀ k, k2 < w.heap.size + k := fun k => by omega
  have lk2B : ∀ k j, k2 < w.heap.size + k + j := fun k j => by omega
  have lk3A : ∀ k, k3 < w.heap.size + k := fun k => by omega
  have lk3B : ∀ k j, k3 < w.heap.size + k + j := fun k j => by omega
  have lktA : ∀ k, kt < w.heap.size + k := fun k => by omega
  have lktB : ∀ k j, kt < w.heap.size + k + j := fun k j => by omega
  have hBP : ∀ i, w.cell? ⟨pp, i, none⟩ = (#[.int .i64 p] : Array Value)[i]? := fun i => blk_cell BP.out i
  have ltBP := blk_lt BP.out
  have ltBPA : ∀ k, pp < w.heap.size + k := fun k => by omega
  have ltBPB : ∀ k j, pp < w.heap.size + k + j := fun k j => by omega
  go_enter Try.func30, Try.ntmps30
  go_wp2_with fail
  go_region
  go_wp2_with fail
  refine wp_loop_rounds 6 ?_
  rw [rounds_succ]
  go_wp2_with fail
  go_region
  go_wp2_with fail
  rw [rounds_succ]
  go_wp2_with fail
  clear hN hL h0 h1 h1' h2 hln hln' lbn lbl ln0 ln1 ln2 lln lbnA lbnB lblA lblB ln0A ln0B ln1A ln1B ln2A ln2B llnA llnB hE q0 q1 q1' q2 q3 qt lbe lk0 lk1 lk2 lk3 lkt lbeA lbeB lk0A lk0B lk1A lk1B lk2A lk2B lk3A lk3B lktA lktB hBP ltBP ltBPA ltBPB
  refine (back_01 bn bl n0 n1 n2 ln mx _ (HU.out.below (by repeat (first | with_reducible exact Below.refl _ _ | apply below_alloc | apply pw_below_drewN | apply below_drew1)))).mono ?_
  rintro e w1 ⟨rfl, hb⟩
  have HBn : Aside0 (Below w.heap.size w w1) := ⟨below_step (by repeat (first | with_reducible exact Below.refl _ _ | apply below_alloc | apply pw_below_drewN | apply below_drew1)) hb⟩
  have BX : Aside0 (Blk w1 w.heap.size #[.string ⟨#[]⟩, .slice (some ⟨bn, 0, none⟩) 4 4, .slice (some ⟨bl, 0, none⟩) 1 1, .slice none 0 0, .slice none 0 0, .slice none 0 0, .slice none 0 0, .slice none 0 0, .slice none 0 0, .slice none 0 0, .slice (some ⟨be, 0, none⟩) 4 4, .slice (some ⟨kt, 0, none⟩) 1 1, .slice (some ⟨pp, 0, none⟩) 1 1] 80) := ⟨blk_below (by (repeat (first | with_reducible exact heap_alloc_new _ _ | with_reducible exact heap_alloc2_new _ _ _ | with_reducible exact blk_at3 _ _ _ _ | with_reducible exact blk_at4 _ _ _ _ _ | refine blk_alloc ?_ _))) hb⟩
  replace hb := HBn.out
  clear HBn
  replace HB := Aside0.mk (below_step HB.out hb)
  replace HU := Aside0.mk (HU.out.below hb)
  replace HC := Aside0.mk (HC.out.below hb)
  replace BP := Aside0.mk (blk_below BP.out hb)
  clear hb
  obtain ⟨hN, hL, h0, h1, h1', h2, hln, hln'⟩ := HU.out.reads
  obtain ⟨lbn, lbl, ln0, ln1, ln2, lln⟩ := HU.out.lts
  obtain ⟨hE, q0, q1, q1', q2, q3, qt⟩ := HC.out.reads
  obtain ⟨lbe, lk0, lk1, lk2, lk3, lkt⟩ := HC.out.lts
  have hBP : ∀ i, w1.cell? ⟨pp, i, none⟩ = (#[.int .i64 p] : Array Value)[i]? := fun i => blk_cell BP.out i
  have ltBP := blk_lt BP.out
  have hBX : ∀ i, w1.cell? ⟨w.heap.size, i, none⟩ = (#[.string ⟨#[]⟩, .slice (some ⟨bn, 0, none⟩) 4 4, .slice (some ⟨bl, 0, none⟩) 1 1, .slice none 0 0, .slice none 0 0, .slice none 0 0, .slice none 0 0, .slice none 0 0, .slice none 0 0, .slice none 0 0, .slice (some ⟨be, 0, none⟩) 4 4, .slice (some ⟨kt, 0, none⟩) 1 1, .slice (some ⟨pp, 0, none⟩) 1 1] : Array Value)[i]? := fun i => blk_cell BX.out i
  have ltBX := blk_lt BX.out
  go_wp2_with fail
  go_ret
  exact ⟨rfl, HB.out⟩
set_option maxHeartbeats 8000000 in
set_option maxRecDepth 100000 in
theorem weigh_10 (bn bl n0 n1 n2 ln : Nat) (mx : Int) (w : World) (hU : UnitW w bn bl n0 n1 n2 ln mx) (be k0 k1 k2 k3 kt : Nat) (cb ch cl cd ce ct : Int) (hC : CostW w be k0 k1 k2 k3 kt cb ch cl cd ce ct) (hlow : Low cb ch cl cd ce ct mx) (pp : Nat) (p : Int) (hP : Blk w pp #[.int .i64 p] 3) (gp : 0 ≤ p) (gp' : p ≤ 510) :
    Calls Try.prog 30 #[SV bn bl be kt pp, .int .i64 1, .int .i64 0] w fun e w' => e = .returned (.int .i64 (ch)) ∧ Below w.heap.size w w' := by
  have hu32 := Try.underlying32
  have hu34 := Try.underlying34
  have hu38 := Try.underlying38
  have hu46 := Try.underlying46
  have hu80 := Try.underlying80
  have BP := Aside0.mk hP
  clear hP
  obtain ⟨⟨gcb, gcb'⟩, ⟨gch, gch'⟩, ⟨gcl, gcl'⟩, ⟨gcd, gcd'⟩, ⟨gce, gce'⟩, ⟨gct, gct'⟩, gmx, gmx'⟩ := hlow
  have hm1 : mx * p ≤ 32 * 510 := Int.mul_le_mul (by omega) (by omega) (by omega) (by omega)
  have hm0 : 0 ≤ mx * p := Int.mul_nonneg (by omega) (by omega)
  have HU := Aside0.mk hU
  have HC := Aside0.mk hC
  have HB : Aside0 (Below w.heap.size w w) := ⟨Below.refl _ _⟩
  clear hU hC
  obtain ⟨hN, hL, h0, h1, h1', h2, hln, hln'⟩ := HU.out.reads
  obtain ⟨lbn, lbl, ln0, ln1, ln2, lln⟩ := HU.out.lts
  have lbnA : ∀ k, bn < w.heap.size + k := fun k => by omega
  have lbnB : ∀ k j, bn < w.heap.size + k + j := fun k j => by omega
  have lblA : ∀ k, bl < w.heap.size + k := fun k => by omega
  have lblB : ∀ k j, bl < w.heap.size + k + j := fun k j => by omega
  have ln0A : ∀ k, n0 < w.heap.size + k := fun k => by omega
  have ln0B : ∀ k j, n0 < w.heap.size + k + j := fun k j => by omega
  have ln1A : ∀ k, n1 < w.heap.size + k := fun k => by omega
  have ln1B : ∀ k j, n1 < w.heap.size + k + j := fun k j => by omega
  have ln2A : ∀ k, n2 < w.heap.size + k := fun k => by omega
  have ln2B : ∀ k j, n2 < w.heap.size + k + j := fun k j => by omega
  have llnA : ∀ k, ln < w.heap.size + k := fun k => by omega
  have llnB : ∀ k j, ln < w.heap.size + k + j := fun k j => by omega
  obtain ⟨hE, q0, q1, q1', q2, q3, qt⟩ := HC.out.reads
  obtain ⟨lbe, lk0, lk1, lk2, lk3, lkt⟩ := HC.out.lts
  have lbeA : ∀ k, be < w.heap.size + k := fun k => by omega
  have lbeB : ∀ k j, be < w.heap.size + k + j := fun k j => by omega
  have lk0A : ∀ k, k0 < w.heap.size + k := fun k => by omega
  have lk0B : ∀ k j, k0 < w.heap.size + k + j := fun k j => by omega
  have lk1A : ∀ k, k1 < w.heap.size + k := fun k => by omega
  have lk1B : ∀ k j, k1 < w.heap.size + k + j := fun k j => by omega
  have lk2A : ∀ k, k2 < w.heap.size + k := fun k => by omega
  have lk2B : ∀ k j, k2 < w.heap.size + k + j := fun k j => by omega
  have lk3A : ∀ k, k3 < w.heap.size + k := fun k => by omega
  have lk3B : ∀ k j, k3 < w.heap.size + k + j := fun k j => by omega
  have lktA : ∀ k, kt < w.heap.size + k := fun k => by omega
  have lktB : ∀ k j, kt < w.heap.size + k + j := fun k j => by omega
  have hBP : ∀ i, w.cell? ⟨pp, i, none⟩ = (#[.int .i64 p] : Array Value)[i]? := fun i => blk_cell BP.out i
  have ltBP := blk_lt BP.out
  have ltBPA : ∀ k, pp < w.heap.size + k := fun k => by omega
  have ltBPB : ∀ k j, pp < w.heap.size + k + j := fun k j => by omega
  go_enter Try.func30, Try.ntmps30
  go_wp2_with fail
  go_region
  go_wp2_with fail
  refine wp_loop_rounds 6 ?_
  rw [rounds_succ]
  go_wp2_with fail
  rw [rounds_succ]
  go_wp2_with fail
  clear hN hL h0 h1 h1' h2 hln hln' lbn lbl ln0 ln1 ln2 lln lbnA lbnB lblA lblB ln0A ln0B ln1A ln1B ln2A ln2B llnA llnB hE q0 q1 q1' q2 q3 qt lbe lk0 lk1 lk2 lk3 lkt lbeA lbeB lk0A lk0B lk1A lk1B lk2A lk2B lk3A lk3B lktA lktB hBP ltBP ltBPA ltBPB
  refine (back_12 bn bl n0 n1 n2 ln mx _ (HU.out.below (by repeat (first | with_reducible exact Below.refl _ _ | apply below_alloc | apply pw_below_drewN | apply below_drew1)))).mono ?_
  rintro e w1 ⟨rfl, hb⟩
  have HBn : Aside0 (Below w.heap.size w w1) := ⟨below_step (by repeat (first | with_reducible exact Below.refl _ _ | apply below_alloc | apply pw_below_drewN | apply below_drew1)) hb⟩
  have BX : Aside0 (Blk w1 w.heap.size #[.string ⟨#[]⟩, .slice (some ⟨bn, 0, none⟩) 4 4, .slice (some ⟨bl, 0, none⟩) 1 1, .slice none 0 0, .slice none 0 0, .slice none 0 0, .slice none 0 0, .slice none 0 0, .slice none 0 0, .slice none 0 0, .slice (some ⟨be, 0, none⟩) 4 4, .slice (some ⟨kt, 0, none⟩) 1 1, .slice (some ⟨pp, 0, none⟩) 1 1] 80) := ⟨blk_below (by (repeat (first | with_reducible exact heap_alloc_new _ _ | with_reducible exact heap_alloc2_new _ _ _ | with_reducible exact blk_at3 _ _ _ _ | with_reducible exact blk_at4 _ _ _ _ _ | refine blk_alloc ?_ _))) hb⟩
  replace hb := HBn.out
  clear HBn
  replace HB := Aside0.mk (below_step HB.out hb)
  replace HU := Aside0.mk (HU.out.below hb)
  replace HC := Aside0.mk (HC.out.below hb)
  replace BP := Aside0.mk (blk_below BP.out hb)
  clear hb
  obtain ⟨hN, hL, h0, h1, h1', h2, hln, hln'⟩ := HU.out.reads
  obtain ⟨lbn, lbl, ln0, ln1, ln2, lln⟩ := HU.out.lts
  obtain ⟨hE, q0, q1, q1', q2, q3, qt⟩ := HC.out.reads
  obtain ⟨lbe, lk0, lk1, lk2, lk3, lkt⟩ := HC.out.lts
  have hBP : ∀ i, w1.cell? ⟨pp, i, none⟩ = (#[.int .i64 p] : Array Value)[i]? := fun i => blk_cell BP.out i
  have ltBP := blk_lt BP.out
  have hBX : ∀ i, w1.cell? ⟨w.heap.size, i, none⟩ = (#[.string ⟨#[]⟩, .slice (some ⟨bn, 0, none⟩) 4 4, .slice (some ⟨bl, 0, none⟩) 1 1, .slice none 0 0, .slice none 0 0, .slice none 0 0, .slice none 0 0, .slice none 0 0, .slice none 0 0, .slice none 0 0, .slice (some ⟨be, 0, none⟩) 4 4, .slice (some ⟨kt, 0, none⟩) 1 1, .slice (some ⟨pp, 0, none⟩) 1 1] : Array Value)[i]? := fun i => blk_cell BX.out i
  have ltBX := blk_lt BX.out
  go_wp2_with fail
  go_ret
  exact ⟨rfl, HB.out⟩
set_option maxHeartbeats 8000000 in
set_option maxRecDepth 100000 in
theorem weigh_11 (bn bl n0 n1 n2 ln : Nat) (mx : Int) (w : World) (hU : UnitW w bn bl n0 n1 n2 ln mx) (be k0 k1 k2 k3 kt : Nat) (cb ch cl cd ce ct : Int) (hC : CostW w be k0 k1 k2 k3 kt cb ch cl cd ce ct) (hlow : Low cb ch cl cd ce ct mx) (pp : Nat) (p : Int) (hP : Blk w pp #[.int .i64 p] 3) (gp : 0 ≤ p) (gp' : p ≤ 510) :
    Calls Try.prog 30 #[SV bn bl be kt pp, .int .i64 1, .int .i64 1] w fun e w' => e = .returned (.int .i64 (cl)) ∧ Below w.heap.size w w' := by
  have hu32 := Try.underlying32
  have hu34 := Try.underlying34
  have hu38 := Try.underlying38
  have hu46 := Try.underlying46
  have hu80 := Try.underlying80
  have BP := Aside0.mk hP
  clear hP
  obtain ⟨⟨gcb, gcb'⟩, ⟨gch, gch'⟩, ⟨gcl, gcl'⟩, ⟨gcd, gcd'⟩, ⟨gce, gce'⟩, ⟨gct, gct'⟩, gmx, gmx'⟩ := hlow
  have hm1 : mx * p ≤ 32 * 510 := Int.mul_le_mul (by omega) (by omega) (by omega) (by omega)
  have hm0 : 0 ≤ mx * p := Int.mul_nonneg (by omega) (by omega)
  have HU := Aside0.mk hU
  have HC := Aside0.mk hC
  have HB : Aside0 (Below w.heap.size w w) := ⟨Below.refl _ _⟩
  clear hU hC
  obtain ⟨hN, hL, h0, h1, h1', h2, hln, hln'⟩ := HU.out.reads
  obtain ⟨lbn, lbl, ln0, ln1, ln2, lln⟩ := HU.out.lts
  have lbnA : ∀ k, bn < w.heap.size + k := fun k => by omega
  have lbnB : ∀ k j, bn < w.heap.size + k + j := fun k j => by omega
  have lblA : ∀ k, bl < w.heap.size + k := fun k => by omega
  have lblB : ∀ k j, bl < w.heap.size + k + j := fun k j => by omega
  have ln0A : ∀ k, n0 < w.heap.size + k := fun k => by omega
  have ln0B : ∀ k j, n0 < w.heap.size + k + j := fun k j => by omega
  have ln1A : ∀ k, n1 < w.heap.size + k := fun k => by omega
  have ln1B : ∀ k j, n1 < w.heap.size + k + j := fun k j => by omega
  have ln2A : ∀ k, n2 < w.heap.size + k := fun k => by omega
  have ln2B : ∀ k j, n2 < w.heap.size + k + j := fun k j => by omega
  have llnA : ∀ k, ln < w.heap.size + k := fun k => by omega
  have llnB : ∀ k j, ln < w.heap.size + k + j := fun k j => by omega
  obtain ⟨hE, q0, q1, q1', q2, q3, qt⟩ := HC.out.reads
  obtain ⟨lbe, lk0, lk1, lk2, lk3, lkt⟩ := HC.out.lts
  have lbeA : ∀ k, be < w.heap.size + k := fun k => by omega
  have lbeB : ∀ k j, be < w.heap.size + k + j := fun k j => by omega
  have lk0A : ∀ k, k0 < w.heap.size + k := fun k => by omega
  have lk0B : ∀ k j, k0 < w.heap.size + k + j := fun k j => by omega
  have lk1A : ∀ k, k1 < w.heap.size + k := fun k => by omega
  have lk1B : ∀ k j, k1 < w.heap.size + k + j := fun k j => by omega
  have lk2A : ∀ k, k2 < w.heap.size + k := fun k => by omega
  have lk2B : ∀ k j, k2 < w.heap.size + k + j := fun k j => by omega
  have lk3A : ∀ k, k3 < w.heap.size + k := fun k => by omega
  have lk3B : ∀ k j, k3 < w.heap.size + k + j := fun k j => by omega
  have lktA : ∀ k, kt < w.heap.size + k := fun k => by omega
  have lktB : ∀ k j, kt < w.heap.size + k + j := fun k j => by omega
  have hBP : ∀ i, w.cell? ⟨pp, i, none⟩ = (#[.int .i64 p] : Array Value)[i]? := fun i => blk_cell BP.out i
  have ltBP := blk_lt BP.out
  have ltBPA : ∀ k, pp < w.heap.size + k := fun k => by omega
  have ltBPB : ∀ k j, pp < w.heap.size + k + j := fun k j => by omega
  go_enter Try.func30, Try.ntmps30
  go_wp2_with fail
  go_region
  go_wp2_with fail
  refine wp_loop_rounds 6 ?_
  rw [rounds_succ]
  go_wp2_with fail
  rw [rounds_succ]
  go_wp2_with fail
  clear hN hL h0 h1 h1' h2 hln hln' lbn lbl ln0 ln1 ln2 lln lbnA lbnB lblA lblB ln0A ln0B ln1A ln1B ln2A ln2B llnA llnB hE q0 q1 q1' q2 q3 qt lbe lk0 lk1 lk2 lk3 lkt lbeA lbeB lk0A lk0B lk1A lk1B lk2A lk2B lk3A lk3B lktA lktB hBP ltBP ltBPA ltBPB
  refine (back_13 bn bl n0 n1 n2 ln mx _ (HU.out.below (by repeat (first | with_reducible exact Below.refl _ _ | apply below_alloc | apply pw_below_drewN | apply below_drew1)))).mono ?_
  rintro e w1 ⟨rfl, hb⟩
  have HBn : Aside0 (Below w.heap.size w w1) := ⟨below_step (by repeat (first | with_reducible exact Below.refl _ _ | apply below_alloc | apply pw_below_drewN | apply below_drew1)) hb⟩
  have BX : Aside0 (Blk w1 w.heap.size #[.string ⟨#[]⟩, .slice (some ⟨bn, 0, none⟩) 4 4, .slice (some ⟨bl, 0, none⟩) 1 1, .slice none 0 0, .slice none 0 0, .slice none 0 0, .slice none 0 0, .slice none 0 0, .slice none 0 0, .slice none 0 0, .slice (some ⟨be, 0, none⟩) 4 4, .slice (some ⟨kt, 0, none⟩) 1 1, .slice (some ⟨pp, 0, none⟩) 1 1] 80) := ⟨blk_below (by (repeat (first | with_reducible exact heap_alloc_new _ _ | with_reducible exact heap_alloc2_new _ _ _ | with_reducible exact blk_at3 _ _ _ _ | with_reducible exact blk_at4 _ _ _ _ _ | refine blk_alloc ?_ _))) hb⟩
  replace hb := HBn.out
  clear HBn
  replace HB := Aside0.mk (below_step HB.out hb)
  replace HU := Aside0.mk (HU.out.below hb)
  replace HC := Aside0.mk (HC.out.below hb)
  replace BP := Aside0.mk (blk_below BP.out hb)
  clear hb
  obtain ⟨hN, hL, h0, h1, h1', h2, hln, hln'⟩ := HU.out.reads
  obtain ⟨lbn, lbl, ln0, ln1, ln2, lln⟩ := HU.out.lts
  obtain ⟨hE, q0, q1, q1', q2, q3, qt⟩ := HC.out.reads
  obtain ⟨lbe, lk0, lk1, lk2, lk3, lkt⟩ := HC.out.lts
  have hBP : ∀ i, w1.cell? ⟨pp, i, none⟩ = (#[.int .i64 p] : Array Value)[i]? := fun i => blk_cell BP.out i
  have ltBP := blk_lt BP.out
  have hBX : ∀ i, w1.cell? ⟨w.heap.size, i, none⟩ = (#[.string ⟨#[]⟩, .slice (some ⟨bn, 0, none⟩) 4 4, .slice (some ⟨bl, 0, none⟩) 1 1, .slice none 0 0, .slice none 0 0, .slice none 0 0, .slice none 0 0, .slice none 0 0, .slice none 0 0, .slice none 0 0, .slice (some ⟨be, 0, none⟩) 4 4, .slice (some ⟨kt, 0, none⟩) 1 1, .slice (some ⟨pp, 0, none⟩) 1 1] : Array Value)[i]? := fun i => blk_cell BX.out i
  have ltBX := blk_lt BX.out
  go_wp2_with fail
  go_ret
  exact ⟨rfl, HB.out⟩
set_option maxHeartbeats 8000000 in
set_option maxRecDepth 100000 in
theorem weigh_20 (bn bl n0 n1 n2 ln : Nat) (mx : Int) (w : World) (hU : UnitW w bn bl n0 n1 n2 ln mx) (be k0 k1 k2 k3 kt : Nat) (cb ch cl cd ce ct : Int) (hC : CostW w be k0 k1 k2 k3 kt cb ch cl cd ce ct) (hlow : Low cb ch cl cd ce ct mx) (pp : Nat) (p : Int) (hP : Blk w pp #[.int .i64 p] 3) (gp : 0 ≤ p) (gp' : p ≤ 510) :
    Calls Try.prog 30 #[SV bn bl be kt pp, .int .i64 2, .int .i64 0] w fun e w' => e = .returned (.int .i64 (cd - p)) ∧ Below w.heap.size w w' := by
  have hu32 := Try.underlying32
  have hu34 := Try.underlying34
  have hu38 := Try.underlying38
  have hu46 := Try.underlying46
  have hu80 := Try.underlying80
  have BP := Aside0.mk hP
  clear hP
  obtain ⟨⟨gcb, gcb'⟩, ⟨gch, gch'⟩, ⟨gcl, gcl'⟩, ⟨gcd, gcd'⟩, ⟨gce, gce'⟩, ⟨gct, gct'⟩, gmx, gmx'⟩ := hlow
  have hm1 : mx * p ≤ 32 * 510 := Int.mul_le_mul (by omega) (by omega) (by omega) (by omega)
  have hm0 : 0 ≤ mx * p := Int.mul_nonneg (by omega) (by omega)
  have HU := Aside0.mk hU
  have HC := Aside0.mk hC
  have HB : Aside0 (Below w.heap.size w w) := ⟨Below.refl _ _⟩
  clear hU hC
  obtain ⟨hN, hL, h0, h1, h1', h2, hln, hln'⟩ := HU.out.reads
  obtain ⟨lbn, lbl, ln0, ln1, ln2, lln⟩ := HU.out.lts
  have lbnA : ∀ k, bn < w.heap.size + k := fun k => by omega
  have lbnB : ∀ k j, bn < w.heap.size + k + j := fun k j => by omega
  have lblA : ∀ k, bl < w.heap.size + k := fun k => by omega
  have lblB : ∀ k j, bl < w.heap.size + k + j := fun k j => by omega
  have ln0A : ∀ k, n0 < w.heap.size + k := fun k => by omega
  have ln0B : ∀ k j, n0 < w.heap.size + k + j := fun k j => by omega
  have ln1A : ∀ k, n1 < w.heap.size + k := fun k => by omega
  have ln1B : ∀ k j, n1 < w.heap.size + k + j := fun k j => by omega
  have ln2A : ∀ k, n2 < w.heap.size + k := fun k => by omega
  have ln2B : ∀ k j, n2 < w.heap.size + k + j := fun k j => by omega
  have llnA : ∀ k, ln < w.heap.size + k := fun k => by omega
  have llnB : ∀ k j, ln < w.heap.size + k + j := fun k j => by omega
  obtain ⟨hE, q0, q1, q1', q2, q3, qt⟩ := HC.out.reads
  obtain ⟨lbe, lk0, lk1, lk2, lk3, lkt⟩ := HC.out.lts
  have lbeA : ∀ k, be < w.heap.size + k := fun k => by omega
  have lbeB : ∀ k j, be < w.heap.size + k + j := fun k j => by omega
  have lk0A : ∀ k, k0 < w.heap.size + k := fun k => by omega
  have lk0B : ∀ k j, k0 < w.heap.size + k + j := fun k j => by omega
  have lk1A : ∀ k, k1 < w.heap.size + k := fun k => by omega
  have lk1B : ∀ k j, k1 < w.heap.size + k + j := fun k j => by omega
  have lk2A : ∀ k, k2 < w.heap.size + k := fun k => by omega
  have lk2B : ∀ k j, k2 < w.heap.size + k + j := fun k j => by omega
  have lk3A : ∀ k, k3 < w.heap.size + k := fun k => by omega
  have lk3B : ∀ k j, k3 < w.heap.size + k + j := fun k j => by omega
  have lktA : ∀ k, kt < w.heap.size + k := fun k => by omega
  have lktB : ∀ k j, kt < w.heap.size + k + j := fun k j => by omega
  have hBP : ∀ i, w.cell? ⟨pp, i, none⟩ = (#[.int .i64 p] : Array Value)[i]? := fun i => blk_cell BP.out i
  have ltBP := blk_lt BP.out
  have ltBPA : ∀ k, pp < w.heap.size + k := fun k => by omega
  have ltBPB : ∀ k j, pp < w.heap.size + k + j := fun k j => by omega
  go_enter Try.func30, Try.ntmps30
  go_wp2_with fail
  go_region
  go_wp2_with fail
  refine wp_loop_rounds 6 ?_
  rw [rounds_succ]
  go_wp2_with fail
  rw [rounds_succ]
  go_wp2_with fail
  clear hN hL h0 h1 h1' h2 hln hln' lbn lbl ln0 ln1 ln2 lln lbnA lbnB lblA lblB ln0A ln0B ln1A ln1B ln2A ln2B llnA llnB hE q0 q1 q1' q2 q3 qt lbe lk0 lk1 lk2 lk3 lkt lbeA lbeB lk0A lk0B lk1A lk1B lk2A lk2B lk3A lk3B lktA lktB hBP ltBP ltBPA ltBPB
  refine (back_21 bn bl n0 n1 n2 ln mx _ (HU.out.below (by repeat (first | with_reducible exact Below.refl _ _ | apply below_alloc | apply pw_below_drewN | apply below_drew1)))).mono ?_
  rintro e w1 ⟨rfl, hb⟩
  have HBn : Aside0 (Below w.heap.size w w1) := ⟨below_step (by repeat (first | with_reducible exact Below.refl _ _ | apply below_alloc | apply pw_below_drewN | apply below_drew1)) hb⟩
  have BX : Aside0 (Blk w1 w.heap.size #[.string ⟨#[]⟩, .slice (some ⟨bn, 0, none⟩) 4 4, .slice (some ⟨bl, 0, none⟩) 1 1, .slice none 0 0, .slice none 0 0, .slice none 0 0, .slice none 0 0, .slice none 0 0, .slice none 0 0, .slice none 0 0, .slice (some ⟨be, 0, none⟩) 4 4, .slice (some ⟨kt, 0, none⟩) 1 1, .slice (some ⟨pp, 0, none⟩) 1 1] 80) := ⟨blk_below (by (repeat (first | with_reducible exact heap_alloc_new _ _ | with_reducible exact heap_alloc2_new _ _ _ | with_reducible exact blk_at3 _ _ _ _ | with_reducible exact blk_at4 _ _ _ _ _ | refine blk_alloc ?_ _))) hb⟩
  replace hb := HBn.out
  clear HBn
  replace HB := Aside0.mk (below_step HB.out hb)
  replace HU := Aside0.mk (HU.out.below hb)
  replace HC := Aside0.mk (HC.out.below hb)
  replace BP := Aside0.mk (blk_below BP.out hb)
  clear hb
  obtain ⟨hN, hL, h0, h1, h1', h2, hln, hln'⟩ := HU.out.reads
  obtain ⟨lbn, lbl, ln0, ln1, ln2, lln⟩ := HU.out.lts
  obtain ⟨hE, q0, q1, q1', q2, q3, qt⟩ := HC.out.reads
  obtain ⟨lbe, lk0, lk1, lk2, lk3, lkt⟩ := HC.out.lts
  have hBP : ∀ i, w1.cell? ⟨pp, i, none⟩ = (#[.int .i64 p] : Array Value)[i]? := fun i => blk_cell BP.out i
  have ltBP := blk_lt BP.out
  have hBX : ∀ i, w1.cell? ⟨w.heap.size, i, none⟩ = (#[.string ⟨#[]⟩, .slice (some ⟨bn, 0, none⟩) 4 4, .slice (some ⟨bl, 0, none⟩) 1 1, .slice none 0 0, .slice none 0 0, .slice none 0 0, .slice none 0 0, .slice none 0 0, .slice none 0 0, .slice none 0 0, .slice (some ⟨be, 0, none⟩) 4 4, .slice (some ⟨kt, 0, none⟩) 1 1, .slice (some ⟨pp, 0, none⟩) 1 1] : Array Value)[i]? := fun i => blk_cell BX.out i
  have ltBX := blk_lt BX.out
  go_wp2_with fail
  go_ret
  exact ⟨rfl, HB.out⟩
end Go.Proofs.Ytbeochkimihglaa.PHl
