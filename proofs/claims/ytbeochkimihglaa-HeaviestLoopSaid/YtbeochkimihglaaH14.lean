/- heaviest.Edges over the unit. -/
import Derived.Test.YtbeochkimihglaaH13
import Derived.Outline
namespace Go.Proofs.Ytbeochkimihglaa.PHl
open Go.RowKit Go.Proofs.YtbeochkimihglaaW.PrintWords Go.Proofs.YtbeochkimihglaaW.PrintLast Go.Proofs.YtbeochkimihglaaW.PrintMore
set_option linter.unusedVariables false
set_option linter.unusedSimpArgs false
theorem info74 : (Try.prog.info? 74).map (fun i => (i.zero, i.size, i.bytes)) = some (some (.agg #[.int .i64 0, .int .i64 0, .int .i64 0, .int .i64 0]), 4, 32) := by kernel_rfl
theorem oneE (a b c d : Int) : ∀ u ∈ ([.int .i64 a, .int .i64 b, .int .i64 c, .int .i64 d] : List Value), u.oneCell' = true := by
  intro u hu
  simp at hu
  rcases hu with rfl | rfl | rfl | rfl <;> rfl
abbrev EL (cb ch cl cd ct mx p : Int) : List Value := [.int .i64 0, .int .i64 0, .int .i64 1, .int .i64 (cb + (ct + mx * p)), .int .i64 1, .int .i64 0, .int .i64 2, .int .i64 (ch), .int .i64 1, .int .i64 1, .int .i64 3, .int .i64 (cl), .int .i64 2, .int .i64 0, .int .i64 1, .int .i64 (cd - p)]
set_option maxHeartbeats 8000000 in
set_option maxRecDepth 100000 in
theorem each_calls (bn bl n0 n1 n2 ln : Nat) (mx : Int) (w : World) (hU : UnitW w bn bl n0 n1 n2 ln mx) (be k0 k1 k2 k3 kt : Nat) (cb ch cl cd ce ct : Int) (hC : CostW w be k0 k1 k2 k3 kt cb ch cl cd ce ct) (hlow : Low cb ch cl cd ce ct mx) (pp : Nat) (p : Int) (hP : Blk w pp #[.int .i64 p] 3) (gp : 0 ≤ p) (gp' : p ≤ 510) :
    Calls Try.prog 29 #[UV bn bl, .func (.func 30) #[SV bn bl be kt pp] #[]] w fun e w' => ∃ g c, e = .returned (.slice (some ⟨g, 0, none⟩) 4 c) ∧ w'.ownsRow w.heap.size 74 4 (.slice (some ⟨g, 0, none⟩) 4 c) 4 (EL cb ch cl cd ct mx p) ∧ Below w.heap.size w w' := by
  have hu32 := Try.underlying32
  have hu46 := Try.underlying46
  have hu74 := Try.underlying74
  have HLOW := Aside0.mk hlow
  have BP := Aside0.mk hP
  have GP := Aside0.mk gp
  have GP' := Aside0.mk gp'
  clear hP hlow gp gp'
  have HU := Aside0.mk hU
  have HC := Aside0.mk hC
  have HB : Aside0 (Below w.heap.size w w) := ⟨Below.refl _ _⟩
  clear hU hC
  obtain ⟨hN, hL, h0, h1, h1', h2, hln, hln'⟩ := HU.out.reads
  obtain ⟨lbn, lbl, ln0, ln1, ln2, lln⟩ := HU.out.lts
  have lbnA : ∀ k, bn < w.heap.size + k := fun k => by omega
  have lbnB : ∀ k j, bn < w.heap.size + k + j := fun k j => by omega
  have lblA : ∀ k, bl < w.heap.size + k := fun k => by omega
  have lblB : ∀ k j, bl < w.heap.size + k + j := fun k j => by omega
  have ln0A : ∀ k, n0 < w.heap.size + k := fun k => by omega
  have ln0B : ∀ k j, n0 < w.heap.size + k + j := fun k j => by omega
  have ln1A : ∀ k, n1 < w.heap.size + k := fun k => by omega
  have ln1B : ∀ k j, n1 < w.heap.size + k + j := fun k j => by omega
  have ln2A : ∀ k, n2 < w.heap.size + k := fun k => by omega
  have ln2B : ∀ k j, n2 < w.heap.size + k + j := fun k j => by omega
  have llnA : ∀ k, ln < w.heap.size + k := fun k => by omega
  have llnB : ∀ k j, ln < w.heap.size + k + j := fun k j => by omega
  obtain ⟨hE, q0, q1, q1', q2, q3, qt⟩ := HC.out.reads
  obtain ⟨lbe, lk0, lk1, lk2, lk3, lkt⟩ := HC.out.lts
  have lbeA : ∀ k, be < w.heap.size + k := fun k => by omega
  have lbeB : ∀ k j, be < w.heap.size + k + j := fun k j => by omega
  have lk0A : ∀ k, k0 < w.heap.size + k := fun k => by omega
  have lk0B : ∀ k j, k0 < w.heap.size + k + j := fun k j => by omega
  have lk1A : ∀ k, k1 < w.heap.size + k := fun k => by omega
  have lk1B : ∀ k j, k1 < w.heap.size + k + j := fun k j => by omega
  have lk2A : ∀ k, k2 < w.heap.size + k := fun k => by omega
  have lk2B : ∀ k j, k2 < w.heap.size + k + j := fun k j => by omega
  have lk3A : ∀ k, k3 < w.heap.size + k := fun k => by omega
  have lk3B : ∀ k j, k3 < w.heap.size + k + j := fun k j => by omega
  have lktA : ∀ k, kt < w.heap.size + k := fun k => by omega
  have lktB : ∀ k j, kt < w.heap.size + k + j := fun k j => by omega
  have hBP : ∀ i, w.cell? ⟨pp, i, none⟩ = (#[.int .i64 p] : Array Value)[i]? := fun i => blk_cell BP.out i
  have ltBP := blk_lt BP.out
  have ltBPA : ∀ k, pp < w.heap.size + k := fun k => by omega
  have ltBPB : ∀ k j, pp < w.heap.size + k + j := fun k j => by omega
  go_enter Try.func29, Try.ntmps29
  go_upto_region 2 with (fail)
  clear hN hL h0 h1 h1' h2 hln hln' lbn lbl ln0 ln1 ln2 lln lbnA lbnB lblA lblB ln0A ln0B ln1A ln1B ln2A ln2B llnA llnB hE q0 q1 q1' q2 q3 qt lbe lk0 lk1 lk2 lk3 lkt lbeA lbeB lk0A lk0B lk1A lk1B lk2A lk2B lk3A lk3B lktA lktB hBP ltBP ltBPA ltBPB
  have hb : Below w.heap.size w (w.alloc (.cells #[.string ⟨#[]⟩, .slice (some ⟨bn, 0, none⟩) 4 4, .slice (some ⟨bl, 0, none⟩) 1 1, .slice none 0 0, .slice none 0 0, .slice none 0 0, .slice none 0 0, .slice none 0 0, .slice none 0 0, .slice none 0 0] 32)) := (by repeat (first | with_reducible exact Below.refl _ _ | apply below_alloc | apply pw_below_drewN | apply below_drew1))
  have BU : Aside0 (Blk (w.alloc (.cells #[.string ⟨#[]⟩, .slice (some ⟨bn, 0, none⟩) 4 4, .slice (some ⟨bl, 0, none⟩) 1 1, .slice none 0 0, .slice none 0 0, .slice none 0 0, .slice none 0 0, .slice none 0 0, .slice none 0 0, .slice none 0 0] 32)) w.heap.size #[.string ⟨#[]⟩, .slice (some ⟨bn, 0, none⟩) 4 4, .slice (some ⟨bl, 0, none⟩) 1 1, .slice none 0 0, .slice none 0 0, .slice none 0 0, .slice none 0 0, .slice none 0 0, .slice none 0 0, .slice none 0 0] 32) := ⟨(by (repeat (first | with_reducible exact heap_alloc_new _ _ | with_reducible exact heap_alloc2_new _ _ _ | with_reducible exact blk_at3 _ _ _ _ | with_reducible exact blk_at4 _ _ _ _ _ | refine blk_alloc ?_ _)))⟩
  replace HB := Aside0.mk (below_step HB.out hb)
  replace HU := Aside0.mk (HU.out.below hb)
  replace HC := Aside0.mk (HC.out.below hb)
  replace BP := Aside0.mk (blk_below BP.out hb)
  clear hb
  generalize (w.alloc (.cells #[.string ⟨#[]⟩, .slice (some ⟨bn, 0, none⟩) 4 4, .slice (some ⟨bl, 0, none⟩) 1 1, .slice none 0 0, .slice none 0 0, .slice none 0 0, .slice none 0 0, .slice none 0 0, .slice none 0 0, .slice none 0 0] 32)) = Wa at HU HC HB BP BU ⊢
  have HB2 : Aside0 (Below Wa.heap.size Wa Wa) := ⟨Below.refl _ _⟩
  have HU0 := HU
  have HC0 := HC
  have BP0 := BP
  have BU0 := BU
  have HE : Aside0 (Wa.ownsRow Wa.heap.size 74 4 (.slice none 0 0) 0 []) := ⟨own_nil _ _ _ _⟩
  obtain ⟨hN, hL, h0, h1, h1', h2, hln, hln'⟩ := HU.out.reads
  obtain ⟨lbn, lbl, ln0, ln1, ln2, lln⟩ := HU.out.lts
  have lbnA : ∀ k, bn < Wa.heap.size + k := fun k => by omega
  have lbnB : ∀ k j, bn < Wa.heap.size + k + j := fun k j => by omega
  have lblA : ∀ k, bl < Wa.heap.size + k := fun k => by omega
  have lblB : ∀ k j, bl < Wa.heap.size + k + j := fun k j => by omega
  have ln0A : ∀ k, n0 < Wa.heap.size + k := fun k => by omega
  have ln0B : ∀ k j, n0 < Wa.heap.size + k + j := fun k j => by omega
  have ln1A : ∀ k, n1 < Wa.heap.size + k := fun k => by omega
  have ln1B : ∀ k j, n1 < Wa.heap.size + k + j := fun k j => by omega
  have ln2A : ∀ k, n2 < Wa.heap.size + k := fun k => by omega
  have ln2B : ∀ k j, n2 < Wa.heap.size + k + j := fun k j => by omega
  have llnA : ∀ k, ln < Wa.heap.size + k := fun k => by omega
  have llnB : ∀ k j, ln < Wa.heap.size + k + j := fun k j => by omega
  obtain ⟨hE, q0, q1, q1', q2, q3, qt⟩ := HC.out.reads
  obtain ⟨lbe, lk0, lk1, lk2, lk3, lkt⟩ := HC.out.lts
  have lbeA : ∀ k, be < Wa.heap.size + k := fun k => by omega
  have lbeB : ∀ k j, be < Wa.heap.size + k + j := fun k j => by omega
  have lk0A : ∀ k, k0 < Wa.heap.size + k := fun k => by omega
  have lk0B : ∀ k j, k0 < Wa.heap.size + k + j := fun k j => by omega
  have lk1A : ∀ k, k1 < Wa.heap.size + k := fun k => by omega
  have lk1B : ∀ k j, k1 < Wa.heap.size + k + j := fun k j => by omega
  have lk2A : ∀ k, k2 < Wa.heap.size + k := fun k => by omega
  have lk2B : ∀ k j, k2 < Wa.heap.size + k + j := fun k j => by omega
  have lk3A : ∀ k, k3 < Wa.heap.size + k := fun k => by omega
  have lk3B : ∀ k j, k3 < Wa.heap.size + k + j := fun k j => by omega
  have lktA : ∀ k, kt < Wa.heap.size + k := fun k => by omega
  have lktB : ∀ k j, kt < Wa.heap.size + k + j := fun k j => by omega
  have hBP : ∀ i, Wa.cell? ⟨pp, i, none⟩ = (#[.int .i64 p] : Array Value)[i]? := fun i => blk_cell BP.out i
  have ltBP := blk_lt BP.out
  have ltBPA : ∀ k, pp < Wa.heap.size + k := fun k => by omega
  have ltBPB : ∀ k j, pp < Wa.heap.size + k + j := fun k j => by omega
  have hBU : ∀ i, Wa.cell? ⟨w.heap.size, i, none⟩ = (#[.string ⟨#[]⟩, .slice (some ⟨bn, 0, none⟩) 4 4, .slice (some ⟨bl, 0, none⟩) 1 1, .slice none 0 0, .slice none 0 0, .slice none 0 0, .slice none 0 0, .slice none 0 0, .slice none 0 0, .slice none 0 0] : Array Value)[i]? := fun i => blk_cell BU.out i
  have ltBU := blk_lt BU.out
  have ltBUA : ∀ k, w.heap.size < Wa.heap.size + k := fun k => by omega
  have ltBUB : ∀ k j, w.heap.size < Wa.heap.size + k + j := fun k j => by omega
  go_wp2_with fail
  refine wp_loop_rounds 6 ?_
  rw [rounds_succ]
  go_wp2_with fail
  refine wp_loop_rounds 6 ?_
  rw [rounds_succ]
  go_wp2_with fail
  clear hN hL h0 h1 h1' h2 hln hln' lbn lbl ln0 ln1 ln2 lln lbnA lbnB lblA lblB ln0A ln0B ln1A ln1B ln2A ln2B llnA llnB hE q0 q1 q1' q2 q3 qt lbe lk0 lk1 lk2 lk3 lkt lbeA lbeB lk0A lk0B lk1A lk1B lk2A lk2B lk3A lk3B lktA lktB hBP ltBP ltBPA ltBPB hBU ltBU ltBUA ltBUB
  refine (weigh_00 bn bl n0 n1 n2 ln mx _ (HU.out.below (by repeat (first | with_reducible exact Below.refl _ _ | apply below_alloc | apply pw_below_drewN | apply below_drew1))) be k0 k1 k2 k3 kt cb ch cl cd ce ct (HC.out.below (by repeat (first | with_reducible exact Below.refl _ _ | apply below_alloc | apply pw_below_drewN | apply below_drew1))) HLOW.out pp p (blk_below BP.out (by repeat (first | with_reducible exact Below.refl _ _ | apply below_alloc | apply pw_below_drewN | apply below_drew1))) GP.out GP'.out).mono ?_
  rintro e w2 ⟨rfl, hb⟩
  have HBn : Aside0 (Below Wa.heap.size Wa w2) := ⟨below_step (by repeat (first | with_reducible exact Below.refl _ _ | apply below_alloc | apply pw_below_drewN | apply below_drew1)) hb⟩
  replace hb := HBn.out
  clear HBn
  replace HB2 := Aside0.mk (below_step HB2.out hb)
  replace HU := Aside0.mk (HU0.out.below HB2.out)
  replace HC := Aside0.mk (HC0.out.below HB2.out)
  replace BP := Aside0.mk (blk_below BP0.out HB2.out)
  replace BU := Aside0.mk (blk_below BU0.out HB2.out)
  replace HE := Aside0.mk (pw_own_below HE.out hb)
  clear hb
  go_wp2_with (first | (at_builtin; refine print_append_cells (w0 := Wa) Wa.heap.size rfl (.tmp 26) (.tmp 35) 58 74 (.agg #[.int .i64 0, .int .i64 0, .int .i64 0, .int .i64 0]) 4 32 rfl Try.underlying58 info74 rfl (by decide) (by decide) (.slice none 0 0) 0 [] [.int .i64 0, .int .i64 0, .int .i64 1, .int .i64 (cb + (ct + mx * p))] rfl rfl rfl (oneE _ _ _ _) HE.out HB2.out HB2.out.size (by decide) ?_; intro vq wr0 ho hb2 hg hat; simp only [Nat.reduceAdd, List.cons_append, List.nil_append] at ho; obtain ⟨gE0, cE0, rfl, -, -⟩ := ho.form (by omega); replace HE := Aside0.mk ho; replace HB2 := Aside0.mk hb2; clear ho hb2 hg hat) | fail)
  replace HU := Aside0.mk (HU0.out.below HB2.out)
  replace HC := Aside0.mk (HC0.out.below HB2.out)
  replace BP := Aside0.mk (blk_below BP0.out HB2.out)
  replace BU := Aside0.mk (blk_below BU0.out HB2.out)
  obtain ⟨hN, hL, h0, h1, h1', h2, hln, hln'⟩ := HU.out.reads
  obtain ⟨lbn, lbl, ln0, ln1, ln2, lln⟩ := HU.out.lts
  have lbnA : ∀ k, bn < wr0.heap.size + k := fun k => by omega
  have lbnB : ∀ k j, bn < wr0.heap.size + k + j := fun k j => by omega
  have lblA : ∀ k, bl < wr0.heap.size + k := fun k => by omega
  have lblB : ∀ k j, bl < wr0.heap.size + k + j := fun k j => by omega
  have ln0A : ∀ k, n0 < wr0.heap.size + k := fun k => by omega
  have ln0B : ∀ k j, n0 < wr0.heap.size + k + j := fun k j => by omega
  have ln1A : ∀ k, n1 < wr0.heap.size + k := fun k => by omega
  have ln1B : ∀ k j, n1 < wr0.heap.size + k + j := fun k j => by omega
  have ln2A : ∀ k, n2 < wr0.heap.size + k := fun k => by omega
  have ln2B : ∀ k j, n2 < wr0.heap.size + k + j := fun k j => by omega
  have llnA : ∀ k, ln < wr0.heap.size + k := fun k => by omega
  have llnB : ∀ k j, ln < wr0.heap.size + k + j := fun k j => by omega
  obtain ⟨hE, q0, q1, q1', q2, q3, qt⟩ := HC.out.reads
  obtain ⟨lbe, lk0, lk1, lk2, lk3, lkt⟩ := HC.out.lts
  have lbeA : ∀ k, be < wr0.heap.size + k := fun k => by omega
  have lbeB : ∀ k j, be < wr0.heap.size + k + j := fun k j => by omega
  have lk0A : ∀ k, k0 < wr0.heap.size + k := fun k => by omega
  have lk0B : ∀ k j, k0 < wr0.heap.size + k + j := fun k j => by omega
  have lk1A : ∀ k, k1 < wr0.heap.size + k := fun k => by omega
  have lk1B : ∀ k j, k1 < wr0.heap.size + k + j := fun k j => by omega
  have lk2A : ∀ k, k2 < wr0.heap.size + k := fun k => by omega
  have lk2B : ∀ k j, k2 < wr0.heap.size + k + j := fun k j => by omega
  have lk3A : ∀ k, k3 < wr0.heap.size + k := fun k => by omega
  have lk3B : ∀ k j, k3 < wr0.heap.size + k + j := fun k j => by omega
  have lktA : ∀ k, kt < wr0.heap.size + k := fun k => by omega
  have lktB : ∀ k j, kt < wr0.heap.size + k + j := fun k j => by omega
  have hBP : ∀ i, wr0.cell? ⟨pp, i, none⟩ = (#[.int .i64 p] : Array Value)[i]? := fun i => blk_cell BP.out i
  have ltBP := blk_lt BP.out
  have ltBPA : ∀ k, pp < wr0.heap.size + k := fun k => by omega
  have ltBPB : ∀ k j, pp < wr0.heap.size + k + j := fun k j => by omega
  have hBU : ∀ i, wr0.cell? ⟨w.heap.size, i, none⟩ = (#[.string ⟨#[]⟩, .slice (some ⟨bn, 0, none⟩) 4 4, .slice (some ⟨bl, 0, none⟩) 1 1, .slice none 0 0, .slice none 0 0, .slice none 0 0, .slice none 0 0, .slice none 0 0, .slice none 0 0, .slice none 0 0] : Array Value)[i]? := fun i => blk_cell BU.out i
  have ltBU := blk_lt BU.out
  have ltBUA : ∀ k, w.heap.size < wr0.heap.size + k := fun k => by omega
  have ltBUB : ∀ k j, w.heap.size < wr0.heap.size + k + j := fun k j => by omega
  rw [rounds_succ]
  go_wp2_with fail
  rw [rounds_succ]
  go_wp2_with fail
  refine wp_loop_rounds 6 ?_
  rw [rounds_succ]
  go_wp2_with fail
  clear hN hL h0 h1 h1' h2 hln hln' lbn lbl ln0 ln1 ln2 lln lbnA lbnB lblA lblB ln0A ln0B ln1A ln1B ln2A ln2B llnA llnB hE q0 q1 q1' q2 q3 qt lbe lk0 lk1 lk2 lk3 lkt lbeA lbeB lk0A lk0B lk1A lk1B lk2A lk2B lk3A lk3B lktA lktB hBP ltBP ltBPA ltBPB hBU ltBU ltBUA ltBUB
  refine (weigh_10 bn bl n0 n1 n2 ln mx _ (HU.out.below (by repeat (first | with_reducible exact Below.refl _ _ | apply below_alloc | apply pw_below_drewN | apply below_drew1))) be k0 k1 k2 k3 kt cb ch cl cd ce ct (HC.out.below (by repeat (first | with_reducible exact Below.refl _ _ | apply below_alloc | apply pw_below_drewN | apply below_drew1))) HLOW.out pp p (blk_below BP.out (by repeat (first | with_reducible exact Below.refl _ _ | apply below_alloc | apply pw_below_drewN | apply below_drew1))) GP.out GP'.out).mono ?_
  rintro e w3 ⟨rfl, hb⟩
  have HBn : Aside0 (Below wr0.heap.size wr0 w3) := ⟨below_step (by repeat (first | with_reducible exact Below.refl _ _ | apply below_alloc | apply pw_below_drewN | apply below_drew1)) hb⟩
  replace hb := HBn.out
  clear HBn
  replace HB2 := Aside0.mk (below_step HB2.out hb)
  replace HU := Aside0.mk (HU0.out.below HB2.out)
  replace HC := Aside0.mk (HC0.out.below HB2.out)
  replace BP := Aside0.mk (blk_below BP0.out HB2.out)
  replace BU := Aside0.mk (blk_below BU0.out HB2.out)
  replace HE := Aside0.mk (pw_own_below HE.out hb)
  clear hb
  go_wp2_with (first | (at_builtin; refine print_append_cells (w0 := Wa) Wa.heap.size rfl (.tmp 26) (.tmp 35) 58 74 (.agg #[.int .i64 0, .int .i64 0, .int .i64 0, .int .i64 0]) 4 32 rfl Try.underlying58 info74 rfl (by decide) (by decide) (.slice (some ⟨gE0, 0, none⟩) 1 cE0) 1 [.int .i64 0, .int .i64 0, .int .i64 1, .int .i64 (cb + (ct + mx * p))] [.int .i64 1, .int .i64 0, .int .i64 2, .int .i64 (ch)] rfl rfl rfl (oneE _ _ _ _) HE.out HB2.out HB2.out.size (by decide) ?_; intro vq wr1 ho hb2 hg hat; simp only [Nat.reduceAdd, List.cons_append, List.nil_append] at ho; obtain ⟨gE1, cE1, rfl, -, -⟩ := ho.form (by omega); replace HE := Aside0.mk ho; replace HB2 := Aside0.mk hb2; clear ho hb2 hg hat) | fail)
  replace HU := Aside0.mk (HU0.out.below HB2.out)
  replace HC := Aside0.mk (HC0.out.below HB2.out)
  replace BP := Aside0.mk (blk_below BP0.out HB2.out)
  replace BU := Aside0.mk (blk_below BU0.out HB2.out)
  obtain ⟨hN, hL, h0, h1, h1', h2, hln, hln'⟩ := HU.out.reads
  obtain ⟨lbn, lbl, ln0, ln1, ln2, lln⟩ := HU.out.lts
  obtain ⟨hE, q0, q1, q1', q2, q3, qt⟩ := HC.out.reads
  obtain ⟨lbe, lk0, lk1, lk2, lk3, lkt⟩ := HC.out.lts
  have hBP : ∀ i, wr1.cell? ⟨pp, i, none⟩ = (#[.int .i64 p] : Array Value)[i]? := fun i => blk_cell BP.out i
  have ltBP := blk_lt BP.out
  have hBU : ∀ i, wr1.cell? ⟨w.heap.size, i, none⟩ = (#[.string ⟨#[]⟩, .slice (some ⟨bn, 0, none⟩) 4 4, .slice (some ⟨bl, 0, none⟩) 1 1, .slice none 0 0, .slice none 0 0, .slice none 0 0, .slice none 0 0, .slice none 0 0, .slice none 0 0, .slice none 0 0] : Array Value)[i]? := fun i => blk_cell BU.out i
  have ltBU := blk_lt BU.out
  rw [rounds_succ]
  go_wp2_with fail
  clear hN hL h0 h1 h1' h2 hln hln' lbn lbl ln0 ln1 ln2 lln hE q0 q1 q1' q2 q3 qt lbe lk0 lk1 lk2 lk3 lkt hBP ltBP hBU ltBU
  refine (weigh_11 bn bl n0 n1 n2 ln mx _ (HU.out.below (by repeat (first | with_reducible exact Below.refl _ _ | apply below_alloc | apply pw_below_drewN | apply below_drew1))) be k0 k1 k2 k3 kt cb ch cl cd ce ct (HC.out.below (by repeat (first | with_reducible exact Below.refl _ _ | apply below_alloc | apply pw_below_drewN | apply below_drew1))) HLOW.out pp p (blk_below BP.out (by repeat (first | with_reducible exact Below.refl _ _ | apply below_alloc | apply pw_below_drewN | apply below_drew1))) GP.out GP'.out).mono ?_
  rintro e w4 ⟨rfl, hb⟩
  replace HB2 := Aside0.mk (below_step HB2.out hb)
  replace HU := Aside0.mk (HU0.out.below HB2.out)
  replace HC := Aside0.mk (HC0.out.below HB2.out)
  replace BP := Aside0.mk (blk_below BP0.out HB2.out)
  replace BU := Aside0.mk (blk_below BU0.out HB2.out)
  replace HE := Aside0.mk (pw_own_below HE.out hb)
  clear hb
  go_wp2_with (first | (at_builtin; refine print_append_cells (w0 := Wa) Wa.heap.size rfl (.tmp 26) (.tmp 35) 58 74 (.agg #[.int .i64 0, .int .i64 0, .int .i64 0, .int .i64 0]) 4 32 rfl Try.underlying58 info74 rfl (by decide) (by decide) (.slice (some ⟨gE1, 0, none⟩) 2 cE1) 2 [.int .i64 0, .int .i64 0, .int .i64 1, .int .i64 (cb + (ct + mx * p)), .int .i64 1, .int .i64 0, .int .i64 2, .int .i64 (ch)] [.int .i64 1, .int .i64 1, .int .i64 3, .int .i64 (cl)] rfl rfl rfl (oneE _ _ _ _) HE.out HB2.out HB2.out.size (by decide) ?_; intro vq wr2 ho hb2 hg hat; simp only [Nat.reduceAdd, List.cons_append, List.nil_append] at ho; obtain ⟨gE2, cE2, rfl, -, -⟩ := ho.form (by omega); replace HE := Aside0.mk ho; replace HB2 := Aside0.mk hb2; clear ho hb2 hg hat) | fail)
  replace HU := Aside0.mk (HU0.out.below HB2.out)
  replace HC := Aside0.mk (HC0.out.below HB2.out)
  replace BP := Aside0.mk (blk_below BP0.out HB2.out)
  replace BU := Aside0.mk (blk_below BU0.out HB2.out)
  obtain ⟨hN, hL, h0, h1, h1', h2, hln, hln'⟩ := HU.out.reads
  obtain ⟨lbn, lbl, ln0, ln1, ln2, lln⟩ := HU.out.lts
  have lbnA : ∀ k, bn < wr2.heap.size + k := fun k => by omega
  have lbnB : ∀ k j, bn < wr2.heap.size + k + j := fun k j => by omega
  have lblA : ∀ k, bl < wr2.heap.size + k := fun k => by omega
  have lblB : ∀ k j, bl < wr2.heap.size + k + j := fun k j => by omega
  have ln0A : ∀ k, n0 < wr2.heap.size + k := fun k => by omega
  have ln0B : ∀ k j, n0 < wr2.heap.size + k + j := fun k j => by omega
  have ln1A : ∀ k, n1 < wr2.heap.size + k := fun k => by omega
  have ln1B : ∀ k j, n1 < wr2.heap.size + k + j := fun k j => by omega
  have ln2A : ∀ k, n2 < wr2.heap.size + k := fun k => by omega
  have ln2B : ∀ k j, n2 < wr2.heap.size + k + j := fun k j => by omega
  have llnA : ∀ k, ln < wr2.heap.size + k := fun k => by omega
  have llnB : ∀ k j, ln < wr2.heap.size + k + j := fun k j => by omega
  obtain ⟨hE, q0, q1, q1', q2, q3, qt⟩ := HC.out.reads
  obtain ⟨lbe, lk0, lk1, lk2, lk3, lkt⟩ := HC.out.lts
  have lbeA : ∀ k, be < wr2.heap.size + k := fun k => by omega
  have lbeB : ∀ k j, be < wr2.heap.size + k + j := fun k j => by omega
  have lk0A : ∀ k, k0 < wr2.heap.size + k := fun k => by omega
  have lk0B : ∀ k j, k0 < wr2.heap.size + k + j := fun k j => by omega
  have lk1A : ∀ k, k1 < wr2.heap.size + k := fun k => by omega
  have lk1B : ∀ k j, k1 < wr2.heap.size + k + j := fun k j => by omega
  have lk2A : ∀ k, k2 < wr2.heap.size + k := fun k => by omega
  have lk2B : ∀ k j, k2 < wr2.heap.size + k + j := fun k j => by omega
  have lk3A : ∀ k, k3 < wr2.heap.size + k := fun k => by omega
  have lk3B : ∀ k j, k3 < wr2.heap.size + k + j := fun k j => by omega
  have lktA : ∀ k, kt < wr2.heap.size + k := fun k => by omega
  have lktB : ∀ k j, kt < wr2.heap.size + k + j := fun k j => by omega
  have hBP : ∀ i, wr2.cell? ⟨pp, i, none⟩ = (#[.int .i64 p] : Array Value)[i]? := fun i => blk_cell BP.out i
  have ltBP := blk_lt BP.out
  have ltBPA : ∀ k, pp < wr2.heap.size + k := fun k => by omega
  have ltBPB : ∀ k j, pp < wr2.heap.size + k + j := fun k j => by omega
  have hBU : ∀ i, wr2.cell? ⟨w.heap.size, i, none⟩ = (#[.string ⟨#[]⟩, .slice (some ⟨bn, 0, none⟩) 4 4, .slice (some ⟨bl, 0, none⟩) 1 1, .slice none 0 0, .slice none 0 0, .slice none 0 0, .slice none 0 0, .slice none 0 0, .slice none 0 0, .slice none 0 0] : Array Value)[i]? := fun i => blk_cell BU.out i
  have ltBU := blk_lt BU.out
  have ltBUA : ∀ k, w.heap.size < wr2.heap.size + k := fun k => by omega
  have ltBUB : ∀ k j, w.heap.size < wr2.heap.size + k + j := fun k j => by omega
  rw [rounds_succ]
  go_wp2_with fail
  rw [rounds_succ]
  go_wp2_with fail
  refine wp_loop_rounds 6 ?_
  rw [rounds_succ]
  go_wp2_with fail
  clear hN hL h0 h1 h1' h2 hln hln' lbn lbl ln0 ln1 ln2 lln lbnA lbnB lblA lblB ln0A ln0B ln1A ln1B ln2A ln2B llnA llnB hE q0 q1 q1' q2 q3 qt lbe lk0 lk1 lk2 lk3 lkt lbeA lbeB lk0A lk0B lk1A lk1B lk2A lk2B lk3A lk3B lktA lktB hBP ltBP ltBPA ltBPB hBU ltBU ltBUA ltBUB
  refine (weigh_20 bn bl n0 n1 n2 ln mx _ (HU.out.below (by repeat (first | with_reducible exact Below.refl _ _ | apply below_alloc | apply pw_below_drewN | apply below_drew1))) be k0 k1 k2 k3 kt cb ch cl cd ce ct (HC.out.below (by repeat (first | with_reducible exact Below.refl _ _ | apply below_alloc | apply pw_below_drewN | apply below_drew1))) HLOW.out pp p (blk_below BP.out (by repeat (first | with_reducible exact Below.refl _ _ | apply below_alloc | apply pw_below_drewN | apply below_drew1))) GP.out GP'.out).mono ?_
  rintro e w5 ⟨rfl, hb⟩
  have HBn : Aside0 (Below wr2.heap.size wr2 w5) := ⟨below_step (by repeat (first | with_reducible exact Below.refl _ _ | apply below_alloc | apply pw_below_drewN | apply below_drew1)) hb⟩
  replace hb := HBn.out
  clear HBn
  replace HB2 := Aside0.mk (below_step HB2.out hb)
  replace HU := Aside0.mk (HU0.out.below HB2.out)
  replace HC := Aside0.mk (HC0.out.below HB2.out)
  replace BP := Aside0.mk (blk_below BP0.out HB2.out)
  replace BU := Aside0.mk (blk_below BU0.out HB2.out)
  replace HE := Aside0.mk (pw_own_below HE.out hb)
  clear hb
  go_wp2_with (first | (at_builtin; refine print_append_cells (w0 := Wa) Wa.heap.size rfl (.tmp 26) (.tmp 35) 58 74 (.agg #[.int .i64 0, .int .i64 0, .int .i64 0, .int .i64 0]) 4 32 rfl Try.underlying58 info74 rfl (by decide) (by decide) (.slice (some ⟨gE2, 0, none⟩) 3 cE2) 3 [.int .i64 0, .int .i64 0, .int .i64 1, .int .i64 (cb + (ct + mx * p)), .int .i64 1, .int .i64 0, .int .i64 2, .int .i64 (ch), .int .i64 1, .int .i64 1, .int .i64 3, .int .i64 (cl)] [.int .i64 2, .int .i64 0, .int .i64 1, .int .i64 (cd - p)] rfl rfl rfl (oneE _ _ _ _) HE.out HB2.out HB2.out.size (by decide) ?_; intro vq wr3 ho hb2 hg hat; simp only [Nat.reduceAdd, List.cons_append, List.nil_append] at ho; obtain ⟨gE3, cE3, rfl, -, -⟩ := ho.form (by omega); replace HE := Aside0.mk ho; replace HB2 := Aside0.mk hb2; clear ho hb2 hg hat) | fail)
  replace HU := Aside0.mk (HU0.out.below HB2.out)
  replace HC := Aside0.mk (HC0.out.below HB2.out)
  replace BP := Aside0.mk (blk_below BP0.out HB2.out)
  replace BU := Aside0.mk (blk_below BU0.out HB2.out)
  obtain ⟨hN, hL, h0, h1, h1', h2, hln, hln'⟩ := HU.out.reads
  obtain ⟨lbn, lbl, ln0, ln1, ln2, lln⟩ := HU.out.lts
  have lbnA : ∀ k, bn < wr3.heap.size + k := fun k => by omega
  have lbnB : ∀ k j, bn < wr3.heap.size + k + j := fun k j => by omega
  have lblA : ∀ k, bl < wr3.heap.size + k := fun k => by omega
  have lblB : ∀ k j, bl < wr3.heap.size + k + j := fun k j => by omega
  have ln0A : ∀ k, n0 < wr3.heap.size + k := fun k => by omega
  have ln0B : ∀ k j, n0 < wr3.heap.size + k + j := fun k j => by omega
  have ln1A : ∀ k, n1 < wr3.heap.size + k := fun k => by omega
  have ln1B : ∀ k j, n1 < wr3.heap.size + k + j := fun k j => by omega
  have ln2A : ∀ k, n2 < wr3.heap.size + k := fun k => by omega
  have ln2B : ∀ k j, n2 < wr3.heap.size + k + j := fun k j => by omega
  have llnA : ∀ k, ln < wr3.heap.size + k := fun k => by omega
  have llnB : ∀ k j, ln < wr3.heap.size + k + j := fun k j => by omega
  obtain ⟨hE, q0, q1, q1', q2, q3, qt⟩ := HC.out.reads
  obtain ⟨lbe, lk0, lk1, lk2, lk3, lkt⟩ := HC.out.lts
  have lbeA : ∀ k, be < wr3.heap.size + k := fun k => by omega
  have lbeB : ∀ k j, be < wr3.heap.size + k + j := fun k j => by omega
  have lk0A : ∀ k, k0 < wr3.heap.size + k := fun k => by omega
  have lk0B : ∀ k j, k0 < wr3.heap.size + k + j := fun k j => by omega
  have lk1A : ∀ k, k1 < wr3.heap.size + k := fun k => by omega
  have lk1B : ∀ k j, k1 < wr3.heap.size + k + j := fun k j => by omega
  have lk2A : ∀ k, k2 < wr3.heap.size + k := fun k => by omega
  have lk2B : ∀ k j, k2 < wr3.heap.size + k + j := fun k j => by omega
  have lk3A : ∀ k, k3 < wr3.heap.size + k := fun k => by omega
  have lk3B : ∀ k j, k3 < wr3.heap.size + k + j := fun k j => by omega
  have lktA : ∀ k, kt < wr3.heap.size + k := fun k => by omega
  have lktB : ∀ k j, kt < wr3.heap.size + k + j := fun k j => by omega
  have hBP : ∀ i, wr3.cell? ⟨pp, i, none⟩ = (#[.int .i64 p] : Array Value)[i]? := fun i => blk_cell BP.out i
  have ltBP := blk_lt BP.out
  have ltBPA : ∀ k, pp < wr3.heap.size + k := fun k => by omega
  have ltBPB : ∀ k j, pp < wr3.heap.size + k + j := fun k j => by omega
  have hBU : ∀ i, wr3.cell? ⟨w.heap.size, i, none⟩ = (#[.string ⟨#[]⟩, .slice (some ⟨bn, 0, none⟩) 4 4, .slice (some ⟨bl, 0, none⟩) 1 1, .slice none 0 0, .slice none 0 0, .slice none 0 0, .slice none 0 0, .slice none 0 0, .slice none 0 0, .slice none 0 0] : Array Value)[i]? := fun i => blk_cell BU.out i
  have ltBU := blk_lt BU.out
  have ltBUA : ∀ k, w.heap.size < wr3.heap.size + k := fun k => by omega
  have ltBUB : ∀ k j, w.heap.size < wr3.heap.size + k + j := fun k j => by omega
  rw [rounds_succ]
  go_wp2_with fail
  rw [rounds_succ]
  go_wp2_with fail
  refine wp_loop_rounds 6 ?_
  rw [rounds_succ]
  go_wp2_with fail
  rw [rounds_succ]
  go_wp2_with fail
  go_ret
  exact ⟨gE3, cE3, rfl, own_weaken (pw_own_below HE.out (by repeat (first | with_reducible exact Below.refl _ _ | apply below_alloc | apply pw_below_drewN | apply below_drew1))) HB.out.size, below_step HB.out (by repeat (first | with_reducible exact HB2.out | apply below_alloc | apply pw_below_drewN | apply below_drew1))⟩
set_option maxHeartbeats 8000000 in
set_option maxRecDepth 100000 in
theorem edges_calls (bn bl n0 n1 n2 ln : Nat) (mx : Int) (w : World) (hU : UnitW w bn bl n0 n1 n2 ln mx) (be k0 k1 k2 k3 kt : Nat) (cb ch cl cd ce ct : Int) (hC : CostW w be k0 k1 k2 k3 kt cb ch cl cd ce ct) (hlow : Low cb ch cl cd ce ct mx) (pp : Nat) (p : Int) (hP : Blk w pp #[.int .i64 p] 3) (gp : 0 ≤ p) (gp' : p ≤ 510) :
    Calls Try.prog 13 #[UV bn bl, CV be kt, .slice (some ⟨pp, 0, none⟩) 1 1] w fun e w' => ∃ g c, e = .returned (.slice (some ⟨g, 0, none⟩) 4 c) ∧ w'.ownsRow w.heap.size 74 4 (.slice (some ⟨g, 0, none⟩) 4 c) 4 (EL cb ch cl cd ct mx p) ∧ Below w.heap.size w w' := by
  have hu32 := Try.underlying32
  have hu34 := Try.underlying34
  have HLOW := Aside0.mk hlow
  have BP := Aside0.mk hP
  have GP := Aside0.mk gp
  have GP' := Aside0.mk gp'
  clear hP hlow gp gp'
  have HU := Aside0.mk hU
  have HC := Aside0.mk hC
  have HB : Aside0 (Below w.heap.size w w) := ⟨Below.refl _ _⟩
  clear hU hC
  obtain ⟨hN, hL, h0, h1, h1', h2, hln, hln'⟩ := HU.out.reads
  obtain ⟨lbn, lbl, ln0, ln1, ln2, lln⟩ := HU.out.lts
  have lbnA : ∀ k, bn < w.heap.size + k := fun k => by omega
  have lbnB : ∀ k j, bn < w.heap.size + k + j := fun k j => by omega
  have lblA : ∀ k, bl < w.heap.size + k := fun k => by omega
  have lblB : ∀ k j, bl < w.heap.size + k + j := fun k j => by omega
  have ln0A : ∀ k, n0 < w.heap.size + k := fun k => by omega
  have ln0B : ∀ k j, n0 < w.heap.size + k + j := fun k j => by omega
  have ln1A : ∀ k, n1 < w.heap.size + k := fun k => by omega
  have ln1B : ∀ k j, n1 < w.heap.size + k + j := fun k j => by omega
  have ln2A : ∀ k, n2 < w.heap.size + k := fun k => by omega
  have ln2B : ∀ k j, n2 < w.heap.size + k + j := fun k j => by omega
  have llnA : ∀ k, ln < w.heap.size + k := fun k => by omega
  have llnB : ∀ k j, ln < w.heap.size + k + j := fun k j => by omega
  obtain ⟨hE, q0, q1, q1', q2, q3, qt⟩ := HC.out.reads
  obtain ⟨lbe, lk0, lk1, lk2, lk3, lkt⟩ := HC.out.lts
  have lbeA : ∀ k, be < w.heap.size + k := fun k => by omega
  have lbeB : ∀ k j, be < w.heap.size + k + j := fun k j => by omega
  have lk0A : ∀ k, k0 < w.heap.size + k := fun k => by omega
  have lk0B : ∀ k j, k0 < w.heap.size + k + j := fun k j => by omega
  have lk1A : ∀ k, k1 < w.heap.size + k := fun k => by omega
  have lk1B : ∀ k j, k1 < w.heap.size + k + j := fun k j => by omega
  have lk2A : ∀ k, k2 < w.heap.size + k := fun k => by omega
  have lk2B : ∀ k j, k2 < w.heap.size + k + j := fun k j => by omega
  have lk3A : ∀ k, k3 < w.heap.size + k := fun k => by omega
  have lk3B : ∀ k j, k3 < w.heap.size + k + j := fun k j => by omega
  have lktA : ∀ k, kt < w.heap.size + k := fun k => by omega
  have lktB : ∀ k j, kt < w.heap.size + k + j := fun k j => by omega
  have hBP : ∀ i, w.cell? ⟨pp, i, none⟩ = (#[.int .i64 p] : Array Value)[i]? := fun i => blk_cell BP.out i
  have ltBP := blk_lt BP.out
  have ltBPA : ∀ k, pp < w.heap.size + k := fun k => by omega
  have ltBPB : ∀ k j, pp < w.heap.size + k + j := fun k j => by omega
  go_enter Try.func13, Try.ntmps13
  go_wp2_with fail
  clear hN hL h0 h1 h1' h2 hln hln' lbn lbl ln0 ln1 ln2 lln lbnA lbnB lblA lblB ln0A ln0B ln1A ln1B ln2A ln2B llnA llnB hE q0 q1 q1' q2 q3 qt lbe lk0 lk1 lk2 lk3 lkt lbeA lbeB lk0A lk0B lk1A lk1B lk2A lk2B lk3A lk3B lktA lktB hBP ltBP ltBPA ltBPB
  refine (each_calls bn bl n0 n1 n2 ln mx _ (HU.out.below (by repeat (first | with_reducible exact Below.refl _ _ | apply below_alloc | apply pw_below_drewN | apply below_drew1))) be k0 k1 k2 k3 kt cb ch cl cd ce ct (HC.out.below (by repeat (first | with_reducible exact Below.refl _ _ | apply below_alloc | apply pw_below_drewN | apply below_drew1))) HLOW.out pp p (blk_below BP.out (by repeat (first | with_reducible exact Below.refl _ _ | apply below_alloc | apply pw_below_drewN | apply below_drew1))) GP.out GP'.out).mono ?_
  rintro e w1 ⟨g, c, rfl, ho, hb⟩
  have hb' : Below w.heap.size w w1 := below_step (by repeat (first | with_reducible exact Below.refl _ _ | apply below_alloc | apply pw_below_drewN | apply below_drew1)) hb
  have ho' : w1.ownsRow w.heap.size 74 4 (.slice (some ⟨g, 0, none⟩) 4 c) 4 (EL cb ch cl cd ct mx p) := own_weaken ho (by simp; omega)
  clear ho hb
  go_wp2_with fail
  go_ret
  exact ⟨g, c, rfl, ho', hb'⟩
end Go.Proofs.Ytbeochkimihglaa.PHl
