/- heaviest.bounded over the unit. -/
import Derived.Test.YtbeochkimihglaaH10
import Derived.Outline
import Derived.Maps.AppendAt
import Derived.Laws.OwnMore
namespace Go.Proofs.Ytbeochkimihglaa.PHl
open Go.RowKit Go.Proofs.YtbeochkimihglaaW.PrintWords Go.Proofs.YtbeochkimihglaaW.PrintLast Go.Proofs.YtbeochkimihglaaW.PrintMore
set_option linter.unusedVariables false
set_option linter.unusedSimpArgs false
theorem info29 : (Try.prog.info? 29).map (fun i => (i.zero, i.size, i.bytes)) = some (some (.slice none 0 0), 1, 24) := by kernel_rfl
set_option maxHeartbeats 8000000 in
set_option maxRecDepth 100000 in
theorem bounded_calls (bn bl n0 n1 n2 ln : Nat) (mx : Int) (w : World) (hU : UnitW w bn bl n0 n1 n2 ln mx) (be k0 k1 k2 k3 kt : Nat) (cb ch cl cd ce ct : Int) (hC : CostW w be k0 k1 k2 k3 kt cb ch cl cd ce ct) (hlow : Low cb ch cl cd ce ct mx) :
    Calls Try.prog 22 #[UV bn bl, CV be kt] w fun e w' => e = .returned (.bool true) ∧ Below w.heap.size w w' := by
  have hu32 := Try.underlying32
  have hu34 := Try.underlying34
  have hu38 := Try.underlying38
  obtain ⟨i29, hi, hz⟩ := Option.map_eq_some_iff.1 info29
  simp only [Prod.mk.injEq] at hz
  obtain ⟨hza, hzb, hzc⟩ := hz
  have HI := Aside0.mk hi
  have HZA := Aside0.mk hza
  have HZB := Aside0.mk hzb
  have HZC := Aside0.mk hzc
  clear hi hza hzb hzc
  obtain ⟨⟨gcb, gcb'⟩, ⟨gch, gch'⟩, ⟨gcl, gcl'⟩, ⟨gcd, gcd'⟩, ⟨gce, gce'⟩, ⟨gct, gct'⟩, gmx, gmx'⟩ := hlow
  have HU := Aside0.mk hU
  have HC := Aside0.mk hC
  have HB : Aside0 (Below w.heap.size w w) := ⟨Below.refl _ _⟩
  clear hU hC
  obtain ⟨hN, hL, h0, h1, h1', h2, hln, hln'⟩ := HU.out.reads
  obtain ⟨lbn, lbl, ln0, ln1, ln2, lln⟩ := HU.out.lts
  have lbnA : ∀ k, bn < w.heap.size + k := fun k => by omega
  have lbnB : ∀ k j, bn < w.heap.size + k + j := fun k j => by omega
  have lblA : ∀ k, bl < w.heap.size + k := fun k => by omega
  have lblB : ∀ k j, bl < w.heap.size + k + j := fun k j => by omega
  have ln0A : ∀ k, n0 < w.heap.size + k := fun k => by omega
  have ln0B : ∀ k j, n0 < w.heap.size + k + j := fun k j => by omega
  have ln1A : ∀ k, n1 < w.heap.size + k := fun k => by omega
  have ln1B : ∀ k j, n1 < w.heap.size + k + j := fun k j => by omega
  have ln2A : ∀ k, n2 < w.heap.size + k := fun k => by omega
  have ln2B : ∀ k j, n2 < w.heap.size + k + j := fun k j => by omega
  have llnA : ∀ k, ln < w.heap.size + k := fun k => by omega
  have llnB : ∀ k j, ln < w.heap.size + k + j := fun k j => by omega
  obtain ⟨hE, q0, q1, q1', q2, q3, qt⟩ := HC.out.reads
  obtain ⟨lbe, lk0, lk1, lk2, lk3, lkt⟩ := HC.out.lts
  have lbeA : ∀ k, be < w.heap.size + k := fun k => by omega
  have lbeB : ∀ k j, be < w.heap.size + k + j := fun k j => by omega
  have lk0A : ∀ k, k0 < w.heap.size + k := fun k => by omega
  have lk0B : ∀ k j, k0 < w.heap.size + k + j := fun k j => by omega
  have lk1A : ∀ k, k1 < w.heap.size + k := fun k => by omega
  have lk1B : ∀ k j, k1 < w.heap.size + k + j := fun k j => by omega
  have lk2A : ∀ k, k2 < w.heap.size + k := fun k => by omega
  have lk2B : ∀ k j, k2 < w.heap.size + k + j := fun k j => by omega
  have lk3A : ∀ k, k3 < w.heap.size + k := fun k => by omega
  have lk3B : ∀ k j, k3 < w.heap.size + k + j := fun k j => by omega
  have lktA : ∀ k, kt < w.heap.size + k := fun k => by omega
  have lktB : ∀ k j, kt < w.heap.size + k + j := fun k j => by omega
  go_enter Try.func22, Try.ntmps22
  go_upto_region 2 with (fail)
  clear hN hL h0 h1 h1' h2 hln hln' lbn lbl ln0 ln1 ln2 lln lbnA lbnB lblA lblB ln0A ln0B ln1A ln1B ln2A ln2B llnA llnB hE q0 q1 q1' q2 q3 qt lbe lk0 lk1 lk2 lk3 lkt lbeA lbeB lk0A lk0B lk1A lk1B lk2A lk2B lk3A lk3B lktA lktB
  have hb : Below w.heap.size w ((w.alloc (.cells #[.string ⟨#[]⟩, .slice (some ⟨bn, 0, none⟩) 4 4, .slice (some ⟨bl, 0, none⟩) 1 1, .slice none 0 0, .slice none 0 0, .slice none 0 0, .slice none 0 0, .slice none 0 0, .slice none 0 0, .slice none 0 0] 32)).alloc (.cells #[.slice (some ⟨be, 0, none⟩) 4 4, .slice (some ⟨kt, 0, none⟩) 1 1] 34)) := (by repeat (first | with_reducible exact Below.refl _ _ | apply below_alloc | apply pw_below_drewN | apply below_drew1))
  have BU : Aside0 (Blk ((w.alloc (.cells #[.string ⟨#[]⟩, .slice (some ⟨bn, 0, none⟩) 4 4, .slice (some ⟨bl, 0, none⟩) 1 1, .slice none 0 0, .slice none 0 0, .slice none 0 0, .slice none 0 0, .slice none 0 0, .slice none 0 0, .slice none 0 0] 32)).alloc (.cells #[.slice (some ⟨be, 0, none⟩) 4 4, .slice (some ⟨kt, 0, none⟩) 1 1] 34)) w.heap.size #[.string ⟨#[]⟩, .slice (some ⟨bn, 0, none⟩) 4 4, .slice (some ⟨bl, 0, none⟩) 1 1, .slice none 0 0, .slice none 0 0, .slice none 0 0, .slice none 0 0, .slice none 0 0, .slice none 0 0, .slice none 0 0] 32) := ⟨(by (repeat (first | with_reducible exact heap_alloc_new _ _ | with_reducible exact heap_alloc2_new _ _ _ | with_reducible exact blk_at3 _ _ _ _ | with_reducible exact blk_at4 _ _ _ _ _ | refine blk_alloc ?_ _)))⟩
  have BC : Aside0 (Blk ((w.alloc (.cells #[.string ⟨#[]⟩, .slice (some ⟨bn, 0, none⟩) 4 4, .slice (some ⟨bl, 0, none⟩) 1 1, .slice none 0 0, .slice none 0 0, .slice none 0 0, .slice none 0 0, .slice none 0 0, .slice none 0 0, .slice none 0 0] 32)).alloc (.cells #[.slice (some ⟨be, 0, none⟩) 4 4, .slice (some ⟨kt, 0, none⟩) 1 1] 34)) (w.heap.size + 1) #[.slice (some ⟨be, 0, none⟩) 4 4, .slice (some ⟨kt, 0, none⟩) 1 1] 34) := ⟨(by (repeat (first | with_reducible exact heap_alloc_new _ _ | with_reducible exact heap_alloc2_new _ _ _ | with_reducible exact blk_at3 _ _ _ _ | with_reducible exact blk_at4 _ _ _ _ _ | refine blk_alloc ?_ _)))⟩
  replace HB := Aside0.mk (below_step HB.out hb)
  replace HU := Aside0.mk (HU.out.below hb)
  replace HC := Aside0.mk (HC.out.below hb)
  clear hb
  generalize ((w.alloc (.cells #[.string ⟨#[]⟩, .slice (some ⟨bn, 0, none⟩) 4 4, .slice (some ⟨bl, 0, none⟩) 1 1, .slice none 0 0, .slice none 0 0, .slice none 0 0, .slice none 0 0, .slice none 0 0, .slice none 0 0, .slice none 0 0] 32)).alloc (.cells #[.slice (some ⟨be, 0, none⟩) 4 4, .slice (some ⟨kt, 0, none⟩) 1 1] 34)) = W at HU HC HB BU BC ⊢
  have NEWS : Aside0 (∀ j u, ([.slice (some ⟨k0, 0, none⟩) 1 1, .slice (some ⟨k1, 0, none⟩) 2 2, .slice (some ⟨k2, 0, none⟩) 1 1, .slice (some ⟨k3, 0, none⟩) 1 1] : List Value)[j]? = some u → (W.alloc (.cells #[.slice (some ⟨kt, 0, none⟩) 1 1] 29)).cell? ((⟨be, 0, none⟩ : Addr).add j) = some u) := ⟨World.news_of_block (blk_alloc HC.out.1 _)⟩
  have ONE : Aside0 (∀ u ∈ ([.slice (some ⟨k0, 0, none⟩) 1 1, .slice (some ⟨k1, 0, none⟩) 2 2, .slice (some ⟨k2, 0, none⟩) 1 1, .slice (some ⟨k3, 0, none⟩) 1 1] : List Value), u.oneCell' = true) := ⟨by intro u hu; simp at hu; rcases hu with rfl | rfl | rfl | rfl <;> rfl⟩
  obtain ⟨hN, hL, h0, h1, h1', h2, hln, hln'⟩ := HU.out.reads
  obtain ⟨lbn, lbl, ln0, ln1, ln2, lln⟩ := HU.out.lts
  have lbnA : ∀ k, bn < W.heap.size + k := fun k => by omega
  have lbnB : ∀ k j, bn < W.heap.size + k + j := fun k j => by omega
  have lblA : ∀ k, bl < W.heap.size + k := fun k => by omega
  have lblB : ∀ k j, bl < W.heap.size + k + j := fun k j => by omega
  have ln0A : ∀ k, n0 < W.heap.size + k := fun k => by omega
  have ln0B : ∀ k j, n0 < W.heap.size + k + j := fun k j => by omega
  have ln1A : ∀ k, n1 < W.heap.size + k := fun k => by omega
  have ln1B : ∀ k j, n1 < W.heap.size + k + j := fun k j => by omega
  have ln2A : ∀ k, n2 < W.heap.size + k := fun k => by omega
  have ln2B : ∀ k j, n2 < W.heap.size + k + j := fun k j => by omega
  have llnA : ∀ k, ln < W.heap.size + k := fun k => by omega
  have llnB : ∀ k j, ln < W.heap.size + k + j := fun k j => by omega
  obtain ⟨hE, q0, q1, q1', q2, q3, qt⟩ := HC.out.reads
  obtain ⟨lbe, lk0, lk1, lk2, lk3, lkt⟩ := HC.out.lts
  have lbeA : ∀ k, be < W.heap.size + k := fun k => by omega
  have lbeB : ∀ k j, be < W.heap.size + k + j := fun k j => by omega
  have lk0A : ∀ k, k0 < W.heap.size + k := fun k => by omega
  have lk0B : ∀ k j, k0 < W.heap.size + k + j := fun k j => by omega
  have lk1A : ∀ k, k1 < W.heap.size + k := fun k => by omega
  have lk1B : ∀ k j, k1 < W.heap.size + k + j := fun k j => by omega
  have lk2A : ∀ k, k2 < W.heap.size + k := fun k => by omega
  have lk2B : ∀ k j, k2 < W.heap.size + k + j := fun k j => by omega
  have lk3A : ∀ k, k3 < W.heap.size + k := fun k => by omega
  have lk3B : ∀ k j, k3 < W.heap.size + k + j := fun k j => by omega
  have lktA : ∀ k, kt < W.heap.size + k := fun k => by omega
  have lktB : ∀ k j, kt < W.heap.size + k + j := fun k j => by omega
  have hBU : ∀ i, W.cell? ⟨w.heap.size, i, none⟩ = (#[.string ⟨#[]⟩, .slice (some ⟨bn, 0, none⟩) 4 4, .slice (some ⟨bl, 0, none⟩) 1 1, .slice none 0 0, .slice none 0 0, .slice none 0 0, .slice none 0 0, .slice none 0 0, .slice none 0 0, .slice none 0 0] : Array Value)[i]? := fun i => blk_cell BU.out i
  have ltBU := blk_lt BU.out
  have ltBUA : ∀ k, w.heap.size < W.heap.size + k := fun k => by omega
  have ltBUB : ∀ k j, w.heap.size < W.heap.size + k + j := fun k j => by omega
  have hBC : ∀ i, W.cell? ⟨(w.heap.size + 1), i, none⟩ = (#[.slice (some ⟨be, 0, none⟩) 4 4, .slice (some ⟨kt, 0, none⟩) 1 1] : Array Value)[i]? := fun i => blk_cell BC.out i
  have ltBC := blk_lt BC.out
  have ltBCA : ∀ k, (w.heap.size + 1) < W.heap.size + k := fun k => by omega
  have ltBCB : ∀ k j, (w.heap.size + 1) < W.heap.size + k + j := fun k j => by omega
  go_wp2_with (first | (at_builtin; refine wpList_append_own_at _ rfl _ _ 25 rfl W.heap.size 29 i29 _ 1 24 Try.underlying25 HI.out HZA.out HZB.out HZC.out rfl (by decide) (.slice (some ⟨W.heap.size, 0, none⟩) 1 1) 1 [.slice (some ⟨kt, 0, none⟩) 1 1] rfl (World.ownsRow_lit W #[.slice (some ⟨kt, 0, none⟩) 1 1] 1 (Nat.le_refl _) (by unfold maxLen; omega) rfl) ⟨be, 0, none⟩ 4 4 [.slice (some ⟨k0, 0, none⟩) 1 1, .slice (some ⟨k1, 0, none⟩) 2 2, .slice (some ⟨k2, 0, none⟩) 1 1, .slice (some ⟨k3, 0, none⟩) 1 1] rfl rfl NEWS.out ONE.out (by unfold maxLen; omega) (by omega) (by simp) ?_; intro vq w1 hy hgrow hnil hat; simp only [Nat.reduceAdd, List.cons_append, List.nil_append] at hy; obtain ⟨gq, cq, rfl, hgq1, hgq2⟩ := hy.form (by omega); have HY := Aside0.mk hy; have HG := Aside0.mk hgrow; clear hy hgrow hnil hat) | fail)
  have hb : Below W.heap.size W w1 := Below.grown (below_alloc (Below.refl _ _) _) HG.out (by simp) (fun k hk => by have e : W.heap.size = k := Option.some.inj hk; omega)
  clear hN hL h0 h1 h1' h2 hln hln' lbn lbl ln0 ln1 ln2 lln lbnA lbnB lblA lblB ln0A ln0B ln1A ln1B ln2A ln2B llnA llnB hE q0 q1 q1' q2 q3 qt lbe lk0 lk1 lk2 lk3 lkt lbeA lbeB lk0A lk0B lk1A lk1B lk2A lk2B lk3A lk3B lktA lktB hBU ltBU ltBUA ltBUB hBC ltBC ltBCA ltBCB
  replace HB := Aside0.mk (below_step HB.out hb)
  replace HU := Aside0.mk (HU.out.below hb)
  replace HC := Aside0.mk (HC.out.below hb)
  replace BU := Aside0.mk (blk_below BU.out hb)
  replace BC := Aside0.mk (blk_below BC.out hb)
  clear hb
  clear HG NEWS ONE HI HZA HZB HZC
  obtain ⟨hN, hL, h0, h1, h1', h2, hln, hln'⟩ := HU.out.reads
  obtain ⟨lbn, lbl, ln0, ln1, ln2, lln⟩ := HU.out.lts
  have lbnA : ∀ k, bn < w1.heap.size + k := fun k => by omega
  have lbnB : ∀ k j, bn < w1.heap.size + k + j := fun k j => by omega
  have lblA : ∀ k, bl < w1.heap.size + k := fun k => by omega
  have lblB : ∀ k j, bl < w1.heap.size + k + j := fun k j => by omega
  have ln0A : ∀ k, n0 < w1.heap.size + k := fun k => by omega
  have ln0B : ∀ k j, n0 < w1.heap.size + k + j := fun k j => by omega
  have ln1A : ∀ k, n1 < w1.heap.size + k := fun k => by omega
  have ln1B : ∀ k j, n1 < w1.heap.size + k + j := fun k j => by omega
  have ln2A : ∀ k, n2 < w1.heap.size + k := fun k => by omega
  have ln2B : ∀ k j, n2 < w1.heap.size + k + j := fun k j => by omega
  have llnA : ∀ k, ln < w1.heap.size + k := fun k => by omega
  have llnB : ∀ k j, ln < w1.heap.size + k + j := fun k j => by omega
  obtain ⟨hE, q0, q1, q1', q2, q3, qt⟩ := HC.out.reads
  obtain ⟨lbe, lk0, lk1, lk2, lk3, lkt⟩ := HC.out.lts
  have lbeA : ∀ k, be < w1.heap.size + k := fun k => by omega
  have lbeB : ∀ k j, be < w1.heap.size + k + j := fun k j => by omega
  have lk0A : ∀ k, k0 < w1.heap.size + k := fun k => by omega
  have lk0B : ∀ k j, k0 < w1.heap.size + k + j := fun k j => by omega
  have lk1A : ∀ k, k1 < w1.heap.size + k := fun k => by omega
  have lk1B : ∀ k j, k1 < w1.heap.size + k + j := fun k j => by omega
  have lk2A : ∀ k, k2 < w1.heap.size + k := fun k => by omega
  have lk2B : ∀ k j, k2 < w1.heap.size + k + j := fun k j => by omega
  have lk3A : ∀ k, k3 < w1.heap.size + k := fun k => by omega
  have lk3B : ∀ k j, k3 < w1.heap.size + k + j := fun k j => by omega
  have lktA : ∀ k, kt < w1.heap.size + k := fun k => by omega
  have lktB : ∀ k j, kt < w1.heap.size + k + j := fun k j => by omega
  have hBU : ∀ i, w1.cell? ⟨w.heap.size, i, none⟩ = (#[.string ⟨#[]⟩, .slice (some ⟨bn, 0, none⟩) 4 4, .slice (some ⟨bl, 0, none⟩) 1 1, .slice none 0 0, .slice none 0 0, .slice none 0 0, .slice none 0 0, .slice none 0 0, .slice none 0 0, .slice none 0 0] : Array Value)[i]? := fun i => blk_cell BU.out i
  have ltBU := blk_lt BU.out
  have ltBUA : ∀ k, w.heap.size < w1.heap.size + k := fun k => by omega
  have ltBUB : ∀ k j, w.heap.size < w1.heap.size + k + j := fun k j => by omega
  have hBC : ∀ i, w1.cell? ⟨(w.heap.size + 1), i, none⟩ = (#[.slice (some ⟨be, 0, none⟩) 4 4, .slice (some ⟨kt, 0, none⟩) 1 1] : Array Value)[i]? := fun i => blk_cell BC.out i
  have ltBC := blk_lt BC.out
  have ltBCA : ∀ k, (w.heap.size + 1) < w1.heap.size + k := fun k => by omega
  have ltBCB : ∀ k j, (w.heap.size + 1) < w1.heap.size + k + j := fun k j => by omega
  have hHY0 : w1.cell? ⟨gq, 0, none⟩ = some (.slice (some ⟨kt, 0, none⟩) 1 1) := HY.out.cellAt 0 (by decide)
  have hHY1 : w1.cell? ⟨gq, 1, none⟩ = some (.slice (some ⟨k0, 0, none⟩) 1 1) := HY.out.cellAt 1 (by decide)
  have hHY2 : w1.cell? ⟨gq, 2, none⟩ = some (.slice (some ⟨k1, 0, none⟩) 2 2) := HY.out.cellAt 2 (by decide)
  have hHY3 : w1.cell? ⟨gq, 3, none⟩ = some (.slice (some ⟨k2, 0, none⟩) 1 1) := HY.out.cellAt 3 (by decide)
  have hHY4 : w1.cell? ⟨gq, 4, none⟩ = some (.slice (some ⟨k3, 0, none⟩) 1 1) := HY.out.cellAt 4 (by decide)
  refine wp_loop_rounds 6 ?_
  rw [rounds_succ]
  go_wp2_with fail
  refine wp_loop_rounds 6 ?_
  rw [rounds_succ]
  go_wp2_with fail
  rw [rounds_succ]
  go_wp2_with fail
  rw [rounds_succ]
  go_wp2_with fail
  refine wp_loop_rounds 6 ?_
  rw [rounds_succ]
  go_wp2_with fail
  rw [rounds_succ]
  go_wp2_with fail
  rw [rounds_succ]
  go_wp2_with fail
  refine wp_loop_rounds 6 ?_
  rw [rounds_succ]
  go_wp2_with fail
  rw [rounds_succ]
  go_wp2_with fail
  rw [rounds_succ]
  go_wp2_with fail
  rw [rounds_succ]
  go_wp2_with fail
  refine wp_loop_rounds 6 ?_
  rw [rounds_succ]
  go_wp2_with fail
  rw [rounds_succ]
  go_wp2_with fail
  rw [rounds_succ]
  go_wp2_with fail
  refine wp_loop_rounds 6 ?_
  rw [rounds_succ]
  go_wp2_with fail
  rw [rounds_succ]
  go_wp2_with fail
  rw [rounds_succ]
  go_wp2_with fail
  have hm1 : (ct + cb + ch + cl + cd + ce) * (mx + 1) ≤ 1530 * 33 := Int.mul_le_mul (by omega) (by omega) (by omega) (by omega)
  have hm0 : 0 ≤ (ct + cb + ch + cl + cd + ce) * (mx + 1) := Int.mul_nonneg (by omega) (by omega)
  have hq : ct + cb + ch + cl + cd + ce ≤ 1125899906842624 / (mx + 1) := Int.le_ediv_of_mul_le (by omega) (by omega)
  have hdq : decide (1125899906842624 / (mx + 1) < ct + cb + ch + cl + cd + ce) = false := decide_eq_false (by omega)
  have hd1 : decide ((ct + cb + ch + cl + cd + ce) * (mx + 1) ≤ 1125899906842624) = true := decide_eq_true (by omega)
  refine wp_loop_rounds 6 ?_
  rw [rounds_succ]
  go_wp2_with fail
  rw [rounds_succ]
  go_wp2_with fail
  go_ret
  exact ⟨rfl, by repeat (first | with_reducible exact Below.refl _ _ | with_reducible exact HB.out | apply below_alloc | apply pw_below_drewN | apply below_drew1)⟩
end Go.Proofs.Ytbeochkimihglaa.PHl
