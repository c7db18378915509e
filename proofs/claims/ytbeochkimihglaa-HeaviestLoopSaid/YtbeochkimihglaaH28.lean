/- awake. -/
import Derived.Test.YtbeochkimihglaaH24
import Derived.Test.YtbeochkimihglaaH26
import Derived.Test.YtbeochkimihglaaH27
import Derived.Outline
import Derived.Deep.CutRange
namespace Go.Proofs.Ytbeochkimihglaa.PHl
open Go.RowKit Go.Proofs.YtbeochkimihglaaW.PrintWords Go.Proofs.YtbeochkimihglaaW.PrintLast Go.Proofs.YtbeochkimihglaaW.PrintMore
set_option linter.unusedVariables false
set_option linter.unusedSimpArgs false
theorem lowA : Low 2 4 1 6 1 0 3 := by unfold Low; omega
set_option maxHeartbeats 8000000 in
set_option maxRecDepth 100000 in
theorem awake_calls (w : World) : Calls Try.prog 6 #[] w fun e w' => e = .returned (.bool true) ∧ Below w.heap.size w w' := by
  have hu32 := Try.underlying32
  have hu34 := Try.underlying34
  have hm4 : ∀ W, (Instr.makeSlice 41 (.int .i64 4) (.int .i64 4)).run Try.prog W = .ok (.slice (some ⟨W.heap.size, 0, none⟩) 4 4) (W.alloc (.cells #[.bool false, .bool false, .bool false, .bool false] 4)) := fun W => by kernel_rfl
  have HB : Aside0 (Below w.heap.size w w) := ⟨Below.refl _ _⟩
  go_enter Try.func6, Try.ntmps6
  go_wp2_with fail
  refine (loop_calls _).mono ?_
  rintro e w1 ⟨bn, bl, n0, n1, n2, ln, be, k0, k1, k2, k3, kt, rfl, hU, hC, hbl, hb⟩
  replace HB := Aside0.mk (below_step HB.out hb)
  have HU := Aside0.mk hU
  have HC := Aside0.mk hC
  clear hU hC hbl hb
  go_upto_region 2 with (fail)
  have hb : Below w1.heap.size w1 ((w1.alloc (.cells #[.string ⟨#[]⟩, .slice (some ⟨bn, 0, none⟩) 4 4, .slice (some ⟨bl, 0, none⟩) 1 1, .slice none 0 0, .slice none 0 0, .slice none 0 0, .slice none 0 0, .slice none 0 0, .slice none 0 0, .slice none 0 0] 32)).alloc (.cells #[.slice (some ⟨be, 0, none⟩) 4 4, .slice (some ⟨kt, 0, none⟩) 1 1] 34)) := (by repeat (first | with_reducible exact Below.refl _ _ | apply below_alloc | apply pw_below_drewN | apply below_drew1))
  have BU : Aside0 (Blk ((w1.alloc (.cells #[.string ⟨#[]⟩, .slice (some ⟨bn, 0, none⟩) 4 4, .slice (some ⟨bl, 0, none⟩) 1 1, .slice none 0 0, .slice none 0 0, .slice none 0 0, .slice none 0 0, .slice none 0 0, .slice none 0 0, .slice none 0 0] 32)).alloc (.cells #[.slice (some ⟨be, 0, none⟩) 4 4, .slice (some ⟨kt, 0, none⟩) 1 1] 34)) w1.heap.size #[.string ⟨#[]⟩, .slice (some ⟨bn, 0, none⟩) 4 4, .slice (some ⟨bl, 0, none⟩) 1 1, .slice none 0 0, .slice none 0 0, .slice none 0 0, .slice none 0 0, .slice none 0 0, .slice none 0 0, .slice none 0 0] 32) := ⟨(by (repeat (first | with_reducible exact heap_alloc_new _ _ | with_reducible exact heap_alloc2_new _ _ _ | with_reducible exact blk_at3 _ _ _ _ | with_reducible exact blk_at4 _ _ _ _ _ | refine blk_alloc ?_ _)))⟩
  have BC : Aside0 (Blk ((w1.alloc (.cells #[.string ⟨#[]⟩, .slice (some ⟨bn, 0, none⟩) 4 4, .slice (some ⟨bl, 0, none⟩) 1 1, .slice none 0 0, .slice none 0 0, .slice none 0 0, .slice none 0 0, .slice none 0 0, .slice none 0 0, .slice none 0 0] 32)).alloc (.cells #[.slice (some ⟨be, 0, none⟩) 4 4, .slice (some ⟨kt, 0, none⟩) 1 1] 34)) (w1.heap.size + 1) #[.slice (some ⟨be, 0, none⟩) 4 4, .slice (some ⟨kt, 0, none⟩) 1 1] 34) := ⟨(by (repeat (first | with_reducible exact heap_alloc_new _ _ | with_reducible exact heap_alloc2_new _ _ _ | with_reducible exact blk_at3 _ _ _ _ | with_reducible exact blk_at4 _ _ _ _ _ | refine blk_alloc ?_ _)))⟩
  replace HB := Aside0.mk (below_step HB.out hb)
  replace HU := Aside0.mk (HU.out.below hb)
  replace HC := Aside0.mk (HC.out.below hb)
  clear hb
  generalize ((w1.alloc (.cells #[.string ⟨#[]⟩, .slice (some ⟨bn, 0, none⟩) 4 4, .slice (some ⟨bl, 0, none⟩) 1 1, .slice none 0 0, .slice none 0 0, .slice none 0 0, .slice none 0 0, .slice none 0 0, .slice none 0 0, .slice none 0 0] 32)).alloc (.cells #[.slice (some ⟨be, 0, none⟩) 4 4, .slice (some ⟨kt, 0, none⟩) 1 1] 34)) = Wa at HU HC HB BU BC ⊢
  obtain ⟨bu, hbu⟩ : ∃ b, b = w1.heap.size := ⟨_, rfl⟩
  rw [← hbu] at BU BC ⊢
  clear hbu
  obtain ⟨hN, hL, h0, h1, h1', h2, hln, hln'⟩ := HU.out.reads
  obtain ⟨lbn, lbl, ln0, ln1, ln2, lln⟩ := HU.out.lts
  have lbnA : ∀ k, bn < Wa.heap.size + k := fun k => by omega
  have lbnB : ∀ k j, bn < Wa.heap.size + k + j := fun k j => by omega
  have lblA : ∀ k, bl < Wa.heap.size + k := fun k => by omega
  have lblB : ∀ k j, bl < Wa.heap.size + k + j := fun k j => by omega
  have ln0A : ∀ k, n0 < Wa.heap.size + k := fun k => by omega
  have ln0B : ∀ k j, n0 < Wa.heap.size + k + j := fun k j => by omega
  have ln1A : ∀ k, n1 < Wa.heap.size + k := fun k => by omega
  have ln1B : ∀ k j, n1 < Wa.heap.size + k + j := fun k j => by omega
  have ln2A : ∀ k, n2 < Wa.heap.size + k := fun k => by omega
  have ln2B : ∀ k j, n2 < Wa.heap.size + k + j := fun k j => by omega
  have llnA : ∀ k, ln < Wa.heap.size + k := fun k => by omega
  have llnB : ∀ k j, ln < Wa.heap.size + k + j := fun k j => by omega
  obtain ⟨hE, q0, q1, q1', q2, q3, qt⟩ := HC.out.reads
  obtain ⟨lbe, lk0, lk1, lk2, lk3, lkt⟩ := HC.out.lts
  have lbeA : ∀ k, be < Wa.heap.size + k := fun k => by omega
  have lbeB : ∀ k j, be < Wa.heap.size + k + j := fun k j => by omega
  have lk0A : ∀ k, k0 < Wa.heap.size + k := fun k => by omega
  have lk0B : ∀ k j, k0 < Wa.heap.size + k + j := fun k j => by omega
  have lk1A : ∀ k, k1 < Wa.heap.size + k := fun k => by omega
  have lk1B : ∀ k j, k1 < Wa.heap.size + k + j := fun k j => by omega
  have lk2A : ∀ k, k2 < Wa.heap.size + k := fun k => by omega
  have lk2B : ∀ k j, k2 < Wa.heap.size + k + j := fun k j => by omega
  have lk3A : ∀ k, k3 < Wa.heap.size + k := fun k => by omega
  have lk3B : ∀ k j, k3 < Wa.heap.size + k + j := fun k j => by omega
  have lktA : ∀ k, kt < Wa.heap.size + k := fun k => by omega
  have lktB : ∀ k j, kt < Wa.heap.size + k + j := fun k j => by omega
  have hBU : ∀ i, Wa.cell? ⟨bu, i, none⟩ = (#[.string ⟨#[]⟩, .slice (some ⟨bn, 0, none⟩) 4 4, .slice (some ⟨bl, 0, none⟩) 1 1, .slice none 0 0, .slice none 0 0, .slice none 0 0, .slice none 0 0, .slice none 0 0, .slice none 0 0, .slice none 0 0] : Array Value)[i]? := fun i => blk_cell BU.out i
  have ltBU := blk_lt BU.out
  have ltBUA : ∀ k, bu < Wa.heap.size + k := fun k => by omega
  have ltBUB : ∀ k j, bu < Wa.heap.size + k + j := fun k j => by omega
  have hBC : ∀ i, Wa.cell? ⟨(bu + 1), i, none⟩ = (#[.slice (some ⟨be, 0, none⟩) 4 4, .slice (some ⟨kt, 0, none⟩) 1 1] : Array Value)[i]? := fun i => blk_cell BC.out i
  have ltBC := blk_lt BC.out
  have ltBCA : ∀ k, (bu + 1) < Wa.heap.size + k := fun k => by omega
  have ltBCB : ∀ k j, (bu + 1) < Wa.heap.size + k + j := fun k j => by omega
  have hs0 : (∀ i, Wa.drew.cell? ⟨bu, i, none⟩ = (#[.string ⟨#[]⟩, .slice (some ⟨bn, 0, none⟩) 4 4, .slice (some ⟨bl, 0, none⟩) 1 1, .slice none 0 0, .slice none 0 0, .slice none 0 0, .slice none 0 0, .slice none 0 0, .slice none 0 0, .slice none 0 0] : Array Value)[i]?) ∧ (∀ i, Wa.drew.cell? ⟨bu + 1, i, none⟩ = (#[.slice (some ⟨be, 0, none⟩) 4 4, .slice (some ⟨kt, 0, none⟩) 1 1] : Array Value)[i]?) := ⟨fun i => blk_cell (blk_drew BU.out) i, fun i => blk_cell (blk_drew BC.out) i⟩
  go_region_held3 (fun w' => (∀ i, w'.cell? ⟨bu, i, none⟩ = (#[.string ⟨#[]⟩, .slice (some ⟨bn, 0, none⟩) 4 4, .slice (some ⟨bl, 0, none⟩) 1 1, .slice none 0 0, .slice none 0 0, .slice none 0 0, .slice none 0 0, .slice none 0 0, .slice none 0 0, .slice none 0 0] : Array Value)[i]?) ∧ (∀ i, w'.cell? ⟨bu + 1, i, none⟩ = (#[.slice (some ⟨be, 0, none⟩) 4 4, .slice (some ⟨kt, 0, none⟩) 1 1] : Array Value)[i]?)) (first | with_reducible exact hs0 | with_reducible assumption | exact ⟨fun i => blk_cell (blk_alloc (blk_drew BU.out) _) i, fun i => blk_cell (blk_alloc (blk_drew BC.out) _) i⟩ | exact ⟨fun i => blk_cell (blk_drew (blk_alloc BU.out _)) i, fun i => blk_cell (blk_drew (blk_alloc BC.out _)) i⟩) (first | (go_at_call 5; have hb0 : Below Wa.heap.size Wa (Wa.drew.alloc (.cells #[.bool false, .bool false, .bool false, .bool false] 4)) := below_alloc (below_drew1 (Below.refl _ _)) _; with_reducible refine (cost_none bn bl n0 n1 n2 ln 3 _ (HU.out.below hb0) be k0 k1 k2 k3 kt 2 4 1 6 1 0 (HC.out.below hb0) lowA _ (heap_alloc_new _ _)).mono ?_; rintro e w2 ⟨rfl, hb⟩; replace hb : Below Wa.heap.size Wa w2 := below_step hb0 hb; skip; replace HB := Aside0.mk (below_step HB.out hb); replace HU := Aside0.mk (HU.out.below hb); replace HC := Aside0.mk (HC.out.below hb); replace BU := Aside0.mk (blk_below BU.out hb); replace BC := Aside0.mk (blk_below BC.out hb); clear hb; have hs : (∀ i, w2.cell? ⟨bu, i, none⟩ = (#[.string ⟨#[]⟩, .slice (some ⟨bn, 0, none⟩) 4 4, .slice (some ⟨bl, 0, none⟩) 1 1, .slice none 0 0, .slice none 0 0, .slice none 0 0, .slice none 0 0, .slice none 0 0, .slice none 0 0, .slice none 0 0] : Array Value)[i]?) ∧ (∀ i, w2.cell? ⟨bu + 1, i, none⟩ = (#[.slice (some ⟨be, 0, none⟩) 4 4, .slice (some ⟨kt, 0, none⟩) 1 1] : Array Value)[i]?) := ⟨fun i => blk_cell BU.out i, fun i => blk_cell BC.out i⟩; clear hb0) | (go_at_call 5; have hb0 : Below Wa.heap.size Wa (Wa.alloc (.cells #[.bool false, .bool false, .bool false, .bool false] 4)).drew := below_drew1 (below_alloc (Below.refl _ _) _); with_reducible refine (cost_none bn bl n0 n1 n2 ln 3 _ (HU.out.below hb0) be k0 k1 k2 k3 kt 2 4 1 6 1 0 (HC.out.below hb0) lowA _ (blk_drew (heap_alloc_new _ _))).mono ?_; rintro e w2 ⟨rfl, hb⟩; replace hb : Below Wa.heap.size Wa w2 := below_step hb0 hb; skip; replace HB := Aside0.mk (below_step HB.out hb); replace HU := Aside0.mk (HU.out.below hb); replace HC := Aside0.mk (HC.out.below hb); replace BU := Aside0.mk (blk_below BU.out hb); replace BC := Aside0.mk (blk_below BC.out hb); clear hb; have hs : (∀ i, w2.cell? ⟨bu, i, none⟩ = (#[.string ⟨#[]⟩, .slice (some ⟨bn, 0, none⟩) 4 4, .slice (some ⟨bl, 0, none⟩) 1 1, .slice none 0 0, .slice none 0 0, .slice none 0 0, .slice none 0 0, .slice none 0 0, .slice none 0 0, .slice none 0 0] : Array Value)[i]?) ∧ (∀ i, w2.cell? ⟨bu + 1, i, none⟩ = (#[.slice (some ⟨be, 0, none⟩) 4 4, .slice (some ⟨kt, 0, none⟩) 1 1] : Array Value)[i]?) := ⟨fun i => blk_cell BU.out i, fun i => blk_cell BC.out i⟩; clear hb0) | fail)
  clear hs0
  go_upto_region 3 with (fail)
  clear hN hL h0 h1 h1' h2 hln hln' lbn lbl ln0 ln1 ln2 lln lbnA lbnB lblA lblB ln0A ln0B ln1A ln1B ln2A ln2B llnA llnB hE q0 q1 q1' q2 q3 qt lbe lk0 lk1 lk2 lk3 lkt lbeA lbeB lk0A lk0B lk1A lk1B lk2A lk2B lk3A lk3B lktA lktB hBU ltBU ltBUA ltBUB hBC ltBC ltBCA ltBCB
  obtain ⟨hN, hL, h0, h1, h1', h2, hln, hln'⟩ := HU.out.reads
  obtain ⟨lbn, lbl, ln0, ln1, ln2, lln⟩ := HU.out.lts
  have lbnA : ∀ k, bn < w2.heap.size + k := fun k => by omega
  have lbnB : ∀ k j, bn < w2.heap.size + k + j := fun k j => by omega
  have lblA : ∀ k, bl < w2.heap.size + k := fun k => by omega
  have lblB : ∀ k j, bl < w2.heap.size + k + j := fun k j => by omega
  have ln0A : ∀ k, n0 < w2.heap.size + k := fun k => by omega
  have ln0B : ∀ k j, n0 < w2.heap.size + k + j := fun k j => by omega
  have ln1A : ∀ k, n1 < w2.heap.size + k := fun k => by omega
  have ln1B : ∀ k j, n1 < w2.heap.size + k + j := fun k j => by omega
  have ln2A : ∀ k, n2 < w2.heap.size + k := fun k => by omega
  have ln2B : ∀ k j, n2 < w2.heap.size + k + j := fun k j => by omega
  have llnA : ∀ k, ln < w2.heap.size + k := fun k => by omega
  have llnB : ∀ k j, ln < w2.heap.size + k + j := fun k j => by omega
  obtain ⟨hE, q0, q1, q1', q2, q3, qt⟩ := HC.out.reads
  obtain ⟨lbe, lk0, lk1, lk2, lk3, lkt⟩ := HC.out.lts
  have lbeA : ∀ k, be < w2.heap.size + k := fun k => by omega
  have lbeB : ∀ k j, be < w2.heap.size + k + j := fun k j => by omega
  have lk0A : ∀ k, k0 < w2.heap.size + k := fun k => by omega
  have lk0B : ∀ k j, k0 < w2.heap.size + k + j := fun k j => by omega
  have lk1A : ∀ k, k1 < w2.heap.size + k := fun k => by omega
  have lk1B : ∀ k j, k1 < w2.heap.size + k + j := fun k j => by omega
  have lk2A : ∀ k, k2 < w2.heap.size + k := fun k => by omega
  have lk2B : ∀ k j, k2 < w2.heap.size + k + j := fun k j => by omega
  have lk3A : ∀ k, k3 < w2.heap.size + k := fun k => by omega
  have lk3B : ∀ k j, k3 < w2.heap.size + k + j := fun k j => by omega
  have lktA : ∀ k, kt < w2.heap.size + k := fun k => by omega
  have lktB : ∀ k j, kt < w2.heap.size + k + j := fun k j => by omega
  have hBU : ∀ i, w2.cell? ⟨bu, i, none⟩ = (#[.string ⟨#[]⟩, .slice (some ⟨bn, 0, none⟩) 4 4, .slice (some ⟨bl, 0, none⟩) 1 1, .slice none 0 0, .slice none 0 0, .slice none 0 0, .slice none 0 0, .slice none 0 0, .slice none 0 0, .slice none 0 0] : Array Value)[i]? := fun i => blk_cell BU.out i
  have ltBU := blk_lt BU.out
  have ltBUA : ∀ k, bu < w2.heap.size + k := fun k => by omega
  have ltBUB : ∀ k j, bu < w2.heap.size + k + j := fun k j => by omega
  have hBC : ∀ i, w2.cell? ⟨(bu + 1), i, none⟩ = (#[.slice (some ⟨be, 0, none⟩) 4 4, .slice (some ⟨kt, 0, none⟩) 1 1] : Array Value)[i]? := fun i => blk_cell BC.out i
  have ltBC := blk_lt BC.out
  have ltBCA : ∀ k, (bu + 1) < w2.heap.size + k := fun k => by omega
  have ltBCB : ∀ k j, (bu + 1) < w2.heap.size + k + j := fun k j => by omega
  have hs0 : (∀ i, w2.drew.cell? ⟨bu, i, none⟩ = (#[.string ⟨#[]⟩, .slice (some ⟨bn, 0, none⟩) 4 4, .slice (some ⟨bl, 0, none⟩) 1 1, .slice none 0 0, .slice none 0 0, .slice none 0 0, .slice none 0 0, .slice none 0 0, .slice none 0 0, .slice none 0 0] : Array Value)[i]?) ∧ (∀ i, w2.drew.cell? ⟨bu + 1, i, none⟩ = (#[.slice (some ⟨be, 0, none⟩) 4 4, .slice (some ⟨kt, 0, none⟩) 1 1] : Array Value)[i]?) := ⟨fun i => blk_cell (blk_drew BU.out) i, fun i => blk_cell (blk_drew BC.out) i⟩
  go_region_held3 (fun w' => (∀ i, w'.cell? ⟨bu, i, none⟩ = (#[.string ⟨#[]⟩, .slice (some ⟨bn, 0, none⟩) 4 4, .slice (some ⟨bl, 0, none⟩) 1 1, .slice none 0 0, .slice none 0 0, .slice none 0 0, .slice none 0 0, .slice none 0 0, .slice none 0 0, .slice none 0 0] : Array Value)[i]?) ∧ (∀ i, w'.cell? ⟨bu + 1, i, none⟩ = (#[.slice (some ⟨be, 0, none⟩) 4 4, .slice (some ⟨kt, 0, none⟩) 1 1] : Array Value)[i]?)) (first | with_reducible exact hs0 | with_reducible assumption | exact ⟨fun i => blk_cell (blk_alloc (blk_drew BU.out) _) i, fun i => blk_cell (blk_alloc (blk_drew BC.out) _) i⟩ | exact ⟨fun i => blk_cell (blk_drew (blk_alloc BU.out _)) i, fun i => blk_cell (blk_drew (blk_alloc BC.out _)) i⟩) (first | (go_at_call 8; have hb0 : Below w2.heap.size w2 (w2.drew.alloc (.cells #[.bool false, .bool false, .bool false, .bool false] 4)) := below_alloc (below_drew1 (Below.refl _ _)) _; with_reducible refine (prices2_calls bn bl n0 n1 n2 ln 3 _ (HU.out.below hb0) be k0 k1 k2 k3 kt 2 4 1 6 1 0 (HC.out.below hb0) lowA _ (heap_alloc_new _ _)).mono ?_; rintro e w3 ⟨bo, rfl, hBo, hb⟩; replace hb : Below w2.heap.size w2 w3 := below_step hb0 hb; have BO := Aside0.mk hBo; clear hBo; replace HB := Aside0.mk (below_step HB.out hb); replace HU := Aside0.mk (HU.out.below hb); replace HC := Aside0.mk (HC.out.below hb); replace BU := Aside0.mk (blk_below BU.out hb); replace BC := Aside0.mk (blk_below BC.out hb); clear hb; have hs : (∀ i, w3.cell? ⟨bu, i, none⟩ = (#[.string ⟨#[]⟩, .slice (some ⟨bn, 0, none⟩) 4 4, .slice (some ⟨bl, 0, none⟩) 1 1, .slice none 0 0, .slice none 0 0, .slice none 0 0, .slice none 0 0, .slice none 0 0, .slice none 0 0, .slice none 0 0] : Array Value)[i]?) ∧ (∀ i, w3.cell? ⟨bu + 1, i, none⟩ = (#[.slice (some ⟨be, 0, none⟩) 4 4, .slice (some ⟨kt, 0, none⟩) 1 1] : Array Value)[i]?) := ⟨fun i => blk_cell BU.out i, fun i => blk_cell BC.out i⟩; clear hb0) | (go_at_call 8; have hb0 : Below w2.heap.size w2 (w2.alloc (.cells #[.bool false, .bool false, .bool false, .bool false] 4)).drew := below_drew1 (below_alloc (Below.refl _ _) _); with_reducible refine (prices2_calls bn bl n0 n1 n2 ln 3 _ (HU.out.below hb0) be k0 k1 k2 k3 kt 2 4 1 6 1 0 (HC.out.below hb0) lowA _ (blk_drew (heap_alloc_new _ _))).mono ?_; rintro e w3 ⟨bo, rfl, hBo, hb⟩; replace hb : Below w2.heap.size w2 w3 := below_step hb0 hb; have BO := Aside0.mk hBo; clear hBo; replace HB := Aside0.mk (below_step HB.out hb); replace HU := Aside0.mk (HU.out.below hb); replace HC := Aside0.mk (HC.out.below hb); replace BU := Aside0.mk (blk_below BU.out hb); replace BC := Aside0.mk (blk_below BC.out hb); clear hb; have hs : (∀ i, w3.cell? ⟨bu, i, none⟩ = (#[.string ⟨#[]⟩, .slice (some ⟨bn, 0, none⟩) 4 4, .slice (some ⟨bl, 0, none⟩) 1 1, .slice none 0 0, .slice none 0 0, .slice none 0 0, .slice none 0 0, .slice none 0 0, .slice none 0 0, .slice none 0 0] : Array Value)[i]?) ∧ (∀ i, w3.cell? ⟨bu + 1, i, none⟩ = (#[.slice (some ⟨be, 0, none⟩) 4 4, .slice (some ⟨kt, 0, none⟩) 1 1] : Array Value)[i]?) := ⟨fun i => blk_cell BU.out i, fun i => blk_cell BC.out i⟩; clear hb0) | fail)
  clear hs0
  clear hN hL h0 h1 h1' h2 hln hln' lbn lbl ln0 ln1 ln2 lln lbnA lbnB lblA lblB ln0A ln0B ln1A ln1B ln2A ln2B llnA llnB hE q0 q1 q1' q2 q3 qt lbe lk0 lk1 lk2 lk3 lkt lbeA lbeB lk0A lk0B lk1A lk1B lk2A lk2B lk3A lk3B lktA lktB hBU ltBU ltBUA ltBUB hBC ltBC ltBCA ltBCB
  obtain ⟨hN, hL, h0, h1, h1', h2, hln, hln'⟩ := HU.out.reads
  obtain ⟨lbn, lbl, ln0, ln1, ln2, lln⟩ := HU.out.lts
  have lbnA : ∀ k, bn < w3.heap.size + k := fun k => by omega
  have lbnB : ∀ k j, bn < w3.heap.size + k + j := fun k j => by omega
  have lblA : ∀ k, bl < w3.heap.size + k := fun k => by omega
  have lblB : ∀ k j, bl < w3.heap.size + k + j := fun k j => by omega
  have ln0A : ∀ k, n0 < w3.heap.size + k := fun k => by omega
  have ln0B : ∀ k j, n0 < w3.heap.size + k + j := fun k j => by omega
  have ln1A : ∀ k, n1 < w3.heap.size + k := fun k => by omega
  have ln1B : ∀ k j, n1 < w3.heap.size + k + j := fun k j => by omega
  have ln2A : ∀ k, n2 < w3.heap.size + k := fun k => by omega
  have ln2B : ∀ k j, n2 < w3.heap.size + k + j := fun k j => by omega
  have llnA : ∀ k, ln < w3.heap.size + k := fun k => by omega
  have llnB : ∀ k j, ln < w3.heap.size + k + j := fun k j => by omega
  obtain ⟨hE, q0, q1, q1', q2, q3, qt⟩ := HC.out.reads
  obtain ⟨lbe, lk0, lk1, lk2, lk3, lkt⟩ := HC.out.lts
  have lbeA : ∀ k, be < w3.heap.size + k := fun k => by omega
  have lbeB : ∀ k j, be < w3.heap.size + k + j := fun k j => by omega
  have lk0A : ∀ k, k0 < w3.heap.size + k := fun k => by omega
  have lk0B : ∀ k j, k0 < w3.heap.size + k + j := fun k j => by omega
  have lk1A : ∀ k, k1 < w3.heap.size + k := fun k => by omega
  have lk1B : ∀ k j, k1 < w3.heap.size + k + j := fun k j => by omega
  have lk2A : ∀ k, k2 < w3.heap.size + k := fun k => by omega
  have lk2B : ∀ k j, k2 < w3.heap.size + k + j := fun k j => by omega
  have lk3A : ∀ k, k3 < w3.heap.size + k := fun k => by omega
  have lk3B : ∀ k j, k3 < w3.heap.size + k + j := fun k j => by omega
  have lktA : ∀ k, kt < w3.heap.size + k := fun k => by omega
  have lktB : ∀ k j, kt < w3.heap.size + k + j := fun k j => by omega
  have hBU : ∀ i, w3.cell? ⟨bu, i, none⟩ = (#[.string ⟨#[]⟩, .slice (some ⟨bn, 0, none⟩) 4 4, .slice (some ⟨bl, 0, none⟩) 1 1, .slice none 0 0, .slice none 0 0, .slice none 0 0, .slice none 0 0, .slice none 0 0, .slice none 0 0, .slice none 0 0] : Array Value)[i]? := fun i => blk_cell BU.out i
  have ltBU := blk_lt BU.out
  have ltBUA : ∀ k, bu < w3.heap.size + k := fun k => by omega
  have ltBUB : ∀ k j, bu < w3.heap.size + k + j := fun k j => by omega
  have hBC : ∀ i, w3.cell? ⟨(bu + 1), i, none⟩ = (#[.slice (some ⟨be, 0, none⟩) 4 4, .slice (some ⟨kt, 0, none⟩) 1 1] : Array Value)[i]? := fun i => blk_cell BC.out i
  have ltBC := blk_lt BC.out
  have ltBCA : ∀ k, (bu + 1) < w3.heap.size + k := fun k => by omega
  have ltBCB : ∀ k j, (bu + 1) < w3.heap.size + k + j := fun k j => by omega
  have hBO : ∀ i, w3.cell? ⟨bo, i, none⟩ = (#[.int .i64 (4 + 6)] : Array Value)[i]? := fun i => blk_cell BO.out i
  have ltBO := blk_lt BO.out
  have ltBOA : ∀ k, bo < w3.heap.size + k := fun k => by omega
  have ltBOB : ∀ k j, bo < w3.heap.size + k + j := fun k j => by omega
  go_wp2_with fail
  clear hN hL h0 h1 h1' h2 hln hln' lbn lbl ln0 ln1 ln2 lln lbnA lbnB lblA lblB ln0A ln0B ln1A ln1B ln2A ln2B llnA llnB hE q0 q1 q1' q2 q3 qt lbe lk0 lk1 lk2 lk3 lkt lbeA lbeB lk0A lk0B lk1A lk1B lk2A lk2B lk3A lk3B lktA lktB hBU ltBU ltBUA ltBUB hBC ltBC ltBCA ltBCB hBO ltBO ltBOA ltBOB
  refine (looped_calls bn bl n0 n1 n2 ln 3 _ HU.out (by decide) (by decide)).mono ?_
  rintro e w4 ⟨rfl, hb⟩
  replace HB := Aside0.mk (below_step HB.out hb)
  replace HU := Aside0.mk (HU.out.below hb)
  replace HC := Aside0.mk (HC.out.below hb)
  replace BU := Aside0.mk (blk_below BU.out hb)
  replace BC := Aside0.mk (blk_below BC.out hb)
  replace BO := Aside0.mk (blk_below BO.out hb)
  clear hb
  obtain ⟨hN, hL, h0, h1, h1', h2, hln, hln'⟩ := HU.out.reads
  obtain ⟨lbn, lbl, ln0, ln1, ln2, lln⟩ := HU.out.lts
  have lbnA : ∀ k, bn < w4.heap.size + k := fun k => by omega
  have lbnB : ∀ k j, bn < w4.heap.size + k + j := fun k j => by omega
  have lblA : ∀ k, bl < w4.heap.size + k := fun k => by omega
  have lblB : ∀ k j, bl < w4.heap.size + k + j := fun k j => by omega
  have ln0A : ∀ k, n0 < w4.heap.size + k := fun k => by omega
  have ln0B : ∀ k j, n0 < w4.heap.size + k + j := fun k j => by omega
  have ln1A : ∀ k, n1 < w4.heap.size + k := fun k => by omega
  have ln1B : ∀ k j, n1 < w4.heap.size + k + j := fun k j => by omega
  have ln2A : ∀ k, n2 < w4.heap.size + k := fun k => by omega
  have ln2B : ∀ k j, n2 < w4.heap.size + k + j := fun k j => by omega
  have llnA : ∀ k, ln < w4.heap.size + k := fun k => by omega
  have llnB : ∀ k j, ln < w4.heap.size + k + j := fun k j => by omega
  obtain ⟨hE, q0, q1, q1', q2, q3, qt⟩ := HC.out.reads
  obtain ⟨lbe, lk0, lk1, lk2, lk3, lkt⟩ := HC.out.lts
  have lbeA : ∀ k, be < w4.heap.size + k := fun k => by omega
  have lbeB : ∀ k j, be < w4.heap.size + k + j := fun k j => by omega
  have lk0A : ∀ k, k0 < w4.heap.size + k := fun k => by omega
  have lk0B : ∀ k j, k0 < w4.heap.size + k + j := fun k j => by omega
  have lk1A : ∀ k, k1 < w4.heap.size + k := fun k => by omega
  have lk1B : ∀ k j, k1 < w4.heap.size + k + j := fun k j => by omega
  have lk2A : ∀ k, k2 < w4.heap.size + k := fun k => by omega
  have lk2B : ∀ k j, k2 < w4.heap.size + k + j := fun k j => by omega
  have lk3A : ∀ k, k3 < w4.heap.size + k := fun k => by omega
  have lk3B : ∀ k j, k3 < w4.heap.size + k + j := fun k j => by omega
  have lktA : ∀ k, kt < w4.heap.size + k := fun k => by omega
  have lktB : ∀ k j, kt < w4.heap.size + k + j := fun k j => by omega
  have hBU : ∀ i, w4.cell? ⟨bu, i, none⟩ = (#[.string ⟨#[]⟩, .slice (some ⟨bn, 0, none⟩) 4 4, .slice (some ⟨bl, 0, none⟩) 1 1, .slice none 0 0, .slice none 0 0, .slice none 0 0, .slice none 0 0, .slice none 0 0, .slice none 0 0, .slice none 0 0] : Array Value)[i]? := fun i => blk_cell BU.out i
  have ltBU := blk_lt BU.out
  have ltBUA : ∀ k, bu < w4.heap.size + k := fun k => by omega
  have ltBUB : ∀ k j, bu < w4.heap.size + k + j := fun k j => by omega
  have hBC : ∀ i, w4.cell? ⟨(bu + 1), i, none⟩ = (#[.slice (some ⟨be, 0, none⟩) 4 4, .slice (some ⟨kt, 0, none⟩) 1 1] : Array Value)[i]? := fun i => blk_cell BC.out i
  have ltBC := blk_lt BC.out
  have ltBCA : ∀ k, (bu + 1) < w4.heap.size + k := fun k => by omega
  have ltBCB : ∀ k j, (bu + 1) < w4.heap.size + k + j := fun k j => by omega
  have hBO : ∀ i, w4.cell? ⟨bo, i, none⟩ = (#[.int .i64 (4 + 6)] : Array Value)[i]? := fun i => blk_cell BO.out i
  have ltBO := blk_lt BO.out
  have ltBOA : ∀ k, bo < w4.heap.size + k := fun k => by omega
  have ltBOB : ∀ k j, bo < w4.heap.size + k + j := fun k j => by omega
  go_wp2_with fail
  go_ret
  exact ⟨rfl, HB.out⟩
end Go.Proofs.Ytbeochkimihglaa.PHl
