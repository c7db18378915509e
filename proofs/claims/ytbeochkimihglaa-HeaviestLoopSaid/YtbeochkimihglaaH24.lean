/- heaviest.Prices over the unit. -/
import Derived.Test.YtbeochkimihglaaH22
namespace Go.Proofs.Ytbeochkimihglaa.PHl
open Go.RowKit Go.Proofs.YtbeochkimihglaaW.PrintWords Go.Proofs.YtbeochkimihglaaW.PrintLast Go.Proofs.YtbeochkimihglaaW.PrintMore
set_option linter.unusedVariables false
set_option linter.unusedSimpArgs false
set_option maxHeartbeats 8000000 in
set_option maxRecDepth 100000 in
theorem prices2_calls (bn bl n0 n1 n2 ln : Nat) (mx : Int) (w : World) (hU : UnitW w bn bl n0 n1 n2 ln mx) (be k0 k1 k2 k3 kt : Nat) (cb ch cl cd ce ct : Int) (hC : CostW w be k0 k1 k2 k3 kt cb ch cl cd ce ct) (hlow : Low cb ch cl cd ce ct mx) (dd : Nat) (hD : Blk w dd #[.bool false, .bool false, .bool false, .bool false] 4) :
    Calls Try.prog 8 #[UV bn bl, CV be kt, .slice (some ⟨dd, 0, none⟩) 4 4] w fun e w' => ∃ bo, e = .returned (.tuple #[.slice (some ⟨bo, 0, none⟩) 1 1, .bool true]) ∧ Blk w' bo #[.int .i64 (ch + cd)] 3 ∧ Below w.heap.size w w' := by
  have hu32 := Try.underlying32
  have hu34 := Try.underlying34
  have hu38 := Try.underlying38
  have hu46 := Try.underlying46
  have hu71 := Try.underlying71
  have hu74 := Try.underlying74
  have HLOW := Aside0.mk hlow
  have BD := Aside0.mk hD
  clear hD hlow
  have HU := Aside0.mk hU
  have HC := Aside0.mk hC
  have HB : Aside0 (Below w.heap.size w w) := ⟨Below.refl _ _⟩
  clear hU hC
  go_enter Try.func8, Try.ntmps8
  go_upto_region 1 with (fail)
  have hb : Below w.heap.size w ((w.alloc (.cells #[.string ⟨#[]⟩, .slice (some ⟨bn, 0, none⟩) 4 4, .slice (some ⟨bl, 0, none⟩) 1 1, .slice none 0 0, .slice none 0 0, .slice none 0 0, .slice none 0 0, .slice none 0 0, .slice none 0 0, .slice none 0 0] 32)).alloc (.cells #[.slice (some ⟨be, 0, none⟩) 4 4, .slice (some ⟨kt, 0, none⟩) 1 1] 34)) := (by repeat (first | with_reducible exact Below.refl _ _ | apply below_alloc | apply pw_below_drewN | apply below_drew1))
  have BU : Aside0 (Blk ((w.alloc (.cells #[.string ⟨#[]⟩, .slice (some ⟨bn, 0, none⟩) 4 4, .slice (some ⟨bl, 0, none⟩) 1 1, .slice none 0 0, .slice none 0 0, .slice none 0 0, .slice none 0 0, .slice none 0 0, .slice none 0 0, .slice none 0 0] 32)).alloc (.cells #[.slice (some ⟨be, 0, none⟩) 4 4, .slice (some ⟨kt, 0, none⟩) 1 1] 34)) w.heap.size #[.string ⟨#[]⟩, .slice (some ⟨bn, 0, none⟩) 4 4, .slice (some ⟨bl, 0, none⟩) 1 1, .slice none 0 0, .slice none 0 0, .slice none 0 0, .slice none 0 0, .slice none 0 0, .slice none 0 0, .slice none 0 0] 32) := ⟨(by (repeat (first | with_reducible exact heap_alloc_new _ _ | with_reducible exact heap_alloc2_new _ _ _ | with_reducible exact blk_at3 _ _ _ _ | with_reducible exact blk_at4 _ _ _ _ _ | refine blk_alloc ?_ _)))⟩
  have BC : Aside0 (Blk ((w.alloc (.cells #[.string ⟨#[]⟩, .slice (some ⟨bn, 0, none⟩) 4 4, .slice (some ⟨bl, 0, none⟩) 1 1, .slice none 0 0, .slice none 0 0, .slice none 0 0, .slice none 0 0, .slice none 0 0, .slice none 0 0, .slice none 0 0] 32)).alloc (.cells #[.slice (some ⟨be, 0, none⟩) 4 4, .slice (some ⟨kt, 0, none⟩) 1 1] 34)) (w.heap.size + 1) #[.slice (some ⟨be, 0, none⟩) 4 4, .slice (some ⟨kt, 0, none⟩) 1 1] 34) := ⟨(by (repeat (first | with_reducible exact heap_alloc_new _ _ | with_reducible exact heap_alloc2_new _ _ _ | with_reducible exact blk_at3 _ _ _ _ | with_reducible exact blk_at4 _ _ _ _ _ | refine blk_alloc ?_ _)))⟩
  replace HB := Aside0.mk (below_step HB.out hb)
  replace HU := Aside0.mk (HU.out.below hb)
  replace HC := Aside0.mk (HC.out.below hb)
  replace BD := Aside0.mk (blk_below BD.out hb)
  clear hb
  generalize ((w.alloc (.cells #[.string ⟨#[]⟩, .slice (some ⟨bn, 0, none⟩) 4 4, .slice (some ⟨bl, 0, none⟩) 1 1, .slice none 0 0, .slice none 0 0, .slice none 0 0, .slice none 0 0, .slice none 0 0, .slice none 0 0, .slice none 0 0] 32)).alloc (.cells #[.slice (some ⟨be, 0, none⟩) 4 4, .slice (some ⟨kt, 0, none⟩) 1 1] 34)) = Wa at HU HC HB BD BU BC ⊢
  obtain ⟨hN, hL, h0, h1, h1', h2, hln, hln'⟩ := HU.out.reads
  obtain ⟨lbn, lbl, ln0, ln1, ln2, lln⟩ := HU.out.lts
  have lbnA : ∀ k, bn < Wa.heap.size + k := fun k => by omega
  have lbnB : ∀ k j, bn < Wa.heap.size + k + j := fun k j => by omega
  have lblA : ∀ k, bl < Wa.heap.size + k := fun k => by omega
  have lblB : ∀ k j, bl < Wa.heap.size + k + j := fun k j => by omega
  have ln0A : ∀ k, n0 < Wa.heap.size + k := fun k => by omega
  have ln0B : ∀ k j, n0 < Wa.heap.size + k + j := fun k j => by omega
  have ln1A : ∀ k, n1 < Wa.heap.size + k := fun k => by omega
  have ln1B : ∀ k j, n1 < Wa.heap.size + k + j := fun k j => by omega
  have ln2A : ∀ k, n2 < Wa.heap.size + k := fun k => by omega
  have ln2B : ∀ k j, n2 < Wa.heap.size + k + j := fun k j => by omega
  have llnA : ∀ k, ln < Wa.heap.size + k := fun k => by omega
  have llnB : ∀ k j, ln < Wa.heap.size + k + j := fun k j => by omega
  obtain ⟨hE, q0, q1, q1', q2, q3, qt⟩ := HC.out.reads
  obtain ⟨lbe, lk0, lk1, lk2, lk3, lkt⟩ := HC.out.lts
  have lbeA : ∀ k, be < Wa.heap.size + k := fun k => by omega
  have lbeB : ∀ k j, be < Wa.heap.size + k + j := fun k j => by omega
  have lk0A : ∀ k, k0 < Wa.heap.size + k := fun k => by omega
  have lk0B : ∀ k j, k0 < Wa.heap.size + k + j := fun k j => by omega
  have lk1A : ∀ k, k1 < Wa.heap.size + k := fun k => by omega
  have lk1B : ∀ k j, k1 < Wa.heap.size + k + j := fun k j => by omega
  have lk2A : ∀ k, k2 < Wa.heap.size + k := fun k => by omega
  have lk2B : ∀ k j, k2 < Wa.heap.size + k + j := fun k j => by omega
  have lk3A : ∀ k, k3 < Wa.heap.size + k := fun k => by omega
  have lk3B : ∀ k j, k3 < Wa.heap.size + k + j := fun k j => by omega
  have lktA : ∀ k, kt < Wa.heap.size + k := fun k => by omega
  have lktB : ∀ k j, kt < Wa.heap.size + k + j := fun k j => by omega
  have hBD : ∀ i, Wa.cell? ⟨dd, i, none⟩ = (#[.bool false, .bool false, .bool false, .bool false] : Array Value)[i]? := fun i => blk_cell BD.out i
  have ltBD := blk_lt BD.out
  have ltBDA : ∀ k, dd < Wa.heap.size + k := fun k => by omega
  have ltBDB : ∀ k j, dd < Wa.heap.size + k + j := fun k j => by omega
  have hBU : ∀ i, Wa.cell? ⟨w.heap.size, i, none⟩ = (#[.string ⟨#[]⟩, .slice (some ⟨bn, 0, none⟩) 4 4, .slice (some ⟨bl, 0, none⟩) 1 1, .slice none 0 0, .slice none 0 0, .slice none 0 0, .slice none 0 0, .slice none 0 0, .slice none 0 0, .slice none 0 0] : Array Value)[i]? := fun i => blk_cell BU.out i
  have ltBU := blk_lt BU.out
  have ltBUA : ∀ k, w.heap.size < Wa.heap.size + k := fun k => by omega
  have ltBUB : ∀ k j, w.heap.size < Wa.heap.size + k + j := fun k j => by omega
  have hBC : ∀ i, Wa.cell? ⟨(w.heap.size + 1), i, none⟩ = (#[.slice (some ⟨be, 0, none⟩) 4 4, .slice (some ⟨kt, 0, none⟩) 1 1] : Array Value)[i]? := fun i => blk_cell BC.out i
  have ltBC := blk_lt BC.out
  have ltBCA : ∀ k, (w.heap.size + 1) < Wa.heap.size + k := fun k => by omega
  have ltBCB : ∀ k j, (w.heap.size + 1) < Wa.heap.size + k + j := fun k j => by omega
  go_wp2_with fail
  clear hN hL h0 h1 h1' h2 hln hln' lbn lbl ln0 ln1 ln2 lln lbnA lbnB lblA lblB ln0A ln0B ln1A ln1B ln2A ln2B llnA llnB hE q0 q1 q1' q2 q3 qt lbe lk0 lk1 lk2 lk3 lkt lbeA lbeB lk0A lk0B lk1A lk1B lk2A lk2B lk3A lk3B lktA lktB hBD ltBD ltBDA ltBDB hBU ltBU ltBUA ltBUB hBC ltBC ltBCA ltBCB
  refine (fits_calls bn bl n0 n1 n2 ln mx _ HU.out be k0 k1 k2 k3 kt cb ch cl cd ce ct HC.out HLOW.out dd).mono ?_
  rintro e w2 ⟨rfl, hb⟩
  replace HB := Aside0.mk (below_step HB.out hb)
  replace HU := Aside0.mk (HU.out.below hb)
  replace HC := Aside0.mk (HC.out.below hb)
  replace BD := Aside0.mk (blk_below BD.out hb)
  replace BU := Aside0.mk (blk_below BU.out hb)
  replace BC := Aside0.mk (blk_below BC.out hb)
  clear hb
  obtain ⟨hN, hL, h0, h1, h1', h2, hln, hln'⟩ := HU.out.reads
  obtain ⟨lbn, lbl, ln0, ln1, ln2, lln⟩ := HU.out.lts
  have lbnA : ∀ k, bn < w2.heap.size + k := fun k => by omega
  have lbnB : ∀ k j, bn < w2.heap.size + k + j := fun k j => by omega
  have lblA : ∀ k, bl < w2.heap.size + k := fun k => by omega
  have lblB : ∀ k j, bl < w2.heap.size + k + j := fun k j => by omega
  have ln0A : ∀ k, n0 < w2.heap.size + k := fun k => by omega
  have ln0B : ∀ k j, n0 < w2.heap.size + k + j := fun k j => by omega
  have ln1A : ∀ k, n1 < w2.heap.size + k := fun k => by omega
  have ln1B : ∀ k j, n1 < w2.heap.size + k + j := fun k j => by omega
  have ln2A : ∀ k, n2 < w2.heap.size + k := fun k => by omega
  have ln2B : ∀ k j, n2 < w2.heap.size + k + j := fun k j => by omega
  have llnA : ∀ k, ln < w2.heap.size + k := fun k => by omega
  have llnB : ∀ k j, ln < w2.heap.size + k + j := fun k j => by omega
  obtain ⟨hE, q0, q1, q1', q2, q3, qt⟩ := HC.out.reads
  obtain ⟨lbe, lk0, lk1, lk2, lk3, lkt⟩ := HC.out.lts
  have lbeA : ∀ k, be < w2.heap.size + k := fun k => by omega
  have lbeB : ∀ k j, be < w2.heap.size + k + j := fun k j => by omega
  have lk0A : ∀ k, k0 < w2.heap.size + k := fun k => by omega
  have lk0B : ∀ k j, k0 < w2.heap.size + k + j := fun k j => by omega
  have lk1A : ∀ k, k1 < w2.heap.size + k := fun k => by omega
  have lk1B : ∀ k j, k1 < w2.heap.size + k + j := fun k j => by omega
  have lk2A : ∀ k, k2 < w2.heap.size + k := fun k => by omega
  have lk2B : ∀ k j, k2 < w2.heap.size + k + j := fun k j => by omega
  have lk3A : ∀ k, k3 < w2.heap.size + k := fun k => by omega
  have lk3B : ∀ k j, k3 < w2.heap.size + k + j := fun k j => by omega
  have lktA : ∀ k, kt < w2.heap.size + k := fun k => by omega
  have lktB : ∀ k j, kt < w2.heap.size + k + j := fun k j => by omega
  have hBD : ∀ i, w2.cell? ⟨dd, i, none⟩ = (#[.bool false, .bool false, .bool false, .bool false] : Array Value)[i]? := fun i => blk_cell BD.out i
  have ltBD := blk_lt BD.out
  have ltBDA : ∀ k, dd < w2.heap.size + k := fun k => by omega
  have ltBDB : ∀ k j, dd < w2.heap.size + k + j := fun k j => by omega
  have hBU : ∀ i, w2.cell? ⟨w.heap.size, i, none⟩ = (#[.string ⟨#[]⟩, .slice (some ⟨bn, 0, none⟩) 4 4, .slice (some ⟨bl, 0, none⟩) 1 1, .slice none 0 0, .slice none 0 0, .slice none 0 0, .slice none 0 0, .slice none 0 0, .slice none 0 0, .slice none 0 0] : Array Value)[i]? := fun i => blk_cell BU.out i
  have ltBU := blk_lt BU.out
  have ltBUA : ∀ k, w.heap.size < w2.heap.size + k := fun k => by omega
  have ltBUB : ∀ k j, w.heap.size < w2.heap.size + k + j := fun k j => by omega
  have hBC : ∀ i, w2.cell? ⟨(w.heap.size + 1), i, none⟩ = (#[.slice (some ⟨be, 0, none⟩) 4 4, .slice (some ⟨kt, 0, none⟩) 1 1] : Array Value)[i]? := fun i => blk_cell BC.out i
  have ltBC := blk_lt BC.out
  have ltBCA : ∀ k, (w.heap.size + 1) < w2.heap.size + k := fun k => by omega
  have ltBCB : ∀ k j, (w.heap.size + 1) < w2.heap.size + k + j := fun k j => by omega
  go_wp2_with fail
  clear hN hL h0 h1 h1' h2 hln hln' lbn lbl ln0 ln1 ln2 lln lbnA lbnB lblA lblB ln0A ln0B ln1A ln1B ln2A ln2B llnA llnB hE q0 q1 q1' q2 q3 qt lbe lk0 lk1 lk2 lk3 lkt lbeA lbeB lk0A lk0B lk1A lk1B lk2A lk2B lk3A lk3B lktA lktB hBD ltBD ltBDA ltBDB hBU ltBU ltBUA ltBUB hBC ltBC ltBCA ltBCB
  refine (prices_none bn bl n0 n1 n2 ln mx _ HU.out be k0 k1 k2 k3 kt cb ch cl cd ce ct HC.out HLOW.out dd BD.out).mono ?_
  rintro e w3 ⟨bo, br, rfl, hBo, hb⟩
  replace HB := Aside0.mk (below_step HB.out hb)
  replace HU := Aside0.mk (HU.out.below hb)
  replace HC := Aside0.mk (HC.out.below hb)
  replace BD := Aside0.mk (blk_below BD.out hb)
  replace BU := Aside0.mk (blk_below BU.out hb)
  replace BC := Aside0.mk (blk_below BC.out hb)
  clear hb
  have BO := Aside0.mk hBo
  clear hBo
  obtain ⟨hN, hL, h0, h1, h1', h2, hln, hln'⟩ := HU.out.reads
  obtain ⟨lbn, lbl, ln0, ln1, ln2, lln⟩ := HU.out.lts
  have lbnA : ∀ k, bn < w3.heap.size + k := fun k => by omega
  have lbnB : ∀ k j, bn < w3.heap.size + k + j := fun k j => by omega
  have lblA : ∀ k, bl < w3.heap.size + k := fun k => by omega
  have lblB : ∀ k j, bl < w3.heap.size + k + j := fun k j => by omega
  have ln0A : ∀ k, n0 < w3.heap.size + k := fun k => by omega
  have ln0B : ∀ k j, n0 < w3.heap.size + k + j := fun k j => by omega
  have ln1A : ∀ k, n1 < w3.heap.size + k := fun k => by omega
  have ln1B : ∀ k j, n1 < w3.heap.size + k + j := fun k j => by omega
  have ln2A : ∀ k, n2 < w3.heap.size + k := fun k => by omega
  have ln2B : ∀ k j, n2 < w3.heap.size + k + j := fun k j => by omega
  have llnA : ∀ k, ln < w3.heap.size + k := fun k => by omega
  have llnB : ∀ k j, ln < w3.heap.size + k + j := fun k j => by omega
  obtain ⟨hE, q0, q1, q1', q2, q3, qt⟩ := HC.out.reads
  obtain ⟨lbe, lk0, lk1, lk2, lk3, lkt⟩ := HC.out.lts
  have lbeA : ∀ k, be < w3.heap.size + k := fun k => by omega
  have lbeB : ∀ k j, be < w3.heap.size + k + j := fun k j => by omega
  have lk0A : ∀ k, k0 < w3.heap.size + k := fun k => by omega
  have lk0B : ∀ k j, k0 < w3.heap.size + k + j := fun k j => by omega
  have lk1A : ∀ k, k1 < w3.heap.size + k := fun k => by omega
  have lk1B : ∀ k j, k1 < w3.heap.size + k + j := fun k j => by omega
  have lk2A : ∀ k, k2 < w3.heap.size + k := fun k => by omega
  have lk2B : ∀ k j, k2 < w3.heap.size + k + j := fun k j => by omega
  have lk3A : ∀ k, k3 < w3.heap.size + k := fun k => by omega
  have lk3B : ∀ k j, k3 < w3.heap.size + k + j := fun k j => by omega
  have lktA : ∀ k, kt < w3.heap.size + k := fun k => by omega
  have lktB : ∀ k j, kt < w3.heap.size + k + j := fun k j => by omega
  have hBD : ∀ i, w3.cell? ⟨dd, i, none⟩ = (#[.bool false, .bool false, .bool false, .bool false] : Array Value)[i]? := fun i => blk_cell BD.out i
  have ltBD := blk_lt BD.out
  have ltBDA : ∀ k, dd < w3.heap.size + k := fun k => by omega
  have ltBDB : ∀ k j, dd < w3.heap.size + k + j := fun k j => by omega
  have hBU : ∀ i, w3.cell? ⟨w.heap.size, i, none⟩ = (#[.string ⟨#[]⟩, .slice (some ⟨bn, 0, none⟩) 4 4, .slice (some ⟨bl, 0, none⟩) 1 1, .slice none 0 0, .slice none 0 0, .slice none 0 0, .slice none 0 0, .slice none 0 0, .slice none 0 0, .slice none 0 0] : Array Value)[i]? := fun i => blk_cell BU.out i
  have ltBU := blk_lt BU.out
  have ltBUA : ∀ k, w.heap.size < w3.heap.size + k := fun k => by omega
  have ltBUB : ∀ k j, w.heap.size < w3.heap.size + k + j := fun k j => by omega
  have hBC : ∀ i, w3.cell? ⟨(w.heap.size + 1), i, none⟩ = (#[.slice (some ⟨be, 0, none⟩) 4 4, .slice (some ⟨kt, 0, none⟩) 1 1] : Array Value)[i]? := fun i => blk_cell BC.out i
  have ltBC := blk_lt BC.out
  have ltBCA : ∀ k, (w.heap.size + 1) < w3.heap.size + k := fun k => by omega
  have ltBCB : ∀ k j, (w.heap.size + 1) < w3.heap.size + k + j := fun k j => by omega
  go_wp2_with fail
  go_ret2
  exact ⟨bo, rfl, BO.out, HB.out⟩
end Go.Proofs.Ytbeochkimihglaa.PHl
