/- heaviest.Potentials and heaviest.Cost over the unit: none. -/
import Derived.Test.YtbeochkimihglaaH25
import Derived.Test.YtbeochkimihglaaH22
import Derived.Outline
import Derived.Deep.CutRange
namespace Go.Proofs.Ytbeochkimihglaa.PHl
open Go.RowKit Go.Proofs.YtbeochkimihglaaW.PrintWords Go.Proofs.YtbeochkimihglaaW.PrintLast Go.Proofs.YtbeochkimihglaaW.PrintMore
set_option linter.unusedVariables false
set_option linter.unusedSimpArgs false
set_option maxHeartbeats 8000000 in
set_option maxRecDepth 100000 in
theorem pots_none (bn bl n0 n1 n2 ln : Nat) (mx : Int) (w : World) (hU : UnitW w bn bl n0 n1 n2 ln mx) (be k0 k1 k2 k3 kt : Nat) (cb ch cl cd ce ct : Int) (hC : CostW w be k0 k1 k2 k3 kt cb ch cl cd ce ct) (hlow : Low cb ch cl cd ce ct mx) (dd : Nat) (hD : Blk w dd #[.bool false, .bool false, .bool false, .bool false] 4) :
    Calls Try.prog 7 #[UV bn bl, CV be kt, .slice (some ⟨dd, 0, none⟩) 4 4] w fun e w' => ∃ qs qk SS KK, e = .returned (.tuple #[.slice (some ⟨qs, 0, none⟩) 4 4, .slice (some ⟨qk, 0, none⟩) 4 4, .bool true]) ∧ Blk w' qs SS 3 ∧ Blk w' qk KK 4 ∧ SS[0]? = some (.int .i64 (cl + (cb + (ct + mx * (ch + cd))) + ce)) ∧ KK[0]? = some (.bool true) ∧ Below w.heap.size w w' := by
  have hu32 := Try.underlying32
  have hu34 := Try.underlying34
  have hu38 := Try.underlying38
  have hu46 := Try.underlying46
  have hu71 := Try.underlying71
  have hu74 := Try.underlying74
  have HLOW := Aside0.mk hlow
  have BD := Aside0.mk hD
  clear hD hlow
  have HU := Aside0.mk hU
  have HC := Aside0.mk hC
  have HB : Aside0 (Below w.heap.size w w) := ⟨Below.refl _ _⟩
  clear hU hC
  go_enter Try.func7, Try.ntmps7
  go_upto_region 1 with (fail)
  have hb : Below w.heap.size w ((w.alloc (.cells #[.string ⟨#[]⟩, .slice (some ⟨bn, 0, none⟩) 4 4, .slice (some ⟨bl, 0, none⟩) 1 1, .slice none 0 0, .slice none 0 0, .slice none 0 0, .slice none 0 0, .slice none 0 0, .slice none 0 0, .slice none 0 0] 32)).alloc (.cells #[.slice (some ⟨be, 0, none⟩) 4 4, .slice (some ⟨kt, 0, none⟩) 1 1] 34)) := (by repeat (first | with_reducible exact Below.refl _ _ | apply below_alloc | apply pw_below_drewN | apply below_drew1))
  have BU : Aside0 (Blk ((w.alloc (.cells #[.string ⟨#[]⟩, .slice (some ⟨bn, 0, none⟩) 4 4, .slice (some ⟨bl, 0, none⟩) 1 1, .slice none 0 0, .slice none 0 0, .slice none 0 0, .slice none 0 0, .slice none 0 0, .slice none 0 0, .slice none 0 0] 32)).alloc (.cells #[.slice (some ⟨be, 0, none⟩) 4 4, .slice (some ⟨kt, 0, none⟩) 1 1] 34)) w.heap.size #[.string ⟨#[]⟩, .slice (some ⟨bn, 0, none⟩) 4 4, .slice (some ⟨bl, 0, none⟩) 1 1, .slice none 0 0, .slice none 0 0, .slice none 0 0, .slice none 0 0, .slice none 0 0, .slice none 0 0, .slice none 0 0] 32) := ⟨(by (repeat (first | with_reducible exact heap_alloc_new _ _ | with_reducible exact heap_alloc2_new _ _ _ | with_reducible exact blk_at3 _ _ _ _ | with_reducible exact blk_at4 _ _ _ _ _ | refine blk_alloc ?_ _)))⟩
  have BC : Aside0 (Blk ((w.alloc (.cells #[.string ⟨#[]⟩, .slice (some ⟨bn, 0, none⟩) 4 4, .slice (some ⟨bl, 0, none⟩) 1 1, .slice none 0 0, .slice none 0 0, .slice none 0 0, .slice none 0 0, .slice none 0 0, .slice none 0 0, .slice none 0 0] 32)).alloc (.cells #[.slice (some ⟨be, 0, none⟩) 4 4, .slice (some ⟨kt, 0, none⟩) 1 1] 34)) (w.heap.size + 1) #[.slice (some ⟨be, 0, none⟩) 4 4, .slice (some ⟨kt, 0, none⟩) 1 1] 34) := ⟨(by (repeat (first | with_reducible exact heap_alloc_new _ _ | with_reducible exact heap_alloc2_new _ _ _ | with_reducible exact blk_at3 _ _ _ _ | with_reducible exact blk_at4 _ _ _ _ _ | refine blk_alloc ?_ _)))⟩
  replace HB := Aside0.mk (below_step HB.out hb)
  replace HU := Aside0.mk (HU.out.below hb)
  replace HC := Aside0.mk (HC.out.below hb)
  replace BD := Aside0.mk (blk_below BD.out hb)
  clear hb
  generalize ((w.alloc (.cells #[.string ⟨#[]⟩, .slice (some ⟨bn, 0, none⟩) 4 4, .slice (some ⟨bl, 0, none⟩) 1 1, .slice none 0 0, .slice none 0 0, .slice none 0 0, .slice none 0 0, .slice none 0 0, .slice none 0 0, .slice none 0 0] 32)).alloc (.cells #[.slice (some ⟨be, 0, none⟩) 4 4, .slice (some ⟨kt, 0, none⟩) 1 1] 34)) = Wa at HU HC HB BD BU BC ⊢
  obtain ⟨hN, hL, h0, h1, h1', h2, hln, hln'⟩ := HU.out.reads
  obtain ⟨lbn, lbl, ln0, ln1, ln2, lln⟩ := HU.out.lts
  have lbnA : ∀ k, bn < Wa.heap.size + k := fun k => by omega
  have lbnB : ∀ k j, bn < Wa.heap.size + k + j := fun k j => by omega
  have lblA : ∀ k, bl < Wa.heap.size + k := fun k => by omega
  have lblB : ∀ k j, bl < Wa.heap.size + k + j := fun k j => by omega
  have ln0A : ∀ k, n0 < Wa.heap.size + k := fun k => by omega
  have ln0B : ∀ k j, n0 < Wa.heap.size + k + j := fun k j => by omega
  have ln1A : ∀ k, n1 < Wa.heap.size + k := fun k => by omega
  have ln1B : ∀ k j, n1 < Wa.heap.size + k + j := fun k j => by omega
  have ln2A : ∀ k, n2 < Wa.heap.size + k := fun k => by omega
  have ln2B : ∀ k j, n2 < Wa.heap.size + k + j := fun k j => by omega
  have llnA : ∀ k, ln < Wa.heap.size + k := fun k => by omega
  have llnB : ∀ k j, ln < Wa.heap.size + k + j := fun k j => by omega
  obtain ⟨hE, q0, q1, q1', q2, q3, qt⟩ := HC.out.reads
  obtain ⟨lbe, lk0, lk1, lk2, lk3, lkt⟩ := HC.out.lts
  have lbeA : ∀ k, be < Wa.heap.size + k := fun k => by omega
  have lbeB : ∀ k j, be < Wa.heap.size + k + j := fun k j => by omega
  have lk0A : ∀ k, k0 < Wa.heap.size + k := fun k => by omega
  have lk0B : ∀ k j, k0 < Wa.heap.size + k + j := fun k j => by omega
  have lk1A : ∀ k, k1 < Wa.heap.size + k := fun k => by omega
  have lk1B : ∀ k j, k1 < Wa.heap.size + k + j := fun k j => by omega
  have lk2A : ∀ k, k2 < Wa.heap.size + k := fun k => by omega
  have lk2B : ∀ k j, k2 < Wa.heap.size + k + j := fun k j => by omega
  have lk3A : ∀ k, k3 < Wa.heap.size + k := fun k => by omega
  have lk3B : ∀ k j, k3 < Wa.heap.size + k + j := fun k j => by omega
  have lktA : ∀ k, kt < Wa.heap.size + k := fun k => by omega
  have lktB : ∀ k j, kt < Wa.heap.size + k + j := fun k j => by omega
  have hBD : ∀ i, Wa.cell? ⟨dd, i, none⟩ = (#[.bool false, .bool false, .bool false, .bool false] : Array Value)[i]? := fun i => blk_cell BD.out i
  have ltBD := blk_lt BD.out
  have ltBDA : ∀ k, dd < Wa.heap.size + k := fun k => by omega
  have ltBDB : ∀ k j, dd < Wa.heap.size + k + j := fun k j => by omega
  have hBU : ∀ i, Wa.cell? ⟨w.heap.size, i, none⟩ = (#[.string ⟨#[]⟩, .slice (some ⟨bn, 0, none⟩) 4 4, .slice (some ⟨bl, 0, none⟩) 1 1, .slice none 0 0, .slice none 0 0, .slice none 0 0, .slice none 0 0, .slice none 0 0, .slice none 0 0, .slice none 0 0] : Array Value)[i]? := fun i => blk_cell BU.out i
  have ltBU := blk_lt BU.out
  have ltBUA : ∀ k, w.heap.size < Wa.heap.size + k := fun k => by omega
  have ltBUB : ∀ k j, w.heap.size < Wa.heap.size + k + j := fun k j => by omega
  have hBC : ∀ i, Wa.cell? ⟨(w.heap.size + 1), i, none⟩ = (#[.slice (some ⟨be, 0, none⟩) 4 4, .slice (some ⟨kt, 0, none⟩) 1 1] : Array Value)[i]? := fun i => blk_cell BC.out i
  have ltBC := blk_lt BC.out
  have ltBCA : ∀ k, (w.heap.size + 1) < Wa.heap.size + k := fun k => by omega
  have ltBCB : ∀ k j, (w.heap.size + 1) < Wa.heap.size + k + j := fun k j => by omega
  go_wp2_with fail
  clear hN hL h0 h1 h1' h2 hln hln' lbn lbl ln0 ln1 ln2 lln lbnA lbnB lblA lblB ln0A ln0B ln1A ln1B ln2A ln2B llnA llnB hE q0 q1 q1' q2 q3 qt lbe lk0 lk1 lk2 lk3 lkt lbeA lbeB lk0A lk0B lk1A lk1B lk2A lk2B lk3A lk3B lktA lktB hBD ltBD ltBDA ltBDB hBU ltBU ltBUA ltBUB hBC ltBC ltBCA ltBCB
  refine (fits_calls bn bl n0 n1 n2 ln mx _ HU.out be k0 k1 k2 k3 kt cb ch cl cd ce ct HC.out HLOW.out dd).mono ?_
  rintro e w2 ⟨rfl, hb⟩
  replace HB := Aside0.mk (below_step HB.out hb)
  replace HU := Aside0.mk (HU.out.below hb)
  replace HC := Aside0.mk (HC.out.below hb)
  replace BD := Aside0.mk (blk_below BD.out hb)
  replace BU := Aside0.mk (blk_below BU.out hb)
  replace BC := Aside0.mk (blk_below BC.out hb)
  clear hb
  obtain ⟨hN, hL, h0, h1, h1', h2, hln, hln'⟩ := HU.out.reads
  obtain ⟨lbn, lbl, ln0, ln1, ln2, lln⟩ := HU.out.lts
  have lbnA : ∀ k, bn < w2.heap.size + k := fun k => by omega
  have lbnB : ∀ k j, bn < w2.heap.size + k + j := fun k j => by omega
  have lblA : ∀ k, bl < w2.heap.size + k := fun k => by omega
  have lblB : ∀ k j, bl < w2.heap.size + k + j := fun k j => by omega
  have ln0A : ∀ k, n0 < w2.heap.size + k := fun k => by omega
  have ln0B : ∀ k j, n0 < w2.heap.size + k + j := fun k j => by omega
  have ln1A : ∀ k, n1 < w2.heap.size + k := fun k => by omega
  have ln1B : ∀ k j, n1 < w2.heap.size + k + j := fun k j => by omega
  have ln2A : ∀ k, n2 < w2.heap.size + k := fun k => by omega
  have ln2B : ∀ k j, n2 < w2.heap.size + k + j := fun k j => by omega
  have llnA : ∀ k, ln < w2.heap.size + k := fun k => by omega
  have llnB : ∀ k j, ln < w2.heap.size + k + j := fun k j => by omega
  obtain ⟨hE, q0, q1, q1', q2, q3, qt⟩ := HC.out.reads
  obtain ⟨lbe, lk0, lk1, lk2, lk3, lkt⟩ := HC.out.lts
  have lbeA : ∀ k, be < w2.heap.size + k := fun k => by omega
  have lbeB : ∀ k j, be < w2.heap.size + k + j := fun k j => by omega
  have lk0A : ∀ k, k0 < w2.heap.size + k := fun k => by omega
  have lk0B : ∀ k j, k0 < w2.heap.size + k + j := fun k j => by omega
  have lk1A : ∀ k, k1 < w2.heap.size + k := fun k => by omega
  have lk1B : ∀ k j, k1 < w2.heap.size + k + j := fun k j => by omega
  have lk2A : ∀ k, k2 < w2.heap.size + k := fun k => by omega
  have lk2B : ∀ k j, k2 < w2.heap.size + k + j := fun k j => by omega
  have lk3A : ∀ k, k3 < w2.heap.size + k := fun k => by omega
  have lk3B : ∀ k j, k3 < w2.heap.size + k + j := fun k j => by omega
  have lktA : ∀ k, kt < w2.heap.size + k := fun k => by omega
  have lktB : ∀ k j, kt < w2.heap.size + k + j := fun k j => by omega
  have hBD : ∀ i, w2.cell? ⟨dd, i, none⟩ = (#[.bool false, .bool false, .bool false, .bool false] : Array Value)[i]? := fun i => blk_cell BD.out i
  have ltBD := blk_lt BD.out
  have ltBDA : ∀ k, dd < w2.heap.size + k := fun k => by omega
  have ltBDB : ∀ k j, dd < w2.heap.size + k + j := fun k j => by omega
  have hBU : ∀ i, w2.cell? ⟨w.heap.size, i, none⟩ = (#[.string ⟨#[]⟩, .slice (some ⟨bn, 0, none⟩) 4 4, .slice (some ⟨bl, 0, none⟩) 1 1, .slice none 0 0, .slice none 0 0, .slice none 0 0, .slice none 0 0, .slice none 0 0, .slice none 0 0, .slice none 0 0] : Array Value)[i]? := fun i => blk_cell BU.out i
  have ltBU := blk_lt BU.out
  have ltBUA : ∀ k, w.heap.size < w2.heap.size + k := fun k => by omega
  have ltBUB : ∀ k j, w.heap.size < w2.heap.size + k + j := fun k j => by omega
  have hBC : ∀ i, w2.cell? ⟨(w.heap.size + 1), i, none⟩ = (#[.slice (some ⟨be, 0, none⟩) 4 4, .slice (some ⟨kt, 0, none⟩) 1 1] : Array Value)[i]? := fun i => blk_cell BC.out i
  have ltBC := blk_lt BC.out
  have ltBCA : ∀ k, (w.heap.size + 1) < w2.heap.size + k := fun k => by omega
  have ltBCB : ∀ k j, (w.heap.size + 1) < w2.heap.size + k + j := fun k j => by omega
  go_wp2_with fail
  clear hN hL h0 h1 h1' h2 hln hln' lbn lbl ln0 ln1 ln2 lln lbnA lbnB lblA lblB ln0A ln0B ln1A ln1B ln2A ln2B llnA llnB hE q0 q1 q1' q2 q3 qt lbe lk0 lk1 lk2 lk3 lkt lbeA lbeB lk0A lk0B lk1A lk1B lk2A lk2B lk3A lk3B lktA lktB hBD ltBD ltBDA ltBDB hBU ltBU ltBUA ltBUB hBC ltBC ltBCA ltBCB
  refine (prices_none bn bl n0 n1 n2 ln mx _ HU.out be k0 k1 k2 k3 kt cb ch cl cd ce ct HC.out HLOW.out dd BD.out).mono ?_
  rintro e w3 ⟨bo, br, rfl, hBo, hb⟩
  replace HB := Aside0.mk (below_step HB.out hb)
  replace HU := Aside0.mk (HU.out.below hb)
  replace HC := Aside0.mk (HC.out.below hb)
  replace BD := Aside0.mk (blk_below BD.out hb)
  replace BU := Aside0.mk (blk_below BU.out hb)
  replace BC := Aside0.mk (blk_below BC.out hb)
  clear hb
  have BO := Aside0.mk hBo
  clear hBo
  obtain ⟨hN, hL, h0, h1, h1', h2, hln, hln'⟩ := HU.out.reads
  obtain ⟨lbn, lbl, ln0, ln1, ln2, lln⟩ := HU.out.lts
  have lbnA : ∀ k, bn < w3.heap.size + k := fun k => by omega
  have lbnB : ∀ k j, bn < w3.heap.size + k + j := fun k j => by omega
  have lblA : ∀ k, bl < w3.heap.size + k := fun k => by omega
  have lblB : ∀ k j, bl < w3.heap.size + k + j := fun k j => by omega
  have ln0A : ∀ k, n0 < w3.heap.size + k := fun k => by omega
  have ln0B : ∀ k j, n0 < w3.heap.size + k + j := fun k j => by omega
  have ln1A : ∀ k, n1 < w3.heap.size + k := fun k => by omega
  have ln1B : ∀ k j, n1 < w3.heap.size + k + j := fun k j => by omega
  have ln2A : ∀ k, n2 < w3.heap.size + k := fun k => by omega
  have ln2B : ∀ k j, n2 < w3.heap.size + k + j := fun k j => by omega
  have llnA : ∀ k, ln < w3.heap.size + k := fun k => by omega
  have llnB : ∀ k j, ln < w3.heap.size + k + j := fun k j => by omega
  obtain ⟨hE, q0, q1, q1', q2, q3, qt⟩ := HC.out.reads
  obtain ⟨lbe, lk0, lk1, lk2, lk3, lkt⟩ := HC.out.lts
  have lbeA : ∀ k, be < w3.heap.size + k := fun k => by omega
  have lbeB : ∀ k j, be < w3.heap.size + k + j := fun k j => by omega
  have lk0A : ∀ k, k0 < w3.heap.size + k := fun k => by omega
  have lk0B : ∀ k j, k0 < w3.heap.size + k + j := fun k j => by omega
  have lk1A : ∀ k, k1 < w3.heap.size + k := fun k => by omega
  have lk1B : ∀ k j, k1 < w3.heap.size + k + j := fun k j => by omega
  have lk2A : ∀ k, k2 < w3.heap.size + k := fun k => by omega
  have lk2B : ∀ k j, k2 < w3.heap.size + k + j := fun k j => by omega
  have lk3A : ∀ k, k3 < w3.heap.size + k := fun k => by omega
  have lk3B : ∀ k j, k3 < w3.heap.size + k + j := fun k j => by omega
  have lktA : ∀ k, kt < w3.heap.size + k := fun k => by omega
  have lktB : ∀ k j, kt < w3.heap.size + k + j := fun k j => by omega
  have hBD : ∀ i, w3.cell? ⟨dd, i, none⟩ = (#[.bool false, .bool false, .bool false, .bool false] : Array Value)[i]? := fun i => blk_cell BD.out i
  have ltBD := blk_lt BD.out
  have ltBDA : ∀ k, dd < w3.heap.size + k := fun k => by omega
  have ltBDB : ∀ k j, dd < w3.heap.size + k + j := fun k j => by omega
  have hBU : ∀ i, w3.cell? ⟨w.heap.size, i, none⟩ = (#[.string ⟨#[]⟩, .slice (some ⟨bn, 0, none⟩) 4 4, .slice (some ⟨bl, 0, none⟩) 1 1, .slice none 0 0, .slice none 0 0, .slice none 0 0, .slice none 0 0, .slice none 0 0, .slice none 0 0, .slice none 0 0] : Array Value)[i]? := fun i => blk_cell BU.out i
  have ltBU := blk_lt BU.out
  have ltBUA : ∀ k, w.heap.size < w3.heap.size + k := fun k => by omega
  have ltBUB : ∀ k j, w.heap.size < w3.heap.size + k + j := fun k j => by omega
  have hBC : ∀ i, w3.cell? ⟨(w.heap.size + 1), i, none⟩ = (#[.slice (some ⟨be, 0, none⟩) 4 4, .slice (some ⟨kt, 0, none⟩) 1 1] : Array Value)[i]? := fun i => blk_cell BC.out i
  have ltBC := blk_lt BC.out
  have ltBCA : ∀ k, (w.heap.size + 1) < w3.heap.size + k := fun k => by omega
  have ltBCB : ∀ k j, (w.heap.size + 1) < w3.heap.size + k + j := fun k j => by omega
  have hBO : ∀ i, w3.cell? ⟨bo, i, none⟩ = (#[.int .i64 (ch + cd)] : Array Value)[i]? := fun i => blk_cell BO.out i
  have ltBO := blk_lt BO.out
  have ltBOA : ∀ k, bo < w3.heap.size + k := fun k => by omega
  have ltBOB : ∀ k j, bo < w3.heap.size + k + j := fun k j => by omega
  go_upto_region 4 with (fail)
  have hs0 : (∀ i, w3.drew.cell? ⟨w.heap.size, i, none⟩ = (#[.string ⟨#[]⟩, .slice (some ⟨bn, 0, none⟩) 4 4, .slice (some ⟨bl, 0, none⟩) 1 1, .slice none 0 0, .slice none 0 0, .slice none 0 0, .slice none 0 0, .slice none 0 0, .slice none 0 0, .slice none 0 0] : Array Value)[i]?) ∧ (∀ i, w3.drew.cell? ⟨w.heap.size + 1, i, none⟩ = (#[.slice (some ⟨be, 0, none⟩) 4 4, .slice (some ⟨kt, 0, none⟩) 1 1] : Array Value)[i]?) := ⟨fun i => blk_cell (blk_drew BU.out) i, fun i => blk_cell (blk_drew BC.out) i⟩
  have HPB : Aside0 (0 ≤ (ch + cd) ∧ (ch + cd) ≤ 510 ∧ 0 ≤ mx * (ch + cd) ∧ mx * (ch + cd) ≤ 16320) := ⟨by
    obtain ⟨⟨gcb, gcb'⟩, ⟨gch, gch'⟩, ⟨gcl, gcl'⟩, ⟨gcd, gcd'⟩, ⟨gce, gce'⟩, ⟨gct, gct'⟩, gmx, gmx'⟩ := HLOW.out
    have h1 : 0 ≤ (ch + cd) := by omega
    have h2 : (ch + cd) ≤ 510 := by omega
    exact ⟨h1, h2, Int.mul_nonneg gmx h1, Int.le_trans (Int.mul_le_mul gmx' h2 h1 (by decide)) (by decide)⟩⟩
  go_region_held3 (fun w' => (∀ i, w'.cell? ⟨w.heap.size, i, none⟩ = (#[.string ⟨#[]⟩, .slice (some ⟨bn, 0, none⟩) 4 4, .slice (some ⟨bl, 0, none⟩) 1 1, .slice none 0 0, .slice none 0 0, .slice none 0 0, .slice none 0 0, .slice none 0 0, .slice none 0 0, .slice none 0 0] : Array Value)[i]?) ∧ (∀ i, w'.cell? ⟨w.heap.size + 1, i, none⟩ = (#[.slice (some ⟨be, 0, none⟩) 4 4, .slice (some ⟨kt, 0, none⟩) 1 1] : Array Value)[i]?)) (first | with_reducible exact hs0 | with_reducible assumption) (first | (go_at_call 13; refine (edges_calls bn bl n0 n1 n2 ln mx _ (HU.out.below (by repeat (first | with_reducible exact Below.refl _ _ | apply below_alloc | apply pw_below_drewN | apply below_drew1))) be k0 k1 k2 k3 kt cb ch cl cd ce ct (HC.out.below (by repeat (first | with_reducible exact Below.refl _ _ | apply below_alloc | apply pw_below_drewN | apply below_drew1))) HLOW.out bo (ch + cd) (blk_below BO.out (by repeat (first | with_reducible exact Below.refl _ _ | apply below_alloc | apply pw_below_drewN | apply below_drew1))) HPB.out.1 HPB.out.2.1).mono ?_; rintro e w4 ⟨g1, c1, rfl, ho, hb⟩; have HE1 := Aside0.mk ho; clear ho; have HBn : Aside0 (Below w3.heap.size w3 w4) := ⟨below_step (by repeat (first | with_reducible exact Below.refl _ _ | apply below_alloc | apply pw_below_drewN | apply below_drew1)) hb⟩; replace hb := HBn.out; clear HBn; replace HB := Aside0.mk (below_step HB.out hb); replace HU := Aside0.mk (HU.out.below hb); replace HC := Aside0.mk (HC.out.below hb); replace BD := Aside0.mk (blk_below BD.out hb); replace BU := Aside0.mk (blk_below BU.out hb); replace BC := Aside0.mk (blk_below BC.out hb); replace BO := Aside0.mk (blk_below BO.out hb); clear hb; have hs : (∀ i, w4.cell? ⟨w.heap.size, i, none⟩ = (#[.string ⟨#[]⟩, .slice (some ⟨bn, 0, none⟩) 4 4, .slice (some ⟨bl, 0, none⟩) 1 1, .slice none 0 0, .slice none 0 0, .slice none 0 0, .slice none 0 0, .slice none 0 0, .slice none 0 0, .slice none 0 0] : Array Value)[i]?) ∧ (∀ i, w4.cell? ⟨w.heap.size + 1, i, none⟩ = (#[.slice (some ⟨be, 0, none⟩) 4 4, .slice (some ⟨kt, 0, none⟩) 1 1] : Array Value)[i]?) := ⟨fun i => blk_cell BU.out i, fun i => blk_cell BC.out i⟩) | (go_at_call 12; refine (pot_none bn bl n0 n1 n2 ln mx _ HU.out be k0 k1 k2 k3 kt cb ch cl cd ce ct HC.out HLOW.out dd BD.out _ g1 c1 (cb + (ct + mx * (ch + cd))) ch cl (cd - (ch + cd)) (by have h1 := HPB.out; have h2 := HLOW.out; unfold Low at h2; omega) (by have h1 := HPB.out; have h2 := HLOW.out; unfold Low at h2; omega) (by have h1 := HPB.out; have h2 := HLOW.out; unfold Low at h2; omega) (by have h1 := HPB.out; have h2 := HLOW.out; unfold Low at h2; omega) (by have h1 := HPB.out; have h2 := HLOW.out; unfold Low at h2; omega) (by have h1 := HPB.out; have h2 := HLOW.out; unfold Low at h2; omega) (by have h1 := HPB.out; have h2 := HLOW.out; unfold Low at h2; omega) (by have h1 := HPB.out; have h2 := HLOW.out; unfold Low at h2; omega) (by have h1 := HPB.out; have h2 := HLOW.out; unfold Low at h2; omega) HE1.out).mono ?_; rintro e w5 ⟨qs, qk, SS, KK, rfl, hqs, hqk, hS0, hK0, hb⟩; have QS := Aside0.mk hqs; have QK := Aside0.mk hqk; have QSK := Aside0.mk (And.intro hS0 hK0); clear hqs hqk hS0 hK0; replace HB := Aside0.mk (below_step HB.out hb); replace HU := Aside0.mk (HU.out.below hb); replace HC := Aside0.mk (HC.out.below hb); replace BD := Aside0.mk (blk_below BD.out hb); replace BU := Aside0.mk (blk_below BU.out hb); replace BC := Aside0.mk (blk_below BC.out hb); replace BO := Aside0.mk (blk_below BO.out hb); clear hb; have hs : (∀ i, w5.cell? ⟨w.heap.size, i, none⟩ = (#[.string ⟨#[]⟩, .slice (some ⟨bn, 0, none⟩) 4 4, .slice (some ⟨bl, 0, none⟩) 1 1, .slice none 0 0, .slice none 0 0, .slice none 0 0, .slice none 0 0, .slice none 0 0, .slice none 0 0, .slice none 0 0] : Array Value)[i]?) ∧ (∀ i, w5.cell? ⟨w.heap.size + 1, i, none⟩ = (#[.slice (some ⟨be, 0, none⟩) 4 4, .slice (some ⟨kt, 0, none⟩) 1 1] : Array Value)[i]?) := ⟨fun i => blk_cell BU.out i, fun i => blk_cell BC.out i⟩) | fail)
  clear hs0
  clear hN hL h0 h1 h1' h2 hln hln' lbn lbl ln0 ln1 ln2 lln lbnA lbnB lblA lblB ln0A ln0B ln1A ln1B ln2A ln2B llnA llnB hE q0 q1 q1' q2 q3 qt lbe lk0 lk1 lk2 lk3 lkt lbeA lbeB lk0A lk0B lk1A lk1B lk2A lk2B lk3A lk3B lktA lktB hBD ltBD ltBDA ltBDB hBU ltBU ltBUA ltBUB hBC ltBC ltBCA ltBCB hBO ltBO ltBOA ltBOB
  go_wp2_with fail
  go_ret3
  exact ⟨qs, qk, SS, KK, rfl, QS.out, QK.out, QSK.out.1, QSK.out.2, HB.out⟩
set_option maxHeartbeats 8000000 in
set_option maxRecDepth 100000 in
theorem cost_none (bn bl n0 n1 n2 ln : Nat) (mx : Int) (w : World) (hU : UnitW w bn bl n0 n1 n2 ln mx) (be k0 k1 k2 k3 kt : Nat) (cb ch cl cd ce ct : Int) (hC : CostW w be k0 k1 k2 k3 kt cb ch cl cd ce ct) (hlow : Low cb ch cl cd ce ct mx) (dd : Nat) (hD : Blk w dd #[.bool false, .bool false, .bool false, .bool false] 4) :
    Calls Try.prog 5 #[UV bn bl, CV be kt, .slice (some ⟨dd, 0, none⟩) 4 4] w fun e w' => e = .returned (.tuple #[.int .i64 (cl + (cb + (ct + mx * (ch + cd))) + ce), .bool true]) ∧ Below w.heap.size w w' := by
  have hu32 := Try.underlying32
  have hu34 := Try.underlying34
  have hu38 := Try.underlying38
  have hu46 := Try.underlying46
  have hu71 := Try.underlying71
  have hu74 := Try.underlying74
  have HLOW := Aside0.mk hlow
  have BD := Aside0.mk hD
  clear hD hlow
  have HU := Aside0.mk hU
  have HC := Aside0.mk hC
  have HB : Aside0 (Below w.heap.size w w) := ⟨Below.refl _ _⟩
  clear hU hC
  go_enter Try.func5, Try.ntmps5
  go_upto_region 1 with (fail)
  have hb : Below w.heap.size w ((w.alloc (.cells #[.string ⟨#[]⟩, .slice (some ⟨bn, 0, none⟩) 4 4, .slice (some ⟨bl, 0, none⟩) 1 1, .slice none 0 0, .slice none 0 0, .slice none 0 0, .slice none 0 0, .slice none 0 0, .slice none 0 0, .slice none 0 0] 32)).alloc (.cells #[.slice (some ⟨be, 0, none⟩) 4 4, .slice (some ⟨kt, 0, none⟩) 1 1] 34)) := (by repeat (first | with_reducible exact Below.refl _ _ | apply below_alloc | apply pw_below_drewN | apply below_drew1))
  have BU : Aside0 (Blk ((w.alloc (.cells #[.string ⟨#[]⟩, .slice (some ⟨bn, 0, none⟩) 4 4, .slice (some ⟨bl, 0, none⟩) 1 1, .slice none 0 0, .slice none 0 0, .slice none 0 0, .slice none 0 0, .slice none 0 0, .slice none 0 0, .slice none 0 0] 32)).alloc (.cells #[.slice (some ⟨be, 0, none⟩) 4 4, .slice (some ⟨kt, 0, none⟩) 1 1] 34)) w.heap.size #[.string ⟨#[]⟩, .slice (some ⟨bn, 0, none⟩) 4 4, .slice (some ⟨bl, 0, none⟩) 1 1, .slice none 0 0, .slice none 0 0, .slice none 0 0, .slice none 0 0, .slice none 0 0, .slice none 0 0, .slice none 0 0] 32) := ⟨(by (repeat (first | with_reducible exact heap_alloc_new _ _ | with_reducible exact heap_alloc2_new _ _ _ | with_reducible exact blk_at3 _ _ _ _ | with_reducible exact blk_at4 _ _ _ _ _ | refine blk_alloc ?_ _)))⟩
  have BC : Aside0 (Blk ((w.alloc (.cells #[.string ⟨#[]⟩, .slice (some ⟨bn, 0, none⟩) 4 4, .slice (some ⟨bl, 0, none⟩) 1 1, .slice none 0 0, .slice none 0 0, .slice none 0 0, .slice none 0 0, .slice none 0 0, .slice none 0 0, .slice none 0 0] 32)).alloc (.cells #[.slice (some ⟨be, 0, none⟩) 4 4, .slice (some ⟨kt, 0, none⟩) 1 1] 34)) (w.heap.size + 1) #[.slice (some ⟨be, 0, none⟩) 4 4, .slice (some ⟨kt, 0, none⟩) 1 1] 34) := ⟨(by (repeat (first | with_reducible exact heap_alloc_new _ _ | with_reducible exact heap_alloc2_new _ _ _ | with_reducible exact blk_at3 _ _ _ _ | with_reducible exact blk_at4 _ _ _ _ _ | refine blk_alloc ?_ _)))⟩
  replace HB := Aside0.mk (below_step HB.out hb)
  replace HU := Aside0.mk (HU.out.below hb)
  replace HC := Aside0.mk (HC.out.below hb)
  replace BD := Aside0.mk (blk_below BD.out hb)
  clear hb
  generalize ((w.alloc (.cells #[.string ⟨#[]⟩, .slice (some ⟨bn, 0, none⟩) 4 4, .slice (some ⟨bl, 0, none⟩) 1 1, .slice none 0 0, .slice none 0 0, .slice none 0 0, .slice none 0 0, .slice none 0 0, .slice none 0 0, .slice none 0 0] 32)).alloc (.cells #[.slice (some ⟨be, 0, none⟩) 4 4, .slice (some ⟨kt, 0, none⟩) 1 1] 34)) = Wa at HU HC HB BD BU BC ⊢
  obtain ⟨hN, hL, h0, h1, h1', h2, hln, hln'⟩ := HU.out.reads
  obtain ⟨lbn, lbl, ln0, ln1, ln2, lln⟩ := HU.out.lts
  have lbnA : ∀ k, bn < Wa.heap.size + k := fun k => by omega
  have lbnB : ∀ k j, bn < Wa.heap.size + k + j := fun k j => by omega
  have lblA : ∀ k, bl < Wa.heap.size + k := fun k => by omega
  have lblB : ∀ k j, bl < Wa.heap.size + k + j := fun k j => by omega
  have ln0A : ∀ k, n0 < Wa.heap.size + k := fun k => by omega
  have ln0B : ∀ k j, n0 < Wa.heap.size + k + j := fun k j => by omega
  have ln1A : ∀ k, n1 < Wa.heap.size + k := fun k => by omega
  have ln1B : ∀ k j, n1 < Wa.heap.size + k + j := fun k j => by omega
  have ln2A : ∀ k, n2 < Wa.heap.size + k := fun k => by omega
  have ln2B : ∀ k j, n2 < Wa.heap.size + k + j := fun k j => by omega
  have llnA : ∀ k, ln < Wa.heap.size + k := fun k => by omega
  have llnB : ∀ k j, ln < Wa.heap.size + k + j := fun k j => by omega
  obtain ⟨hE, q0, q1, q1', q2, q3, qt⟩ := HC.out.reads
  obtain ⟨lbe, lk0, lk1, lk2, lk3, lkt⟩ := HC.out.lts
  have lbeA : ∀ k, be < Wa.heap.size + k := fun k => by omega
  have lbeB : ∀ k j, be < Wa.heap.size + k + j := fun k j => by omega
  have lk0A : ∀ k, k0 < Wa.heap.size + k := fun k => by omega
  have lk0B : ∀ k j, k0 < Wa.heap.size + k + j := fun k j => by omega
  have lk1A : ∀ k, k1 < Wa.heap.size + k := fun k => by omega
  have lk1B : ∀ k j, k1 < Wa.heap.size + k + j := fun k j => by omega
  have lk2A : ∀ k, k2 < Wa.heap.size + k := fun k => by omega
  have lk2B : ∀ k j, k2 < Wa.heap.size + k + j := fun k j => by omega
  have lk3A : ∀ k, k3 < Wa.heap.size + k := fun k => by omega
  have lk3B : ∀ k j, k3 < Wa.heap.size + k + j := fun k j => by omega
  have lktA : ∀ k, kt < Wa.heap.size + k := fun k => by omega
  have lktB : ∀ k j, kt < Wa.heap.size + k + j := fun k j => by omega
  have hBD : ∀ i, Wa.cell? ⟨dd, i, none⟩ = (#[.bool false, .bool false, .bool false, .bool false] : Array Value)[i]? := fun i => blk_cell BD.out i
  have ltBD := blk_lt BD.out
  have ltBDA : ∀ k, dd < Wa.heap.size + k := fun k => by omega
  have ltBDB : ∀ k j, dd < Wa.heap.size + k + j := fun k j => by omega
  have hBU : ∀ i, Wa.cell? ⟨w.heap.size, i, none⟩ = (#[.string ⟨#[]⟩, .slice (some ⟨bn, 0, none⟩) 4 4, .slice (some ⟨bl, 0, none⟩) 1 1, .slice none 0 0, .slice none 0 0, .slice none 0 0, .slice none 0 0, .slice none 0 0, .slice none 0 0, .slice none 0 0] : Array Value)[i]? := fun i => blk_cell BU.out i
  have ltBU := blk_lt BU.out
  have ltBUA : ∀ k, w.heap.size < Wa.heap.size + k := fun k => by omega
  have ltBUB : ∀ k j, w.heap.size < Wa.heap.size + k + j := fun k j => by omega
  have hBC : ∀ i, Wa.cell? ⟨(w.heap.size + 1), i, none⟩ = (#[.slice (some ⟨be, 0, none⟩) 4 4, .slice (some ⟨kt, 0, none⟩) 1 1] : Array Value)[i]? := fun i => blk_cell BC.out i
  have ltBC := blk_lt BC.out
  have ltBCA : ∀ k, (w.heap.size + 1) < Wa.heap.size + k := fun k => by omega
  have ltBCB : ∀ k j, (w.heap.size + 1) < Wa.heap.size + k + j := fun k j => by omega
  go_wp2_with fail
  clear hN hL h0 h1 h1' h2 hln hln' lbn lbl ln0 ln1 ln2 lln lbnA lbnB lblA lblB ln0A ln0B ln1A ln1B ln2A ln2B llnA llnB hE q0 q1 q1' q2 q3 qt lbe lk0 lk1 lk2 lk3 lkt lbeA lbeB lk0A lk0B lk1A lk1B lk2A lk2B lk3A lk3B lktA lktB hBD ltBD ltBDA ltBDB hBU ltBU ltBUA ltBUB hBC ltBC ltBCA ltBCB
  refine (pots_none bn bl n0 n1 n2 ln mx _ HU.out be k0 k1 k2 k3 kt cb ch cl cd ce ct HC.out HLOW.out dd BD.out).mono ?_
  rintro e w2 ⟨qs, qk, SS, KK, rfl, hqs, hqk, hS0, hK0, hb⟩
  replace HB := Aside0.mk (below_step HB.out hb)
  replace HU := Aside0.mk (HU.out.below hb)
  replace HC := Aside0.mk (HC.out.below hb)
  replace BD := Aside0.mk (blk_below BD.out hb)
  replace BU := Aside0.mk (blk_below BU.out hb)
  replace BC := Aside0.mk (blk_below BC.out hb)
  clear hb
  have hq0 : w2.cell? ⟨qs, 0, none⟩ = some (.int .i64 (cl + (cb + (ct + mx * (ch + cd))) + ce)) := (blk_cell hqs 0).trans hS0
  have hk0 : w2.cell? ⟨qk, 0, none⟩ = some (.bool true) := (blk_cell hqk 0).trans hK0
  clear hqs hqk hS0 hK0
  obtain ⟨hN, hL, h0, h1, h1', h2, hln, hln'⟩ := HU.out.reads
  obtain ⟨lbn, lbl, ln0, ln1, ln2, lln⟩ := HU.out.lts
  have lbnA : ∀ k, bn < w2.heap.size + k := fun k => by omega
  have lbnB : ∀ k j, bn < w2.heap.size + k + j := fun k j => by omega
  have lblA : ∀ k, bl < w2.heap.size + k := fun k => by omega
  have lblB : ∀ k j, bl < w2.heap.size + k + j := fun k j => by omega
  have ln0A : ∀ k, n0 < w2.heap.size + k := fun k => by omega
  have ln0B : ∀ k j, n0 < w2.heap.size + k + j := fun k j => by omega
  have ln1A : ∀ k, n1 < w2.heap.size + k := fun k => by omega
  have ln1B : ∀ k j, n1 < w2.heap.size + k + j := fun k j => by omega
  have ln2A : ∀ k, n2 < w2.heap.size + k := fun k => by omega
  have ln2B : ∀ k j, n2 < w2.heap.size + k + j := fun k j => by omega
  have llnA : ∀ k, ln < w2.heap.size + k := fun k => by omega
  have llnB : ∀ k j, ln < w2.heap.size + k + j := fun k j => by omega
  obtain ⟨hE, q0, q1, q1', q2, q3, qt⟩ := HC.out.reads
  obtain ⟨lbe, lk0, lk1, lk2, lk3, lkt⟩ := HC.out.lts
  have lbeA : ∀ k, be < w2.heap.size + k := fun k => by omega
  have lbeB : ∀ k j, be < w2.heap.size + k + j := fun k j => by omega
  have lk0A : ∀ k, k0 < w2.heap.size + k := fun k => by omega
  have lk0B : ∀ k j, k0 < w2.heap.size + k + j := fun k j => by omega
  have lk1A : ∀ k, k1 < w2.heap.size + k := fun k => by omega
  have lk1B : ∀ k j, k1 < w2.heap.size + k + j := fun k j => by omega
  have lk2A : ∀ k, k2 < w2.heap.size + k := fun k => by omega
  have lk2B : ∀ k j, k2 < w2.heap.size + k + j := fun k j => by omega
  have lk3A : ∀ k, k3 < w2.heap.size + k := fun k => by omega
  have lk3B : ∀ k j, k3 < w2.heap.size + k + j := fun k j => by omega
  have lktA : ∀ k, kt < w2.heap.size + k := fun k => by omega
  have lktB : ∀ k j, kt < w2.heap.size + k + j := fun k j => by omega
  have hBD : ∀ i, w2.cell? ⟨dd, i, none⟩ = (#[.bool false, .bool false, .bool false, .bool false] : Array Value)[i]? := fun i => blk_cell BD.out i
  have ltBD := blk_lt BD.out
  have ltBDA : ∀ k, dd < w2.heap.size + k := fun k => by omega
  have ltBDB : ∀ k j, dd < w2.heap.size + k + j := fun k j => by omega
  have hBU : ∀ i, w2.cell? ⟨w.heap.size, i, none⟩ = (#[.string ⟨#[]⟩, .slice (some ⟨bn, 0, none⟩) 4 4, .slice (some ⟨bl, 0, none⟩) 1 1, .slice none 0 0, .slice none 0 0, .slice none 0 0, .slice none 0 0, .slice none 0 0, .slice none 0 0, .slice none 0 0] : Array Value)[i]? := fun i => blk_cell BU.out i
  have ltBU := blk_lt BU.out
  have ltBUA : ∀ k, w.heap.size < w2.heap.size + k := fun k => by omega
  have ltBUB : ∀ k j, w.heap.size < w2.heap.size + k + j := fun k j => by omega
  have hBC : ∀ i, w2.cell? ⟨(w.heap.size + 1), i, none⟩ = (#[.slice (some ⟨be, 0, none⟩) 4 4, .slice (some ⟨kt, 0, none⟩) 1 1] : Array Value)[i]? := fun i => blk_cell BC.out i
  have ltBC := blk_lt BC.out
  have ltBCA : ∀ k, (w.heap.size + 1) < w2.heap.size + k := fun k => by omega
  have ltBCB : ∀ k j, (w.heap.size + 1) < w2.heap.size + k + j := fun k j => by omega
  go_wp2_with fail
  go_ret2
  exact ⟨rfl, HB.out⟩
set_option maxHeartbeats 8000000 in
set_option maxRecDepth 100000 in
theorem pots_two (bn bl n0 n1 n2 ln : Nat) (mx : Int) (w : World) (hU : UnitW w bn bl n0 n1 n2 ln mx) (be k0 k1 k2 k3 kt : Nat) (cb ch cl cd ce ct : Int) (hC : CostW w be k0 k1 k2 k3 kt cb ch cl cd ce ct) (hlow : Low cb ch cl cd ce ct mx) (dd : Nat) (hD : Blk w dd #[.bool false, .bool false, .bool true, .bool false] 4) :
    Calls Try.prog 7 #[UV bn bl, CV be kt, .slice (some ⟨dd, 0, none⟩) 4 4] w fun e w' => ∃ qs qk SS KK, e = .returned (.tuple #[.slice (some ⟨qs, 0, none⟩) 4 4, .slice (some ⟨qk, 0, none⟩) 4 4, .bool true]) ∧ Blk w' qs SS 3 ∧ Blk w' qk KK 4 ∧ SS[0]? = some (.int .i64 (cl + (cb + (ct + mx * 0)) + ce)) ∧ KK[0]? = some (.bool true) ∧ Below w.heap.size w w' := by
  have hu32 := Try.underlying32
  have hu34 := Try.underlying34
  have hu38 := Try.underlying38
  have hu46 := Try.underlying46
  have hu71 := Try.underlying71
  have hu74 := Try.underlying74
  have HLOW := Aside0.mk hlow
  have BD := Aside0.mk hD
  clear hD hlow
  have HU := Aside0.mk hU
  have HC := Aside0.mk hC
  have HB : Aside0 (Below w.heap.size w w) := ⟨Below.refl _ _⟩
  clear hU hC
  go_enter Try.func7, Try.ntmps7
  go_upto_region 1 with (fail)
  have hb : Below w.heap.size w ((w.alloc (.cells #[.string ⟨#[]⟩, .slice (some ⟨bn, 0, none⟩) 4 4, .slice (some ⟨bl, 0, none⟩) 1 1, .slice none 0 0, .slice none 0 0, .slice none 0 0, .slice none 0 0, .slice none 0 0, .slice none 0 0, .slice none 0 0] 32)).alloc (.cells #[.slice (some ⟨be, 0, none⟩) 4 4, .slice (some ⟨kt, 0, none⟩) 1 1] 34)) := (by repeat (first | with_reducible exact Below.refl _ _ | apply below_alloc | apply pw_below_drewN | apply below_drew1))
  have BU : Aside0 (Blk ((w.alloc (.cells #[.string ⟨#[]⟩, .slice (some ⟨bn, 0, none⟩) 4 4, .slice (some ⟨bl, 0, none⟩) 1 1, .slice none 0 0, .slice none 0 0, .slice none 0 0, .slice none 0 0, .slice none 0 0, .slice none 0 0, .slice none 0 0] 32)).alloc (.cells #[.slice (some ⟨be, 0, none⟩) 4 4, .slice (some ⟨kt, 0, none⟩) 1 1] 34)) w.heap.size #[.string ⟨#[]⟩, .slice (some ⟨bn, 0, none⟩) 4 4, .slice (some ⟨bl, 0, none⟩) 1 1, .slice none 0 0, .slice none 0 0, .slice none 0 0, .slice none 0 0, .slice none 0 0, .slice none 0 0, .slice none 0 0] 32) := ⟨(by (repeat (first | with_reducible exact heap_alloc_new _ _ | with_reducible exact heap_alloc2_new _ _ _ | with_reducible exact blk_at3 _ _ _ _ | with_reducible exact blk_at4 _ _ _ _ _ | refine blk_alloc ?_ _)))⟩
  have BC : Aside0 (Blk ((w.alloc (.cells #[.string ⟨#[]⟩, .slice (some ⟨bn, 0, none⟩) 4 4, .slice (some ⟨bl, 0, none⟩) 1 1, .slice none 0 0, .slice none 0 0, .slice none 0 0, .slice none 0 0, .slice none 0 0, .slice none 0 0, .slice none 0 0] 32)).alloc (.cells #[.slice (some ⟨be, 0, none⟩) 4 4, .slice (some ⟨kt, 0, none⟩) 1 1] 34)) (w.heap.size + 1) #[.slice (some ⟨be, 0, none⟩) 4 4, .slice (some ⟨kt, 0, none⟩) 1 1] 34) := ⟨(by (repeat (first | with_reducible exact heap_alloc_new _ _ | with_reducible exact heap_alloc2_new _ _ _ | with_reducible exact blk_at3 _ _ _ _ | with_reducible exact blk_at4 _ _ _ _ _ | refine blk_alloc ?_ _)))⟩
  replace HB := Aside0.mk (below_step HB.out hb)
  replace HU := Aside0.mk (HU.out.below hb)
  replace HC := Aside0.mk (HC.out.below hb)
  replace BD := Aside0.mk (blk_below BD.out hb)
  clear hb
  generalize ((w.alloc (.cells #[.string ⟨#[]⟩, .slice (some ⟨bn, 0, none⟩) 4 4, .slice (some ⟨bl, 0, none⟩) 1 1, .slice none 0 0, .slice none 0 0, .slice none 0 0, .slice none 0 0, .slice none 0 0, .slice none 0 0, .slice none 0 0] 32)).alloc (.cells #[.slice (some ⟨be, 0, none⟩) 4 4, .slice (some ⟨kt, 0, none⟩) 1 1] 34)) = Wa at HU HC HB BD BU BC ⊢
  obtain ⟨hN, hL, h0, h1, h1', h2, hln, hln'⟩ := HU.out.reads
  obtain ⟨lbn, lbl, ln0, ln1, ln2, lln⟩ := HU.out.lts
  have lbnA : ∀ k, bn < Wa.heap.size + k := fun k => by omega
  have lbnB : ∀ k j, bn < Wa.heap.size + k + j := fun k j => by omega
  have lblA : ∀ k, bl < Wa.heap.size + k := fun k => by omega
  have lblB : ∀ k j, bl < Wa.heap.size + k + j := fun k j => by omega
  have ln0A : ∀ k, n0 < Wa.heap.size + k := fun k => by omega
  have ln0B : ∀ k j, n0 < Wa.heap.size + k + j := fun k j => by omega
  have ln1A : ∀ k, n1 < Wa.heap.size + k := fun k => by omega
  have ln1B : ∀ k j, n1 < Wa.heap.size + k + j := fun k j => by omega
  have ln2A : ∀ k, n2 < Wa.heap.size + k := fun k => by omega
  have ln2B : ∀ k j, n2 < Wa.heap.size + k + j := fun k j => by omega
  have llnA : ∀ k, ln < Wa.heap.size + k := fun k => by omega
  have llnB : ∀ k j, ln < Wa.heap.size + k + j := fun k j => by omega
  obtain ⟨hE, q0, q1, q1', q2, q3, qt⟩ := HC.out.reads
  obtain ⟨lbe, lk0, lk1, lk2, lk3, lkt⟩ := HC.out.lts
  have lbeA : ∀ k, be < Wa.heap.size + k := fun k => by omega
  have lbeB : ∀ k j, be < Wa.heap.size + k + j := fun k j => by omega
  have lk0A : ∀ k, k0 < Wa.heap.size + k := fun k => by omega
  have lk0B : ∀ k j, k0 < Wa.heap.size + k + j := fun k j => by omega
  have lk1A : ∀ k, k1 < Wa.heap.size + k := fun k => by omega
  have lk1B : ∀ k j, k1 < Wa.heap.size + k + j := fun k j => by omega
  have lk2A : ∀ k, k2 < Wa.heap.size + k := fun k => by omega
  have lk2B : ∀ k j, k2 < Wa.heap.size + k + j := fun k j => by omega
  have lk3A : ∀ k, k3 < Wa.heap.size + k := fun k => by omega
  have lk3B : ∀ k j, k3 < Wa.heap.size + k + j := fun k j => by omega
  have lktA : ∀ k, kt < Wa.heap.size + k := fun k => by omega
  have lktB : ∀ k j, kt < Wa.heap.size + k + j := fun k j => by omega
  have hBD : ∀ i, Wa.cell? ⟨dd, i, none⟩ = (#[.bool false, .bool false, .bool true, .bool false] : Array Value)[i]? := fun i => blk_cell BD.out i
  have ltBD := blk_lt BD.out
  have ltBDA : ∀ k, dd < Wa.heap.size + k := fun k => by omega
  have ltBDB : ∀ k j, dd < Wa.heap.size + k + j := fun k j => by omega
  have hBU : ∀ i, Wa.cell? ⟨w.heap.size, i, none⟩ = (#[.string ⟨#[]⟩, .slice (some ⟨bn, 0, none⟩) 4 4, .slice (some ⟨bl, 0, none⟩) 1 1, .slice none 0 0, .slice none 0 0, .slice none 0 0, .slice none 0 0, .slice none 0 0, .slice none 0 0, .slice none 0 0] : Array Value)[i]? := fun i => blk_cell BU.out i
  have ltBU := blk_lt BU.out
  have ltBUA : ∀ k, w.heap.size < Wa.heap.size + k := fun k => by omega
  have ltBUB : ∀ k j, w.heap.size < Wa.heap.size + k + j := fun k j => by omega
  have hBC : ∀ i, Wa.cell? ⟨(w.heap.size + 1), i, none⟩ = (#[.slice (some ⟨be, 0, none⟩) 4 4, .slice (some ⟨kt, 0, none⟩) 1 1] : Array Value)[i]? := fun i => blk_cell BC.out i
  have ltBC := blk_lt BC.out
  have ltBCA : ∀ k, (w.heap.size + 1) < Wa.heap.size + k := fun k => by omega
  have ltBCB : ∀ k j, (w.heap.size + 1) < Wa.heap.size + k + j := fun k j => by omega
  go_wp2_with fail
  clear hN hL h0 h1 h1' h2 hln hln' lbn lbl ln0 ln1 ln2 lln lbnA lbnB lblA lblB ln0A ln0B ln1A ln1B ln2A ln2B llnA llnB hE q0 q1 q1' q2 q3 qt lbe lk0 lk1 lk2 lk3 lkt lbeA lbeB lk0A lk0B lk1A lk1B lk2A lk2B lk3A lk3B lktA lktB hBD ltBD ltBDA ltBDB hBU ltBU ltBUA ltBUB hBC ltBC ltBCA ltBCB
  refine (fits_calls bn bl n0 n1 n2 ln mx _ HU.out be k0 k1 k2 k3 kt cb ch cl cd ce ct HC.out HLOW.out dd).mono ?_
  rintro e w2 ⟨rfl, hb⟩
  replace HB := Aside0.mk (below_step HB.out hb)
  replace HU := Aside0.mk (HU.out.below hb)
  replace HC := Aside0.mk (HC.out.below hb)
  replace BD := Aside0.mk (blk_below BD.out hb)
  replace BU := Aside0.mk (blk_below BU.out hb)
  replace BC := Aside0.mk (blk_below BC.out hb)
  clear hb
  obtain ⟨hN, hL, h0, h1, h1', h2, hln, hln'⟩ := HU.out.reads
  obtain ⟨lbn, lbl, ln0, ln1, ln2, lln⟩ := HU.out.lts
  have lbnA : ∀ k, bn < w2.heap.size + k := fun k => by omega
  have lbnB : ∀ k j, bn < w2.heap.size + k + j := fun k j => by omega
  have lblA : ∀ k, bl < w2.heap.size + k := fun k => by omega
  have lblB : ∀ k j, bl < w2.heap.size + k + j := fun k j => by omega
  have ln0A : ∀ k, n0 < w2.heap.size + k := fun k => by omega
  have ln0B : ∀ k j, n0 < w2.heap.size + k + j := fun k j => by omega
  have ln1A : ∀ k, n1 < w2.heap.size + k := fun k => by omega
  have ln1B : ∀ k j, n1 < w2.heap.size + k + j := fun k j => by omega
  have ln2A : ∀ k, n2 < w2.heap.size + k := fun k => by omega
  have ln2B : ∀ k j, n2 < w2.heap.size + k + j := fun k j => by omega
  have llnA : ∀ k, ln < w2.heap.size + k := fun k => by omega
  have llnB : ∀ k j, ln < w2.heap.size + k + j := fun k j => by omega
  obtain ⟨hE, q0, q1, q1', q2, q3, qt⟩ := HC.out.reads
  obtain ⟨lbe, lk0, lk1, lk2, lk3, lkt⟩ := HC.out.lts
  have lbeA : ∀ k, be < w2.heap.size + k := fun k => by omega
  have lbeB : ∀ k j, be < w2.heap.size + k + j := fun k j => by omega
  have lk0A : ∀ k, k0 < w2.heap.size + k := fun k => by omega
  have lk0B : ∀ k j, k0 < w2.heap.size + k + j := fun k j => by omega
  have lk1A : ∀ k, k1 < w2.heap.size + k := fun k => by omega
  have lk1B : ∀ k j, k1 < w2.heap.size + k + j := fun k j => by omega
  have lk2A : ∀ k, k2 < w2.heap.size + k := fun k => by omega
  have lk2B : ∀ k j, k2 < w2.heap.size + k + j := fun k j => by omega
  have lk3A : ∀ k, k3 < w2.heap.size + k := fun k => by omega
  have lk3B : ∀ k j, k3 < w2.heap.size + k + j := fun k j => by omega
  have lktA : ∀ k, kt < w2.heap.size + k := fun k => by omega
  have lktB : ∀ k j, kt < w2.heap.size + k + j := fun k j => by omega
  have hBD : ∀ i, w2.cell? ⟨dd, i, none⟩ = (#[.bool false, .bool false, .bool true, .bool false] : Array Value)[i]? := fun i => blk_cell BD.out i
  have ltBD := blk_lt BD.out
  have ltBDA : ∀ k, dd < w2.heap.size + k := fun k => by omega
  have ltBDB : ∀ k j, dd < w2.heap.size + k + j := fun k j => by omega
  have hBU : ∀ i, w2.cell? ⟨w.heap.size, i, none⟩ = (#[.string ⟨#[]⟩, .slice (some ⟨bn, 0, none⟩) 4 4, .slice (some ⟨bl, 0, none⟩) 1 1, .slice none 0 0, .slice none 0 0, .slice none 0 0, .slice none 0 0, .slice none 0 0, .slice none 0 0, .slice none 0 0] : Array Value)[i]? := fun i => blk_cell BU.out i
  have ltBU := blk_lt BU.out
  have ltBUA : ∀ k, w.heap.size < w2.heap.size + k := fun k => by omega
  have ltBUB : ∀ k j, w.heap.size < w2.heap.size + k + j := fun k j => by omega
  have hBC : ∀ i, w2.cell? ⟨(w.heap.size + 1), i, none⟩ = (#[.slice (some ⟨be, 0, none⟩) 4 4, .slice (some ⟨kt, 0, none⟩) 1 1] : Array Value)[i]? := fun i => blk_cell BC.out i
  have ltBC := blk_lt BC.out
  have ltBCA : ∀ k, (w.heap.size + 1) < w2.heap.size + k := fun k => by omega
  have ltBCB : ∀ k j, (w.heap.size + 1) < w2.heap.size + k + j := fun k j => by omega
  go_wp2_with fail
  clear hN hL h0 h1 h1' h2 hln hln' lbn lbl ln0 ln1 ln2 lln lbnA lbnB lblA lblB ln0A ln0B ln1A ln1B ln2A ln2B llnA llnB hE q0 q1 q1' q2 q3 qt lbe lk0 lk1 lk2 lk3 lkt lbeA lbeB lk0A lk0B lk1A lk1B lk2A lk2B lk3A lk3B lktA lktB hBD ltBD ltBDA ltBDB hBU ltBU ltBUA ltBUB hBC ltBC ltBCA ltBCB
  refine (prices_two bn bl n0 n1 n2 ln mx _ HU.out be k0 k1 k2 k3 kt cb ch cl cd ce ct HC.out HLOW.out dd BD.out).mono ?_
  rintro e w3 ⟨bo, br, rfl, hBo, hb⟩
  replace HB := Aside0.mk (below_step HB.out hb)
  replace HU := Aside0.mk (HU.out.below hb)
  replace HC := Aside0.mk (HC.out.below hb)
  replace BD := Aside0.mk (blk_below BD.out hb)
  replace BU := Aside0.mk (blk_below BU.out hb)
  replace BC := Aside0.mk (blk_below BC.out hb)
  clear hb
  have BO := Aside0.mk hBo
  clear hBo
  obtain ⟨hN, hL, h0, h1, h1', h2, hln, hln'⟩ := HU.out.reads
  obtain ⟨lbn, lbl, ln0, ln1, ln2, lln⟩ := HU.out.lts
  have lbnA : ∀ k, bn < w3.heap.size + k := fun k => by omega
  have lbnB : ∀ k j, bn < w3.heap.size + k + j := fun k j => by omega
  have lblA : ∀ k, bl < w3.heap.size + k := fun k => by omega
  have lblB : ∀ k j, bl < w3.heap.size + k + j := fun k j => by omega
  have ln0A : ∀ k, n0 < w3.heap.size + k := fun k => by omega
  have ln0B : ∀ k j, n0 < w3.heap.size + k + j := fun k j => by omega
  have ln1A : ∀ k, n1 < w3.heap.size + k := fun k => by omega
  have ln1B : ∀ k j, n1 < w3.heap.size + k + j := fun k j => by omega
  have ln2A : ∀ k, n2 < w3.heap.size + k := fun k => by omega
  have ln2B : ∀ k j, n2 < w3.heap.size + k + j := fun k j => by omega
  have llnA : ∀ k, ln < w3.heap.size + k := fun k => by omega
  have llnB : ∀ k j, ln < w3.heap.size + k + j := fun k j => by omega
  obtain ⟨hE, q0, q1, q1', q2, q3, qt⟩ := HC.out.reads
  obtain ⟨lbe, lk0, lk1, lk2, lk3, lkt⟩ := HC.out.lts
  have lbeA : ∀ k, be < w3.heap.size + k := fun k => by omega
  have lbeB : ∀ k j, be < w3.heap.size + k + j := fun k j => by omega
  have lk0A : ∀ k, k0 < w3.heap.size + k := fun k => by omega
  have lk0B : ∀ k j, k0 < w3.heap.size + k + j := fun k j => by omega
  have lk1A : ∀ k, k1 < w3.heap.size + k := fun k => by omega
  have lk1B : ∀ k j, k1 < w3.heap.size + k + j := fun k j => by omega
  have lk2A : ∀ k, k2 < w3.heap.size + k := fun k => by omega
  have lk2B : ∀ k j, k2 < w3.heap.size + k + j := fun k j => by omega
  have lk3A : ∀ k, k3 < w3.heap.size + k := fun k => by omega
  have lk3B : ∀ k j, k3 < w3.heap.size + k + j := fun k j => by omega
  have lktA : ∀ k, kt < w3.heap.size + k := fun k => by omega
  have lktB : ∀ k j, kt < w3.heap.size + k + j := fun k j => by omega
  have hBD : ∀ i, w3.cell? ⟨dd, i, none⟩ = (#[.bool false, .bool false, .bool true, .bool false] : Array Value)[i]? := fun i => blk_cell BD.out i
  have ltBD := blk_lt BD.out
  have ltBDA : ∀ k, dd < w3.heap.size + k := fun k => by omega
  have ltBDB : ∀ k j, dd < w3.heap.size + k + j := fun k j => by omega
  have hBU : ∀ i, w3.cell? ⟨w.heap.size, i, none⟩ = (#[.string ⟨#[]⟩, .slice (some ⟨bn, 0, none⟩) 4 4, .slice (some ⟨bl, 0, none⟩) 1 1, .slice none 0 0, .slice none 0 0, .slice none 0 0, .slice none 0 0, .slice none 0 0, .slice none 0 0, .slice none 0 0] : Array Value)[i]? := fun i => blk_cell BU.out i
  have ltBU := blk_lt BU.out
  have ltBUA : ∀ k, w.heap.size < w3.heap.size + k := fun k => by omega
  have ltBUB : ∀ k j, w.heap.size < w3.heap.size + k + j := fun k j => by omega
  have hBC : ∀ i, w3.cell? ⟨(w.heap.size + 1), i, none⟩ = (#[.slice (some ⟨be, 0, none⟩) 4 4, .slice (some ⟨kt, 0, none⟩) 1 1] : Array Value)[i]? := fun i => blk_cell BC.out i
  have ltBC := blk_lt BC.out
  have ltBCA : ∀ k, (w.heap.size + 1) < w3.heap.size + k := fun k => by omega
  have ltBCB : ∀ k j, (w.heap.size + 1) < w3.heap.size + k + j := fun k j => by omega
  have hBO : ∀ i, w3.cell? ⟨bo, i, none⟩ = (#[.int .i64 0] : Array Value)[i]? := fun i => blk_cell BO.out i
  have ltBO := blk_lt BO.out
  have ltBOA : ∀ k, bo < w3.heap.size + k := fun k => by omega
  have ltBOB : ∀ k j, bo < w3.heap.size + k + j := fun k j => by omega
  go_upto_region 4 with (fail)
  have hs0 : (∀ i, w3.drew.cell? ⟨w.heap.size, i, none⟩ = (#[.string ⟨#[]⟩, .slice (some ⟨bn, 0, none⟩) 4 4, .slice (some ⟨bl, 0, none⟩) 1 1, .slice none 0 0, .slice none 0 0, .slice none 0 0, .slice none 0 0, .slice none 0 0, .slice none 0 0, .slice none 0 0] : Array Value)[i]?) ∧ (∀ i, w3.drew.cell? ⟨w.heap.size + 1, i, none⟩ = (#[.slice (some ⟨be, 0, none⟩) 4 4, .slice (some ⟨kt, 0, none⟩) 1 1] : Array Value)[i]?) := ⟨fun i => blk_cell (blk_drew BU.out) i, fun i => blk_cell (blk_drew BC.out) i⟩
  have HPB : Aside0 (0 ≤ (0 : Int) ∧ (0 : Int) ≤ 510 ∧ 0 ≤ mx * (0 : Int) ∧ mx * (0 : Int) ≤ 16320) := ⟨by
    obtain ⟨⟨gcb, gcb'⟩, ⟨gch, gch'⟩, ⟨gcl, gcl'⟩, ⟨gcd, gcd'⟩, ⟨gce, gce'⟩, ⟨gct, gct'⟩, gmx, gmx'⟩ := HLOW.out
    have h1 : 0 ≤ (0 : Int) := by omega
    have h2 : (0 : Int) ≤ 510 := by omega
    exact ⟨h1, h2, Int.mul_nonneg gmx h1, Int.le_trans (Int.mul_le_mul gmx' h2 h1 (by decide)) (by decide)⟩⟩
  go_region_held3 (fun w' => (∀ i, w'.cell? ⟨w.heap.size, i, none⟩ = (#[.string ⟨#[]⟩, .slice (some ⟨bn, 0, none⟩) 4 4, .slice (some ⟨bl, 0, none⟩) 1 1, .slice none 0 0, .slice none 0 0, .slice none 0 0, .slice none 0 0, .slice none 0 0, .slice none 0 0, .slice none 0 0] : Array Value)[i]?) ∧ (∀ i, w'.cell? ⟨w.heap.size + 1, i, none⟩ = (#[.slice (some ⟨be, 0, none⟩) 4 4, .slice (some ⟨kt, 0, none⟩) 1 1] : Array Value)[i]?)) (first | with_reducible exact hs0 | with_reducible assumption) (first | (go_at_call 13; refine (edges_calls bn bl n0 n1 n2 ln mx _ (HU.out.below (by repeat (first | with_reducible exact Below.refl _ _ | apply below_alloc | apply pw_below_drewN | apply below_drew1))) be k0 k1 k2 k3 kt cb ch cl cd ce ct (HC.out.below (by repeat (first | with_reducible exact Below.refl _ _ | apply below_alloc | apply pw_below_drewN | apply below_drew1))) HLOW.out bo (0 : Int) (blk_below BO.out (by repeat (first | with_reducible exact Below.refl _ _ | apply below_alloc | apply pw_below_drewN | apply below_drew1))) HPB.out.1 HPB.out.2.1).mono ?_; rintro e w4 ⟨g1, c1, rfl, ho, hb⟩; have HE1 := Aside0.mk ho; clear ho; have HBn : Aside0 (Below w3.heap.size w3 w4) := ⟨below_step (by repeat (first | with_reducible exact Below.refl _ _ | apply below_alloc | apply pw_below_drewN | apply below_drew1)) hb⟩; replace hb := HBn.out; clear HBn; replace HB := Aside0.mk (below_step HB.out hb); replace HU := Aside0.mk (HU.out.below hb); replace HC := Aside0.mk (HC.out.below hb); replace BD := Aside0.mk (blk_below BD.out hb); replace BU := Aside0.mk (blk_below BU.out hb); replace BC := Aside0.mk (blk_below BC.out hb); replace BO := Aside0.mk (blk_below BO.out hb); clear hb; have hs : (∀ i, w4.cell? ⟨w.heap.size, i, none⟩ = (#[.string ⟨#[]⟩, .slice (some ⟨bn, 0, none⟩) 4 4, .slice (some ⟨bl, 0, none⟩) 1 1, .slice none 0 0, .slice none 0 0, .slice none 0 0, .slice none 0 0, .slice none 0 0, .slice none 0 0, .slice none 0 0] : Array Value)[i]?) ∧ (∀ i, w4.cell? ⟨w.heap.size + 1, i, none⟩ = (#[.slice (some ⟨be, 0, none⟩) 4 4, .slice (some ⟨kt, 0, none⟩) 1 1] : Array Value)[i]?) := ⟨fun i => blk_cell BU.out i, fun i => blk_cell BC.out i⟩) | (go_at_call 12; refine (pot_two bn bl n0 n1 n2 ln mx _ HU.out be k0 k1 k2 k3 kt cb ch cl cd ce ct HC.out HLOW.out dd BD.out _ g1 c1 (cb + (ct + mx * (0 : Int))) ch cl (cd - (0 : Int)) (by have h1 := HPB.out; have h2 := HLOW.out; unfold Low at h2; omega) (by have h1 := HPB.out; have h2 := HLOW.out; unfold Low at h2; omega) (by have h1 := HPB.out; have h2 := HLOW.out; unfold Low at h2; omega) (by have h1 := HPB.out; have h2 := HLOW.out; unfold Low at h2; omega) (by have h1 := HPB.out; have h2 := HLOW.out; unfold Low at h2; omega) (by have h1 := HPB.out; have h2 := HLOW.out; unfold Low at h2; omega) (by have h1 := HPB.out; have h2 := HLOW.out; unfold Low at h2; omega) (by have h1 := HPB.out; have h2 := HLOW.out; unfold Low at h2; omega) HE1.out).mono ?_; rintro e w5 ⟨qs, qk, SS, KK, rfl, hqs, hqk, hS0, hK0, hb⟩; have QS := Aside0.mk hqs; have QK := Aside0.mk hqk; have QSK := Aside0.mk (And.intro hS0 hK0); clear hqs hqk hS0 hK0; replace HB := Aside0.mk (below_step HB.out hb); replace HU := Aside0.mk (HU.out.below hb); replace HC := Aside0.mk (HC.out.below hb); replace BD := Aside0.mk (blk_below BD.out hb); replace BU := Aside0.mk (blk_below BU.out hb); replace BC := Aside0.mk (blk_below BC.out hb); replace BO := Aside0.mk (blk_below BO.out hb); clear hb; have hs : (∀ i, w5.cell? ⟨w.heap.size, i, none⟩ = (#[.string ⟨#[]⟩, .slice (some ⟨bn, 0, none⟩) 4 4, .slice (some ⟨bl, 0, none⟩) 1 1, .slice none 0 0, .slice none 0 0, .slice none 0 0, .slice none 0 0, .slice none 0 0, .slice none 0 0, .slice none 0 0] : Array Value)[i]?) ∧ (∀ i, w5.cell? ⟨w.heap.size + 1, i, none⟩ = (#[.slice (some ⟨be, 0, none⟩) 4 4, .slice (some ⟨kt, 0, none⟩) 1 1] : Array Value)[i]?) := ⟨fun i => blk_cell BU.out i, fun i => blk_cell BC.out i⟩) | fail)
  clear hs0
  clear hN hL h0 h1 h1' h2 hln hln' lbn lbl ln0 ln1 ln2 lln lbnA lbnB lblA lblB ln0A ln0B ln1A ln1B ln2A ln2B llnA llnB hE q0 q1 q1' q2 q3 qt lbe lk0 lk1 lk2 lk3 lkt lbeA lbeB lk0A lk0B lk1A lk1B lk2A lk2B lk3A lk3B lktA lktB hBD ltBD ltBDA ltBDB hBU ltBU ltBUA ltBUB hBC ltBC ltBCA ltBCB hBO ltBO ltBOA ltBOB
  go_wp2_with fail
  go_ret3
  exact ⟨qs, qk, SS, KK, rfl, QS.out, QK.out, QSK.out.1, QSK.out.2, HB.out⟩
set_option maxHeartbeats 8000000 in
set_option maxRecDepth 100000 in
theorem cost_two (bn bl n0 n1 n2 ln : Nat) (mx : Int) (w : World) (hU : UnitW w bn bl n0 n1 n2 ln mx) (be k0 k1 k2 k3 kt : Nat) (cb ch cl cd ce ct : Int) (hC : CostW w be k0 k1 k2 k3 kt cb ch cl cd ce ct) (hlow : Low cb ch cl cd ce ct mx) (dd : Nat) (hD : Blk w dd #[.bool false, .bool false, .bool true, .bool false] 4) :
    Calls Try.prog 5 #[UV bn bl, CV be kt, .slice (some ⟨dd, 0, none⟩) 4 4] w fun e w' => e = .returned (.tuple #[.int .i64 (cl + (cb + ct) + ce), .bool true]) ∧ Below w.heap.size w w' := by
  have hu32 := Try.underlying32
  have hu34 := Try.underlying34
  have hu38 := Try.underlying38
  have hu46 := Try.underlying46
  have hu71 := Try.underlying71
  have hu74 := Try.underlying74
  have HLOW := Aside0.mk hlow
  have BD := Aside0.mk hD
  clear hD hlow
  have HU := Aside0.mk hU
  have HC := Aside0.mk hC
  have HB : Aside0 (Below w.heap.size w w) := ⟨Below.refl _ _⟩
  clear hU hC
  go_enter Try.func5, Try.ntmps5
  go_upto_region 1 with (fail)
  have hb : Below w.heap.size w ((w.alloc (.cells #[.string ⟨#[]⟩, .slice (some ⟨bn, 0, none⟩) 4 4, .slice (some ⟨bl, 0, none⟩) 1 1, .slice none 0 0, .slice none 0 0, .slice none 0 0, .slice none 0 0, .slice none 0 0, .slice none 0 0, .slice none 0 0] 32)).alloc (.cells #[.slice (some ⟨be, 0, none⟩) 4 4, .slice (some ⟨kt, 0, none⟩) 1 1] 34)) := (by repeat (first | with_reducible exact Below.refl _ _ | apply below_alloc | apply pw_below_drewN | apply below_drew1))
  have BU : Aside0 (Blk ((w.alloc (.cells #[.string ⟨#[]⟩, .slice (some ⟨bn, 0, none⟩) 4 4, .slice (some ⟨bl, 0, none⟩) 1 1, .slice none 0 0, .slice none 0 0, .slice none 0 0, .slice none 0 0, .slice none 0 0, .slice none 0 0, .slice none 0 0] 32)).alloc (.cells #[.slice (some ⟨be, 0, none⟩) 4 4, .slice (some ⟨kt, 0, none⟩) 1 1] 34)) w.heap.size #[.string ⟨#[]⟩, .slice (some ⟨bn, 0, none⟩) 4 4, .slice (some ⟨bl, 0, none⟩) 1 1, .slice none 0 0, .slice none 0 0, .slice none 0 0, .slice none 0 0, .slice none 0 0, .slice none 0 0, .slice none 0 0] 32) := ⟨(by (repeat (first | with_reducible exact heap_alloc_new _ _ | with_reducible exact heap_alloc2_new _ _ _ | with_reducible exact blk_at3 _ _ _ _ | with_reducible exact blk_at4 _ _ _ _ _ | refine blk_alloc ?_ _)))⟩
  have BC : Aside0 (Blk ((w.alloc (.cells #[.string ⟨#[]⟩, .slice (some ⟨bn, 0, none⟩) 4 4, .slice (some ⟨bl, 0, none⟩) 1 1, .slice none 0 0, .slice none 0 0, .slice none 0 0, .slice none 0 0, .slice none 0 0, .slice none 0 0, .slice none 0 0] 32)).alloc (.cells #[.slice (some ⟨be, 0, none⟩) 4 4, .slice (some ⟨kt, 0, none⟩) 1 1] 34)) (w.heap.size + 1) #[.slice (some ⟨be, 0, none⟩) 4 4, .slice (some ⟨kt, 0, none⟩) 1 1] 34) := ⟨(by (repeat (first | with_reducible exact heap_alloc_new _ _ | with_reducible exact heap_alloc2_new _ _ _ | with_reducible exact blk_at3 _ _ _ _ | with_reducible exact blk_at4 _ _ _ _ _ | refine blk_alloc ?_ _)))⟩
  replace HB := Aside0.mk (below_step HB.out hb)
  replace HU := Aside0.mk (HU.out.below hb)
  replace HC := Aside0.mk (HC.out.below hb)
  replace BD := Aside0.mk (blk_below BD.out hb)
  clear hb
  generalize ((w.alloc (.cells #[.string ⟨#[]⟩, .slice (some ⟨bn, 0, none⟩) 4 4, .slice (some ⟨bl, 0, none⟩) 1 1, .slice none 0 0, .slice none 0 0, .slice none 0 0, .slice none 0 0, .slice none 0 0, .slice none 0 0, .slice none 0 0] 32)).alloc (.cells #[.slice (some ⟨be, 0, none⟩) 4 4, .slice (some ⟨kt, 0, none⟩) 1 1] 34)) = Wa at HU HC HB BD BU BC ⊢
  obtain ⟨hN, hL, h0, h1, h1', h2, hln, hln'⟩ := HU.out.reads
  obtain ⟨lbn, lbl, ln0, ln1, ln2, lln⟩ := HU.out.lts
  have lbnA : ∀ k, bn < Wa.heap.size + k := fun k => by omega
  have lbnB : ∀ k j, bn < Wa.heap.size + k + j := fun k j => by omega
  have lblA : ∀ k, bl < Wa.heap.size + k := fun k => by omega
  have lblB : ∀ k j, bl < Wa.heap.size + k + j := fun k j => by omega
  have ln0A : ∀ k, n0 < Wa.heap.size + k := fun k => by omega
  have ln0B : ∀ k j, n0 < Wa.heap.size + k + j := fun k j => by omega
  have ln1A : ∀ k, n1 < Wa.heap.size + k := fun k => by omega
  have ln1B : ∀ k j, n1 < Wa.heap.size + k + j := fun k j => by omega
  have ln2A : ∀ k, n2 < Wa.heap.size + k := fun k => by omega
  have ln2B : ∀ k j, n2 < Wa.heap.size + k + j := fun k j => by omega
  have llnA : ∀ k, ln < Wa.heap.size + k := fun k => by omega
  have llnB : ∀ k j, ln < Wa.heap.size + k + j := fun k j => by omega
  obtain ⟨hE, q0, q1, q1', q2, q3, qt⟩ := HC.out.reads
  obtain ⟨lbe, lk0, lk1, lk2, lk3, lkt⟩ := HC.out.lts
  have lbeA : ∀ k, be < Wa.heap.size + k := fun k => by omega
  have lbeB : ∀ k j, be < Wa.heap.size + k + j := fun k j => by omega
  have lk0A : ∀ k, k0 < Wa.heap.size + k := fun k => by omega
  have lk0B : ∀ k j, k0 < Wa.heap.size + k + j := fun k j => by omega
  have lk1A : ∀ k, k1 < Wa.heap.size + k := fun k => by omega
  have lk1B : ∀ k j, k1 < Wa.heap.size + k + j := fun k j => by omega
  have lk2A : ∀ k, k2 < Wa.heap.size + k := fun k => by omega
  have lk2B : ∀ k j, k2 < Wa.heap.size + k + j := fun k j => by omega
  have lk3A : ∀ k, k3 < Wa.heap.size + k := fun k => by omega
  have lk3B : ∀ k j, k3 < Wa.heap.size + k + j := fun k j => by omega
  have lktA : ∀ k, kt < Wa.heap.size + k := fun k => by omega
  have lktB : ∀ k j, kt < Wa.heap.size + k + j := fun k j => by omega
  have hBD : ∀ i, Wa.cell? ⟨dd, i, none⟩ = (#[.bool false, .bool false, .bool true, .bool false] : Array Value)[i]? := fun i => blk_cell BD.out i
  have ltBD := blk_lt BD.out
  have ltBDA : ∀ k, dd < Wa.heap.size + k := fun k => by omega
  have ltBDB : ∀ k j, dd < Wa.heap.size + k + j := fun k j => by omega
  have hBU : ∀ i, Wa.cell? ⟨w.heap.size, i, none⟩ = (#[.string ⟨#[]⟩, .slice (some ⟨bn, 0, none⟩) 4 4, .slice (some ⟨bl, 0, none⟩) 1 1, .slice none 0 0, .slice none 0 0, .slice none 0 0, .slice none 0 0, .slice none 0 0, .slice none 0 0, .slice none 0 0] : Array Value)[i]? := fun i => blk_cell BU.out i
  have ltBU := blk_lt BU.out
  have ltBUA : ∀ k, w.heap.size < Wa.heap.size + k := fun k => by omega
  have ltBUB : ∀ k j, w.heap.size < Wa.heap.size + k + j := fun k j => by omega
  have hBC : ∀ i, Wa.cell? ⟨(w.heap.size + 1), i, none⟩ = (#[.slice (some ⟨be, 0, none⟩) 4 4, .slice (some ⟨kt, 0, none⟩) 1 1] : Array Value)[i]? := fun i => blk_cell BC.out i
  have ltBC := blk_lt BC.out
  have ltBCA : ∀ k, (w.heap.size + 1) < Wa.heap.size + k := fun k => by omega
  have ltBCB : ∀ k j, (w.heap.size + 1) < Wa.heap.size + k + j := fun k j => by omega
  go_wp2_with fail
  clear hN hL h0 h1 h1' h2 hln hln' lbn lbl ln0 ln1 ln2 lln lbnA lbnB lblA lblB ln0A ln0B ln1A ln1B ln2A ln2B llnA llnB hE q0 q1 q1' q2 q3 qt lbe lk0 lk1 lk2 lk3 lkt lbeA lbeB lk0A lk0B lk1A lk1B lk2A lk2B lk3A lk3B lktA lktB hBD ltBD ltBDA ltBDB hBU ltBU ltBUA ltBUB hBC ltBC ltBCA ltBCB
  refine (pots_two bn bl n0 n1 n2 ln mx _ HU.out be k0 k1 k2 k3 kt cb ch cl cd ce ct HC.out HLOW.out dd BD.out).mono ?_
  rintro e w2 ⟨qs, qk, SS, KK, rfl, hqs, hqk, hS0, hK0, hb⟩
  replace HB := Aside0.mk (below_step HB.out hb)
  replace HU := Aside0.mk (HU.out.below hb)
  replace HC := Aside0.mk (HC.out.below hb)
  replace BD := Aside0.mk (blk_below BD.out hb)
  replace BU := Aside0.mk (blk_below BU.out hb)
  replace BC := Aside0.mk (blk_below BC.out hb)
  clear hb
  have hq0 : w2.cell? ⟨qs, 0, none⟩ = some (.int .i64 (cl + (cb + ct) + ce)) := ((blk_cell hqs 0).trans hS0).trans (by rw [Int.mul_zero, Int.add_zero])
  have hk0 : w2.cell? ⟨qk, 0, none⟩ = some (.bool true) := (blk_cell hqk 0).trans hK0
  clear hqs hqk hS0 hK0
  obtain ⟨hN, hL, h0, h1, h1', h2, hln, hln'⟩ := HU.out.reads
  obtain ⟨lbn, lbl, ln0, ln1, ln2, lln⟩ := HU.out.lts
  have lbnA : ∀ k, bn < w2.heap.size + k := fun k => by omega
  have lbnB : ∀ k j, bn < w2.heap.size + k + j := fun k j => by omega
  have lblA : ∀ k, bl < w2.heap.size + k := fun k => by omega
  have lblB : ∀ k j, bl < w2.heap.size + k + j := fun k j => by omega
  have ln0A : ∀ k, n0 < w2.heap.size + k := fun k => by omega
  have ln0B : ∀ k j, n0 < w2.heap.size + k + j := fun k j => by omega
  have ln1A : ∀ k, n1 < w2.heap.size + k := fun k => by omega
  have ln1B : ∀ k j, n1 < w2.heap.size + k + j := fun k j => by omega
  have ln2A : ∀ k, n2 < w2.heap.size + k := fun k => by omega
  have ln2B : ∀ k j, n2 < w2.heap.size + k + j := fun k j => by omega
  have llnA : ∀ k, ln < w2.heap.size + k := fun k => by omega
  have llnB : ∀ k j, ln < w2.heap.size + k + j := fun k j => by omega
  obtain ⟨hE, q0, q1, q1', q2, q3, qt⟩ := HC.out.reads
  obtain ⟨lbe, lk0, lk1, lk2, lk3, lkt⟩ := HC.out.lts
  have lbeA : ∀ k, be < w2.heap.size + k := fun k => by omega
  have lbeB : ∀ k j, be < w2.heap.size + k + j := fun k j => by omega
  have lk0A : ∀ k, k0 < w2.heap.size + k := fun k => by omega
  have lk0B : ∀ k j, k0 < w2.heap.size + k + j := fun k j => by omega
  have lk1A : ∀ k, k1 < w2.heap.size + k := fun k => by omega
  have lk1B : ∀ k j, k1 < w2.heap.size + k + j := fun k j => by omega
  have lk2A : ∀ k, k2 < w2.heap.size + k := fun k => by omega
  have lk2B : ∀ k j, k2 < w2.heap.size + k + j := fun k j => by omega
  have lk3A : ∀ k, k3 < w2.heap.size + k := fun k => by omega
  have lk3B : ∀ k j, k3 < w2.heap.size + k + j := fun k j => by omega
  have lktA : ∀ k, kt < w2.heap.size + k := fun k => by omega
  have lktB : ∀ k j, kt < w2.heap.size + k + j := fun k j => by omega
  have hBD : ∀ i, w2.cell? ⟨dd, i, none⟩ = (#[.bool false, .bool false, .bool true, .bool false] : Array Value)[i]? := fun i => blk_cell BD.out i
  have ltBD := blk_lt BD.out
  have ltBDA : ∀ k, dd < w2.heap.size + k := fun k => by omega
  have ltBDB : ∀ k j, dd < w2.heap.size + k + j := fun k j => by omega
  have hBU : ∀ i, w2.cell? ⟨w.heap.size, i, none⟩ = (#[.string ⟨#[]⟩, .slice (some ⟨bn, 0, none⟩) 4 4, .slice (some ⟨bl, 0, none⟩) 1 1, .slice none 0 0, .slice none 0 0, .slice none 0 0, .slice none 0 0, .slice none 0 0, .slice none 0 0, .slice none 0 0] : Array Value)[i]? := fun i => blk_cell BU.out i
  have ltBU := blk_lt BU.out
  have ltBUA : ∀ k, w.heap.size < w2.heap.size + k := fun k => by omega
  have ltBUB : ∀ k j, w.heap.size < w2.heap.size + k + j := fun k j => by omega
  have hBC : ∀ i, w2.cell? ⟨(w.heap.size + 1), i, none⟩ = (#[.slice (some ⟨be, 0, none⟩) 4 4, .slice (some ⟨kt, 0, none⟩) 1 1] : Array Value)[i]? := fun i => blk_cell BC.out i
  have ltBC := blk_lt BC.out
  have ltBCA : ∀ k, (w.heap.size + 1) < w2.heap.size + k := fun k => by omega
  have ltBCB : ∀ k j, (w.heap.size + 1) < w2.heap.size + k + j := fun k j => by omega
  go_wp2_with fail
  go_ret2
  exact ⟨rfl, HB.out⟩
set_option maxHeartbeats 8000000 in
set_option maxRecDepth 100000 in
theorem pots_one (bn bl n0 n1 n2 ln : Nat) (mx : Int) (w : World) (hU : UnitW w bn bl n0 n1 n2 ln mx) (be k0 k1 k2 k3 kt : Nat) (cb ch cl cd ce ct : Int) (hC : CostW w be k0 k1 k2 k3 kt cb ch cl cd ce ct) (hlow : Low cb ch cl cd ce ct mx) (dd : Nat) (hD : Blk w dd #[.bool false, .bool true, .bool false, .bool false] 4) :
    Calls Try.prog 7 #[UV bn bl, CV be kt, .slice (some ⟨dd, 0, none⟩) 4 4] w fun e w' => ∃ qs qk SS KK, e = .returned (.tuple #[.slice (some ⟨qs, 0, none⟩) 4 4, .slice (some ⟨qk, 0, none⟩) 4 4, .bool true]) ∧ Blk w' qs SS 3 ∧ Blk w' qk KK 4 ∧ SS[0]? = some (.int .i64 (0)) ∧ KK[0]? = some (.bool false) ∧ Below w.heap.size w w' := by
  have hu32 := Try.underlying32
  have hu34 := Try.underlying34
  have hu38 := Try.underlying38
  have hu46 := Try.underlying46
  have hu71 := Try.underlying71
  have hu74 := Try.underlying74
  have HLOW := Aside0.mk hlow
  have BD := Aside0.mk hD
  clear hD hlow
  have HU := Aside0.mk hU
  have HC := Aside0.mk hC
  have HB : Aside0 (Below w.heap.size w w) := ⟨Below.refl _ _⟩
  clear hU hC
  go_enter Try.func7, Try.ntmps7
  go_upto_region 1 with (fail)
  have hb : Below w.heap.size w ((w.alloc (.cells #[.string ⟨#[]⟩, .slice (some ⟨bn, 0, none⟩) 4 4, .slice (some ⟨bl, 0, none⟩) 1 1, .slice none 0 0, .slice none 0 0, .slice none 0 0, .slice none 0 0, .slice none 0 0, .slice none 0 0, .slice none 0 0] 32)).alloc (.cells #[.slice (some ⟨be, 0, none⟩) 4 4, .slice (some ⟨kt, 0, none⟩) 1 1] 34)) := (by repeat (first | with_reducible exact Below.refl _ _ | apply below_alloc | apply pw_below_drewN | apply below_drew1))
  have BU : Aside0 (Blk ((w.alloc (.cells #[.string ⟨#[]⟩, .slice (some ⟨bn, 0, none⟩) 4 4, .slice (some ⟨bl, 0, none⟩) 1 1, .slice none 0 0, .slice none 0 0, .slice none 0 0, .slice none 0 0, .slice none 0 0, .slice none 0 0, .slice none 0 0] 32)).alloc (.cells #[.slice (some ⟨be, 0, none⟩) 4 4, .slice (some ⟨kt, 0, none⟩) 1 1] 34)) w.heap.size #[.string ⟨#[]⟩, .slice (some ⟨bn, 0, none⟩) 4 4, .slice (some ⟨bl, 0, none⟩) 1 1, .slice none 0 0, .slice none 0 0, .slice none 0 0, .slice none 0 0, .slice none 0 0, .slice none 0 0, .slice none 0 0] 32) := ⟨(by (repeat (first | with_reducible exact heap_alloc_new _ _ | with_reducible exact heap_alloc2_new _ _ _ | with_reducible exact blk_at3 _ _ _ _ | with_reducible exact blk_at4 _ _ _ _ _ | refine blk_alloc ?_ _)))⟩
  have BC : Aside0 (Blk ((w.alloc (.cells #[.string ⟨#[]⟩, .slice (some ⟨bn, 0, none⟩) 4 4, .slice (some ⟨bl, 0, none⟩) 1 1, .slice none 0 0, .slice none 0 0, .slice none 0 0, .slice none 0 0, .slice none 0 0, .slice none 0 0, .slice none 0 0] 32)).alloc (.cells #[.slice (some ⟨be, 0, none⟩) 4 4, .slice (some ⟨kt, 0, none⟩) 1 1] 34)) (w.heap.size + 1) #[.slice (some ⟨be, 0, none⟩) 4 4, .slice (some ⟨kt, 0, none⟩) 1 1] 34) := ⟨(by (repeat (first | with_reducible exact heap_alloc_new _ _ | with_reducible exact heap_alloc2_new _ _ _ | with_reducible exact blk_at3 _ _ _ _ | with_reducible exact blk_at4 _ _ _ _ _ | refine blk_alloc ?_ _)))⟩
  replace HB := Aside0.mk (below_step HB.out hb)
  replace HU := Aside0.mk (HU.out.below hb)
  replace HC := Aside0.mk (HC.out.below hb)
  replace BD := Aside0.mk (blk_below BD.out hb)
  clear hb
  generalize ((w.alloc (.cells #[.string ⟨#[]⟩, .slice (some ⟨bn, 0, none⟩) 4 4, .slice (some ⟨bl, 0, none⟩) 1 1, .slice none 0 0, .slice none 0 0, .slice none 0 0, .slice none 0 0, .slice none 0 0, .slice none 0 0, .slice none 0 0] 32)).alloc (.cells #[.slice (some ⟨be, 0, none⟩) 4 4, .slice (some ⟨kt, 0, none⟩) 1 1] 34)) = Wa at HU HC HB BD BU BC ⊢
  obtain ⟨hN, hL, h0, h1, h1', h2, hln, hln'⟩ := HU.out.reads
  obtain ⟨lbn, lbl, ln0, ln1, ln2, lln⟩ := HU.out.lts
  have lbnA : ∀ k, bn < Wa.heap.size + k := fun k => by omega
  have lbnB : ∀ k j, bn < Wa.heap.size + k + j := fun k j => by omega
  have lblA : ∀ k, bl < Wa.heap.size + k := fun k => by omega
  have lblB : ∀ k j, bl < Wa.heap.size + k + j := fun k j => by omega
  have ln0A : ∀ k, n0 < Wa.heap.size + k := fun k => by omega
  have ln0B : ∀ k j, n0 < Wa.heap.size + k + j := fun k j => by omega
  have ln1A : ∀ k, n1 < Wa.heap.size + k := fun k => by omega
  have ln1B : ∀ k j, n1 < Wa.heap.size + k + j := fun k j => by omega
  have ln2A : ∀ k, n2 < Wa.heap.size + k := fun k => by omega
  have ln2B : ∀ k j, n2 < Wa.heap.size + k + j := fun k j => by omega
  have llnA : ∀ k, ln < Wa.heap.size + k := fun k => by omega
  have llnB : ∀ k j, ln < Wa.heap.size + k + j := fun k j => by omega
  obtain ⟨hE, q0, q1, q1', q2, q3, qt⟩ := HC.out.reads
  obtain ⟨lbe, lk0, lk1, lk2, lk3, lkt⟩ := HC.out.lts
  have lbeA : ∀ k, be < Wa.heap.size + k := fun k => by omega
  have lbeB : ∀ k j, be < Wa.heap.size + k + j := fun k j => by omega
  have lk0A : ∀ k, k0 < Wa.heap.size + k := fun k => by omega
  have lk0B : ∀ k j, k0 < Wa.heap.size + k + j := fun k j => by omega
  have lk1A : ∀ k, k1 < Wa.heap.size + k := fun k => by omega
  have lk1B : ∀ k j, k1 < Wa.heap.size + k + j := fun k j => by omega
  have lk2A : ∀ k, k2 < Wa.heap.size + k := fun k => by omega
  have lk2B : ∀ k j, k2 < Wa.heap.size + k + j := fun k j => by omega
  have lk3A : ∀ k, k3 < Wa.heap.size + k := fun k => by omega
  have lk3B : ∀ k j, k3 < Wa.heap.size + k + j := fun k j => by omega
  have lktA : ∀ k, kt < Wa.heap.size + k := fun k => by omega
  have lktB : ∀ k j, kt < Wa.heap.size + k + j := fun k j => by omega
  have hBD : ∀ i, Wa.cell? ⟨dd, i, none⟩ = (#[.bool false, .bool true, .bool false, .bool false] : Array Value)[i]? := fun i => blk_cell BD.out i
  have ltBD := blk_lt BD.out
  have ltBDA : ∀ k, dd < Wa.heap.size + k := fun k => by omega
  have ltBDB : ∀ k j, dd < Wa.heap.size + k + j := fun k j => by omega
  have hBU : ∀ i, Wa.cell? ⟨w.heap.size, i, none⟩ = (#[.string ⟨#[]⟩, .slice (some ⟨bn, 0, none⟩) 4 4, .slice (some ⟨bl, 0, none⟩) 1 1, .slice none 0 0, .slice none 0 0, .slice none 0 0, .slice none 0 0, .slice none 0 0, .slice none 0 0, .slice none 0 0] : Array Value)[i]? := fun i => blk_cell BU.out i
  have ltBU := blk_lt BU.out
  have ltBUA : ∀ k, w.heap.size < Wa.heap.size + k := fun k => by omega
  have ltBUB : ∀ k j, w.heap.size < Wa.heap.size + k + j := fun k j => by omega
  have hBC : ∀ i, Wa.cell? ⟨(w.heap.size + 1), i, none⟩ = (#[.slice (some ⟨be, 0, none⟩) 4 4, .slice (some ⟨kt, 0, none⟩) 1 1] : Array Value)[i]? := fun i => blk_cell BC.out i
  have ltBC := blk_lt BC.out
  have ltBCA : ∀ k, (w.heap.size + 1) < Wa.heap.size + k := fun k => by omega
  have ltBCB : ∀ k j, (w.heap.size + 1) < Wa.heap.size + k + j := fun k j => by omega
  go_wp2_with fail
  clear hN hL h0 h1 h1' h2 hln hln' lbn lbl ln0 ln1 ln2 lln lbnA lbnB lblA lblB ln0A ln0B ln1A ln1B ln2A ln2B llnA llnB hE q0 q1 q1' q2 q3 qt lbe lk0 lk1 lk2 lk3 lkt lbeA lbeB lk0A lk0B lk1A lk1B lk2A lk2B lk3A lk3B lktA lktB hBD ltBD ltBDA ltBDB hBU ltBU ltBUA ltBUB hBC ltBC ltBCA ltBCB
  refine (fits_calls bn bl n0 n1 n2 ln mx _ HU.out be k0 k1 k2 k3 kt cb ch cl cd ce ct HC.out HLOW.out dd).mono ?_
  rintro e w2 ⟨rfl, hb⟩
  replace HB := Aside0.mk (below_step HB.out hb)
  replace HU := Aside0.mk (HU.out.below hb)
  replace HC := Aside0.mk (HC.out.below hb)
  replace BD := Aside0.mk (blk_below BD.out hb)
  replace BU := Aside0.mk (blk_below BU.out hb)
  replace BC := Aside0.mk (blk_below BC.out hb)
  clear hb
  obtain ⟨hN, hL, h0, h1, h1', h2, hln, hln'⟩ := HU.out.reads
  obtain ⟨lbn, lbl, ln0, ln1, ln2, lln⟩ := HU.out.lts
  have lbnA : ∀ k, bn < w2.heap.size + k := fun k => by omega
  have lbnB : ∀ k j, bn < w2.heap.size + k + j := fun k j => by omega
  have lblA : ∀ k, bl < w2.heap.size + k := fun k => by omega
  have lblB : ∀ k j, bl < w2.heap.size + k + j := fun k j => by omega
  have ln0A : ∀ k, n0 < w2.heap.size + k := fun k => by omega
  have ln0B : ∀ k j, n0 < w2.heap.size + k + j := fun k j => by omega
  have ln1A : ∀ k, n1 < w2.heap.size + k := fun k => by omega
  have ln1B : ∀ k j, n1 < w2.heap.size + k + j := fun k j => by omega
  have ln2A : ∀ k, n2 < w2.heap.size + k := fun k => by omega
  have ln2B : ∀ k j, n2 < w2.heap.size + k + j := fun k j => by omega
  have llnA : ∀ k, ln < w2.heap.size + k := fun k => by omega
  have llnB : ∀ k j, ln < w2.heap.size + k + j := fun k j => by omega
  obtain ⟨hE, q0, q1, q1', q2, q3, qt⟩ := HC.out.reads
  obtain ⟨lbe, lk0, lk1, lk2, lk3, lkt⟩ := HC.out.lts
  have lbeA : ∀ k, be < w2.heap.size + k := fun k => by omega
  have lbeB : ∀ k j, be < w2.heap.size + k + j := fun k j => by omega
  have lk0A : ∀ k, k0 < w2.heap.size + k := fun k => by omega
  have lk0B : ∀ k j, k0 < w2.heap.size + k + j := fun k j => by omega
  have lk1A : ∀ k, k1 < w2.heap.size + k := fun k => by omega
  have lk1B : ∀ k j, k1 < w2.heap.size + k + j := fun k j => by omega
  have lk2A : ∀ k, k2 < w2.heap.size + k := fun k => by omega
  have lk2B : ∀ k j, k2 < w2.heap.size + k + j := fun k j => by omega
  have lk3A : ∀ k, k3 < w2.heap.size + k := fun k => by omega
  have lk3B : ∀ k j, k3 < w2.heap.size + k + j := fun k j => by omega
  have lktA : ∀ k, kt < w2.heap.size + k := fun k => by omega
  have lktB : ∀ k j, kt < w2.heap.size + k + j := fun k j => by omega
  have hBD : ∀ i, w2.cell? ⟨dd, i, none⟩ = (#[.bool false, .bool true, .bool false, .bool false] : Array Value)[i]? := fun i => blk_cell BD.out i
  have ltBD := blk_lt BD.out
  have ltBDA : ∀ k, dd < w2.heap.size + k := fun k => by omega
  have ltBDB : ∀ k j, dd < w2.heap.size + k + j := fun k j => by omega
  have hBU : ∀ i, w2.cell? ⟨w.heap.size, i, none⟩ = (#[.string ⟨#[]⟩, .slice (some ⟨bn, 0, none⟩) 4 4, .slice (some ⟨bl, 0, none⟩) 1 1, .slice none 0 0, .slice none 0 0, .slice none 0 0, .slice none 0 0, .slice none 0 0, .slice none 0 0, .slice none 0 0] : Array Value)[i]? := fun i => blk_cell BU.out i
  have ltBU := blk_lt BU.out
  have ltBUA : ∀ k, w.heap.size < w2.heap.size + k := fun k => by omega
  have ltBUB : ∀ k j, w.heap.size < w2.heap.size + k + j := fun k j => by omega
  have hBC : ∀ i, w2.cell? ⟨(w.heap.size + 1), i, none⟩ = (#[.slice (some ⟨be, 0, none⟩) 4 4, .slice (some ⟨kt, 0, none⟩) 1 1] : Array Value)[i]? := fun i => blk_cell BC.out i
  have ltBC := blk_lt BC.out
  have ltBCA : ∀ k, (w.heap.size + 1) < w2.heap.size + k := fun k => by omega
  have ltBCB : ∀ k j, (w.heap.size + 1) < w2.heap.size + k + j := fun k j => by omega
  go_wp2_with fail
  clear hN hL h0 h1 h1' h2 hln hln' lbn lbl ln0 ln1 ln2 lln lbnA lbnB lblA lblB ln0A ln0B ln1A ln1B ln2A ln2B llnA llnB hE q0 q1 q1' q2 q3 qt lbe lk0 lk1 lk2 lk3 lkt lbeA lbeB lk0A lk0B lk1A lk1B lk2A lk2B lk3A lk3B lktA lktB hBD ltBD ltBDA ltBDB hBU ltBU ltBUA ltBUB hBC ltBC ltBCA ltBCB
  refine (prices_one bn bl n0 n1 n2 ln mx _ HU.out be k0 k1 k2 k3 kt cb ch cl cd ce ct HC.out HLOW.out dd BD.out).mono ?_
  rintro e w3 ⟨bo, br, rfl, hBo, hb⟩
  replace HB := Aside0.mk (below_step HB.out hb)
  replace HU := Aside0.mk (HU.out.below hb)
  replace HC := Aside0.mk (HC.out.below hb)
  replace BD := Aside0.mk (blk_below BD.out hb)
  replace BU := Aside0.mk (blk_below BU.out hb)
  replace BC := Aside0.mk (blk_below BC.out hb)
  clear hb
  have BO := Aside0.mk hBo
  clear hBo
  obtain ⟨hN, hL, h0, h1, h1', h2, hln, hln'⟩ := HU.out.reads
  obtain ⟨lbn, lbl, ln0, ln1, ln2, lln⟩ := HU.out.lts
  have lbnA : ∀ k, bn < w3.heap.size + k := fun k => by omega
  have lbnB : ∀ k j, bn < w3.heap.size + k + j := fun k j => by omega
  have lblA : ∀ k, bl < w3.heap.size + k := fun k => by omega
  have lblB : ∀ k j, bl < w3.heap.size + k + j := fun k j => by omega
  have ln0A : ∀ k, n0 < w3.heap.size + k := fun k => by omega
  have ln0B : ∀ k j, n0 < w3.heap.size + k + j := fun k j => by omega
  have ln1A : ∀ k, n1 < w3.heap.size + k := fun k => by omega
  have ln1B : ∀ k j, n1 < w3.heap.size + k + j := fun k j => by omega
  have ln2A : ∀ k, n2 < w3.heap.size + k := fun k => by omega
  have ln2B : ∀ k j, n2 < w3.heap.size + k + j := fun k j => by omega
  have llnA : ∀ k, ln < w3.heap.size + k := fun k => by omega
  have llnB : ∀ k j, ln < w3.heap.size + k + j := fun k j => by omega
  obtain ⟨hE, q0, q1, q1', q2, q3, qt⟩ := HC.out.reads
  obtain ⟨lbe, lk0, lk1, lk2, lk3, lkt⟩ := HC.out.lts
  have lbeA : ∀ k, be < w3.heap.size + k := fun k => by omega
  have lbeB : ∀ k j, be < w3.heap.size + k + j := fun k j => by omega
  have lk0A : ∀ k, k0 < w3.heap.size + k := fun k => by omega
  have lk0B : ∀ k j, k0 < w3.heap.size + k + j := fun k j => by omega
  have lk1A : ∀ k, k1 < w3.heap.size + k := fun k => by omega
  have lk1B : ∀ k j, k1 < w3.heap.size + k + j := fun k j => by omega
  have lk2A : ∀ k, k2 < w3.heap.size + k := fun k => by omega
  have lk2B : ∀ k j, k2 < w3.heap.size + k + j := fun k j => by omega
  have lk3A : ∀ k, k3 < w3.heap.size + k := fun k => by omega
  have lk3B : ∀ k j, k3 < w3.heap.size + k + j := fun k j => by omega
  have lktA : ∀ k, kt < w3.heap.size + k := fun k => by omega
  have lktB : ∀ k j, kt < w3.heap.size + k + j := fun k j => by omega
  have hBD : ∀ i, w3.cell? ⟨dd, i, none⟩ = (#[.bool false, .bool true, .bool false, .bool false] : Array Value)[i]? := fun i => blk_cell BD.out i
  have ltBD := blk_lt BD.out
  have ltBDA : ∀ k, dd < w3.heap.size + k := fun k => by omega
  have ltBDB : ∀ k j, dd < w3.heap.size + k + j := fun k j => by omega
  have hBU : ∀ i, w3.cell? ⟨w.heap.size, i, none⟩ = (#[.string ⟨#[]⟩, .slice (some ⟨bn, 0, none⟩) 4 4, .slice (some ⟨bl, 0, none⟩) 1 1, .slice none 0 0, .slice none 0 0, .slice none 0 0, .slice none 0 0, .slice none 0 0, .slice none 0 0, .slice none 0 0] : Array Value)[i]? := fun i => blk_cell BU.out i
  have ltBU := blk_lt BU.out
  have ltBUA : ∀ k, w.heap.size < w3.heap.size + k := fun k => by omega
  have ltBUB : ∀ k j, w.heap.size < w3.heap.size + k + j := fun k j => by omega
  have hBC : ∀ i, w3.cell? ⟨(w.heap.size + 1), i, none⟩ = (#[.slice (some ⟨be, 0, none⟩) 4 4, .slice (some ⟨kt, 0, none⟩) 1 1] : Array Value)[i]? := fun i => blk_cell BC.out i
  have ltBC := blk_lt BC.out
  have ltBCA : ∀ k, (w.heap.size + 1) < w3.heap.size + k := fun k => by omega
  have ltBCB : ∀ k j, (w.heap.size + 1) < w3.heap.size + k + j := fun k j => by omega
  have hBO : ∀ i, w3.cell? ⟨bo, i, none⟩ = (#[.int .i64 0] : Array Value)[i]? := fun i => blk_cell BO.out i
  have ltBO := blk_lt BO.out
  have ltBOA : ∀ k, bo < w3.heap.size + k := fun k => by omega
  have ltBOB : ∀ k j, bo < w3.heap.size + k + j := fun k j => by omega
  go_upto_region 4 with (fail)
  have hs0 : (∀ i, w3.drew.cell? ⟨w.heap.size, i, none⟩ = (#[.string ⟨#[]⟩, .slice (some ⟨bn, 0, none⟩) 4 4, .slice (some ⟨bl, 0, none⟩) 1 1, .slice none 0 0, .slice none 0 0, .slice none 0 0, .slice none 0 0, .slice none 0 0, .slice none 0 0, .slice none 0 0] : Array Value)[i]?) ∧ (∀ i, w3.drew.cell? ⟨w.heap.size + 1, i, none⟩ = (#[.slice (some ⟨be, 0, none⟩) 4 4, .slice (some ⟨kt, 0, none⟩) 1 1] : Array Value)[i]?) := ⟨fun i => blk_cell (blk_drew BU.out) i, fun i => blk_cell (blk_drew BC.out) i⟩
  have HPB : Aside0 (0 ≤ (0 : Int) ∧ (0 : Int) ≤ 510 ∧ 0 ≤ mx * (0 : Int) ∧ mx * (0 : Int) ≤ 16320) := ⟨by
    obtain ⟨⟨gcb, gcb'⟩, ⟨gch, gch'⟩, ⟨gcl, gcl'⟩, ⟨gcd, gcd'⟩, ⟨gce, gce'⟩, ⟨gct, gct'⟩, gmx, gmx'⟩ := HLOW.out
    have h1 : 0 ≤ (0 : Int) := by omega
    have h2 : (0 : Int) ≤ 510 := by omega
    exact ⟨h1, h2, Int.mul_nonneg gmx h1, Int.le_trans (Int.mul_le_mul gmx' h2 h1 (by decide)) (by decide)⟩⟩
  go_region_held3 (fun w' => (∀ i, w'.cell? ⟨w.heap.size, i, none⟩ = (#[.string ⟨#[]⟩, .slice (some ⟨bn, 0, none⟩) 4 4, .slice (some ⟨bl, 0, none⟩) 1 1, .slice none 0 0, .slice none 0 0, .slice none 0 0, .slice none 0 0, .slice none 0 0, .slice none 0 0, .slice none 0 0] : Array Value)[i]?) ∧ (∀ i, w'.cell? ⟨w.heap.size + 1, i, none⟩ = (#[.slice (some ⟨be, 0, none⟩) 4 4, .slice (some ⟨kt, 0, none⟩) 1 1] : Array Value)[i]?)) (first | with_reducible exact hs0 | with_reducible assumption) (first | (go_at_call 13; refine (edges_calls bn bl n0 n1 n2 ln mx _ (HU.out.below (by repeat (first | with_reducible exact Below.refl _ _ | apply below_alloc | apply pw_below_drewN | apply below_drew1))) be k0 k1 k2 k3 kt cb ch cl cd ce ct (HC.out.below (by repeat (first | with_reducible exact Below.refl _ _ | apply below_alloc | apply pw_below_drewN | apply below_drew1))) HLOW.out bo (0 : Int) (blk_below BO.out (by repeat (first | with_reducible exact Below.refl _ _ | apply below_alloc | apply pw_below_drewN | apply below_drew1))) HPB.out.1 HPB.out.2.1).mono ?_; rintro e w4 ⟨g1, c1, rfl, ho, hb⟩; have HE1 := Aside0.mk ho; clear ho; have HBn : Aside0 (Below w3.heap.size w3 w4) := ⟨below_step (by repeat (first | with_reducible exact Below.refl _ _ | apply below_alloc | apply pw_below_drewN | apply below_drew1)) hb⟩; replace hb := HBn.out; clear HBn; replace HB := Aside0.mk (below_step HB.out hb); replace HU := Aside0.mk (HU.out.below hb); replace HC := Aside0.mk (HC.out.below hb); replace BD := Aside0.mk (blk_below BD.out hb); replace BU := Aside0.mk (blk_below BU.out hb); replace BC := Aside0.mk (blk_below BC.out hb); replace BO := Aside0.mk (blk_below BO.out hb); clear hb; have hs : (∀ i, w4.cell? ⟨w.heap.size, i, none⟩ = (#[.string ⟨#[]⟩, .slice (some ⟨bn, 0, none⟩) 4 4, .slice (some ⟨bl, 0, none⟩) 1 1, .slice none 0 0, .slice none 0 0, .slice none 0 0, .slice none 0 0, .slice none 0 0, .slice none 0 0, .slice none 0 0] : Array Value)[i]?) ∧ (∀ i, w4.cell? ⟨w.heap.size + 1, i, none⟩ = (#[.slice (some ⟨be, 0, none⟩) 4 4, .slice (some ⟨kt, 0, none⟩) 1 1] : Array Value)[i]?) := ⟨fun i => blk_cell BU.out i, fun i => blk_cell BC.out i⟩) | (go_at_call 12; refine (pot_one bn bl n0 n1 n2 ln mx _ HU.out be k0 k1 k2 k3 kt cb ch cl cd ce ct HC.out HLOW.out dd BD.out _ g1 c1 (cb + (ct + mx * (0 : Int))) ch cl (cd - (0 : Int)) (by have h1 := HPB.out; have h2 := HLOW.out; unfold Low at h2; omega) (by have h1 := HPB.out; have h2 := HLOW.out; unfold Low at h2; omega) (by have h1 := HPB.out; have h2 := HLOW.out; unfold Low at h2; omega) (by have h1 := HPB.out; have h2 := HLOW.out; unfold Low at h2; omega) (by have h1 := HPB.out; have h2 := HLOW.out; unfold Low at h2; omega) (by have h1 := HPB.out; have h2 := HLOW.out; unfold Low at h2; omega) (by have h1 := HPB.out; have h2 := HLOW.out; unfold Low at h2; omega) (by have h1 := HPB.out; have h2 := HLOW.out; unfold Low at h2; omega) HE1.out).mono ?_; rintro e w5 ⟨qs, qk, SS, KK, rfl, hqs, hqk, hS0, hK0, hb⟩; have QS := Aside0.mk hqs; have QK := Aside0.mk hqk; have QSK := Aside0.mk (And.intro hS0 hK0); clear hqs hqk hS0 hK0; replace HB := Aside0.mk (below_step HB.out hb); replace HU := Aside0.mk (HU.out.below hb); replace HC := Aside0.mk (HC.out.below hb); replace BD := Aside0.mk (blk_below BD.out hb); replace BU := Aside0.mk (blk_below BU.out hb); replace BC := Aside0.mk (blk_below BC.out hb); replace BO := Aside0.mk (blk_below BO.out hb); clear hb; have hs : (∀ i, w5.cell? ⟨w.heap.size, i, none⟩ = (#[.string ⟨#[]⟩, .slice (some ⟨bn, 0, none⟩) 4 4, .slice (some ⟨bl, 0, none⟩) 1 1, .slice none 0 0, .slice none 0 0, .slice none 0 0, .slice none 0 0, .slice none 0 0, .slice none 0 0, .slice none 0 0] : Array Value)[i]?) ∧ (∀ i, w5.cell? ⟨w.heap.size + 1, i, none⟩ = (#[.slice (some ⟨be, 0, none⟩) 4 4, .slice (some ⟨kt, 0, none⟩) 1 1] : Array Value)[i]?) := ⟨fun i => blk_cell BU.out i, fun i => blk_cell BC.out i⟩) | fail)
  clear hs0
  clear hN hL h0 h1 h1' h2 hln hln' lbn lbl ln0 ln1 ln2 lln lbnA lbnB lblA lblB ln0A ln0B ln1A ln1B ln2A ln2B llnA llnB hE q0 q1 q1' q2 q3 qt lbe lk0 lk1 lk2 lk3 lkt lbeA lbeB lk0A lk0B lk1A lk1B lk2A lk2B lk3A lk3B lktA lktB hBD ltBD ltBDA ltBDB hBU ltBU ltBUA ltBUB hBC ltBC ltBCA ltBCB hBO ltBO ltBOA ltBOB
  go_wp2_with fail
  go_ret3
  exact ⟨qs, qk, SS, KK, rfl, QS.out, QK.out, QSK.out.1, QSK.out.2, HB.out⟩
set_option maxHeartbeats 8000000 in
set_option maxRecDepth 100000 in
theorem cost_one (bn bl n0 n1 n2 ln : Nat) (mx : Int) (w : World) (hU : UnitW w bn bl n0 n1 n2 ln mx) (be k0 k1 k2 k3 kt : Nat) (cb ch cl cd ce ct : Int) (hC : CostW w be k0 k1 k2 k3 kt cb ch cl cd ce ct) (hlow : Low cb ch cl cd ce ct mx) (dd : Nat) (hD : Blk w dd #[.bool false, .bool true, .bool false, .bool false] 4) :
    Calls Try.prog 5 #[UV bn bl, CV be kt, .slice (some ⟨dd, 0, none⟩) 4 4] w fun e w' => e = .returned (.tuple #[.int .i64 (0), .bool false]) ∧ Below w.heap.size w w' := by
  have hu32 := Try.underlying32
  have hu34 := Try.underlying34
  have hu38 := Try.underlying38
  have hu46 := Try.underlying46
  have hu71 := Try.underlying71
  have hu74 := Try.underlying74
  have HLOW := Aside0.mk hlow
  have BD := Aside0.mk hD
  clear hD hlow
  have HU := Aside0.mk hU
  have HC := Aside0.mk hC
  have HB : Aside0 (Below w.heap.size w w) := ⟨Below.refl _ _⟩
  clear hU hC
  go_enter Try.func5, Try.ntmps5
  go_upto_region 1 with (fail)
  have hb : Below w.heap.size w ((w.alloc (.cells #[.string ⟨#[]⟩, .slice (some ⟨bn, 0, none⟩) 4 4, .slice (some ⟨bl, 0, none⟩) 1 1, .slice none 0 0, .slice none 0 0, .slice none 0 0, .slice none 0 0, .slice none 0 0, .slice none 0 0, .slice none 0 0] 32)).alloc (.cells #[.slice (some ⟨be, 0, none⟩) 4 4, .slice (some ⟨kt, 0, none⟩) 1 1] 34)) := (by repeat (first | with_reducible exact Below.refl _ _ | apply below_alloc | apply pw_below_drewN | apply below_drew1))
  have BU : Aside0 (Blk ((w.alloc (.cells #[.string ⟨#[]⟩, .slice (some ⟨bn, 0, none⟩) 4 4, .slice (some ⟨bl, 0, none⟩) 1 1, .slice none 0 0, .slice none 0 0, .slice none 0 0, .slice none 0 0, .slice none 0 0, .slice none 0 0, .slice none 0 0] 32)).alloc (.cells #[.slice (some ⟨be, 0, none⟩) 4 4, .slice (some ⟨kt, 0, none⟩) 1 1] 34)) w.heap.size #[.string ⟨#[]⟩, .slice (some ⟨bn, 0, none⟩) 4 4, .slice (some ⟨bl, 0, none⟩) 1 1, .slice none 0 0, .slice none 0 0, .slice none 0 0, .slice none 0 0, .slice none 0 0, .slice none 0 0, .slice none 0 0] 32) := ⟨(by (repeat (first | with_reducible exact heap_alloc_new _ _ | with_reducible exact heap_alloc2_new _ _ _ | with_reducible exact blk_at3 _ _ _ _ | with_reducible exact blk_at4 _ _ _ _ _ | refine blk_alloc ?_ _)))⟩
  have BC : Aside0 (Blk ((w.alloc (.cells #[.string ⟨#[]⟩, .slice (some ⟨bn, 0, none⟩) 4 4, .slice (some ⟨bl, 0, none⟩) 1 1, .slice none 0 0, .slice none 0 0, .slice none 0 0, .slice none 0 0, .slice none 0 0, .slice none 0 0, .slice none 0 0] 32)).alloc (.cells #[.slice (some ⟨be, 0, none⟩) 4 4, .slice (some ⟨kt, 0, none⟩) 1 1] 34)) (w.heap.size + 1) #[.slice (some ⟨be, 0, none⟩) 4 4, .slice (some ⟨kt, 0, none⟩) 1 1] 34) := ⟨(by (repeat (first | with_reducible exact heap_alloc_new _ _ | with_reducible exact heap_alloc2_new _ _ _ | with_reducible exact blk_at3 _ _ _ _ | with_reducible exact blk_at4 _ _ _ _ _ | refine blk_alloc ?_ _)))⟩
  replace HB := Aside0.mk (below_step HB.out hb)
  replace HU := Aside0.mk (HU.out.below hb)
  replace HC := Aside0.mk (HC.out.below hb)
  replace BD := Aside0.mk (blk_below BD.out hb)
  clear hb
  generalize ((w.alloc (.cells #[.string ⟨#[]⟩, .slice (some ⟨bn, 0, none⟩) 4 4, .slice (some ⟨bl, 0, none⟩) 1 1, .slice none 0 0, .slice none 0 0, .slice none 0 0, .slice none 0 0, .slice none 0 0, .slice none 0 0, .slice none 0 0] 32)).alloc (.cells #[.slice (some ⟨be, 0, none⟩) 4 4, .slice (some ⟨kt, 0, none⟩) 1 1] 34)) = Wa at HU HC HB BD BU BC ⊢
  obtain ⟨hN, hL, h0, h1, h1', h2, hln, hln'⟩ := HU.out.reads
  obtain ⟨lbn, lbl, ln0, ln1, ln2, lln⟩ := HU.out.lts
  have lbnA : ∀ k, bn < Wa.heap.size + k := fun k => by omega
  have lbnB : ∀ k j, bn < Wa.heap.size + k + j := fun k j => by omega
  have lblA : ∀ k, bl < Wa.heap.size + k := fun k => by omega
  have lblB : ∀ k j, bl < Wa.heap.size + k + j := fun k j => by omega
  have ln0A : ∀ k, n0 < Wa.heap.size + k := fun k => by omega
  have ln0B : ∀ k j, n0 < Wa.heap.size + k + j := fun k j => by omega
  have ln1A : ∀ k, n1 < Wa.heap.size + k := fun k => by omega
  have ln1B : ∀ k j, n1 < Wa.heap.size + k + j := fun k j => by omega
  have ln2A : ∀ k, n2 < Wa.heap.size + k := fun k => by omega
  have ln2B : ∀ k j, n2 < Wa.heap.size + k + j := fun k j => by omega
  have llnA : ∀ k, ln < Wa.heap.size + k := fun k => by omega
  have llnB : ∀ k j, ln < Wa.heap.size + k + j := fun k j => by omega
  obtain ⟨hE, q0, q1, q1', q2, q3, qt⟩ := HC.out.reads
  obtain ⟨lbe, lk0, lk1, lk2, lk3, lkt⟩ := HC.out.lts
  have lbeA : ∀ k, be < Wa.heap.size + k := fun k => by omega
  have lbeB : ∀ k j, be < Wa.heap.size + k + j := fun k j => by omega
  have lk0A : ∀ k, k0 < Wa.heap.size + k := fun k => by omega
  have lk0B : ∀ k j, k0 < Wa.heap.size + k + j := fun k j => by omega
  have lk1A : ∀ k, k1 < Wa.heap.size + k := fun k => by omega
  have lk1B : ∀ k j, k1 < Wa.heap.size + k + j := fun k j => by omega
  have lk2A : ∀ k, k2 < Wa.heap.size + k := fun k => by omega
  have lk2B : ∀ k j, k2 < Wa.heap.size + k + j := fun k j => by omega
  have lk3A : ∀ k, k3 < Wa.heap.size + k := fun k => by omega
  have lk3B : ∀ k j, k3 < Wa.heap.size + k + j := fun k j => by omega
  have lktA : ∀ k, kt < Wa.heap.size + k := fun k => by omega
  have lktB : ∀ k j, kt < Wa.heap.size + k + j := fun k j => by omega
  have hBD : ∀ i, Wa.cell? ⟨dd, i, none⟩ = (#[.bool false, .bool true, .bool false, .bool false] : Array Value)[i]? := fun i => blk_cell BD.out i
  have ltBD := blk_lt BD.out
  have ltBDA : ∀ k, dd < Wa.heap.size + k := fun k => by omega
  have ltBDB : ∀ k j, dd < Wa.heap.size + k + j := fun k j => by omega
  have hBU : ∀ i, Wa.cell? ⟨w.heap.size, i, none⟩ = (#[.string ⟨#[]⟩, .slice (some ⟨bn, 0, none⟩) 4 4, .slice (some ⟨bl, 0, none⟩) 1 1, .slice none 0 0, .slice none 0 0, .slice none 0 0, .slice none 0 0, .slice none 0 0, .slice none 0 0, .slice none 0 0] : Array Value)[i]? := fun i => blk_cell BU.out i
  have ltBU := blk_lt BU.out
  have ltBUA : ∀ k, w.heap.size < Wa.heap.size + k := fun k => by omega
  have ltBUB : ∀ k j, w.heap.size < Wa.heap.size + k + j := fun k j => by omega
  have hBC : ∀ i, Wa.cell? ⟨(w.heap.size + 1), i, none⟩ = (#[.slice (some ⟨be, 0, none⟩) 4 4, .slice (some ⟨kt, 0, none⟩) 1 1] : Array Value)[i]? := fun i => blk_cell BC.out i
  have ltBC := blk_lt BC.out
  have ltBCA : ∀ k, (w.heap.size + 1) < Wa.heap.size + k := fun k => by omega
  have ltBCB : ∀ k j, (w.heap.size + 1) < Wa.heap.size + k + j := fun k j => by omega
  go_wp2_with fail
  clear hN hL h0 h1 h1' h2 hln hln' lbn lbl ln0 ln1 ln2 lln lbnA lbnB lblA lblB ln0A ln0B ln1A ln1B ln2A ln2B llnA llnB hE q0 q1 q1' q2 q3 qt lbe lk0 lk1 lk2 lk3 lkt lbeA lbeB lk0A lk0B lk1A lk1B lk2A lk2B lk3A lk3B lktA lktB hBD ltBD ltBDA ltBDB hBU ltBU ltBUA ltBUB hBC ltBC ltBCA ltBCB
  refine (pots_one bn bl n0 n1 n2 ln mx _ HU.out be k0 k1 k2 k3 kt cb ch cl cd ce ct HC.out HLOW.out dd BD.out).mono ?_
  rintro e w2 ⟨qs, qk, SS, KK, rfl, hqs, hqk, hS0, hK0, hb⟩
  replace HB := Aside0.mk (below_step HB.out hb)
  replace HU := Aside0.mk (HU.out.below hb)
  replace HC := Aside0.mk (HC.out.below hb)
  replace BD := Aside0.mk (blk_below BD.out hb)
  replace BU := Aside0.mk (blk_below BU.out hb)
  replace BC := Aside0.mk (blk_below BC.out hb)
  clear hb
  have hq0 : w2.cell? ⟨qs, 0, none⟩ = some (.int .i64 (0)) := (blk_cell hqs 0).trans hS0
  have hk0 : w2.cell? ⟨qk, 0, none⟩ = some (.bool false) := (blk_cell hqk 0).trans hK0
  clear hqs hqk hS0 hK0
  obtain ⟨hN, hL, h0, h1, h1', h2, hln, hln'⟩ := HU.out.reads
  obtain ⟨lbn, lbl, ln0, ln1, ln2, lln⟩ := HU.out.lts
  have lbnA : ∀ k, bn < w2.heap.size + k := fun k => by omega
  have lbnB : ∀ k j, bn < w2.heap.size + k + j := fun k j => by omega
  have lblA : ∀ k, bl < w2.heap.size + k := fun k => by omega
  have lblB : ∀ k j, bl < w2.heap.size + k + j := fun k j => by omega
  have ln0A : ∀ k, n0 < w2.heap.size + k := fun k => by omega
  have ln0B : ∀ k j, n0 < w2.heap.size + k + j := fun k j => by omega
  have ln1A : ∀ k, n1 < w2.heap.size + k := fun k => by omega
  have ln1B : ∀ k j, n1 < w2.heap.size + k + j := fun k j => by omega
  have ln2A : ∀ k, n2 < w2.heap.size + k := fun k => by omega
  have ln2B : ∀ k j, n2 < w2.heap.size + k + j := fun k j => by omega
  have llnA : ∀ k, ln < w2.heap.size + k := fun k => by omega
  have llnB : ∀ k j, ln < w2.heap.size + k + j := fun k j => by omega
  obtain ⟨hE, q0, q1, q1', q2, q3, qt⟩ := HC.out.reads
  obtain ⟨lbe, lk0, lk1, lk2, lk3, lkt⟩ := HC.out.lts
  have lbeA : ∀ k, be < w2.heap.size + k := fun k => by omega
  have lbeB : ∀ k j, be < w2.heap.size + k + j := fun k j => by omega
  have lk0A : ∀ k, k0 < w2.heap.size + k := fun k => by omega
  have lk0B : ∀ k j, k0 < w2.heap.size + k + j := fun k j => by omega
  have lk1A : ∀ k, k1 < w2.heap.size + k := fun k => by omega
  have lk1B : ∀ k j, k1 < w2.heap.size + k + j := fun k j => by omega
  have lk2A : ∀ k, k2 < w2.heap.size + k := fun k => by omega
  have lk2B : ∀ k j, k2 < w2.heap.size + k + j := fun k j => by omega
  have lk3A : ∀ k, k3 < w2.heap.size + k := fun k => by omega
  have lk3B : ∀ k j, k3 < w2.heap.size + k + j := fun k j => by omega
  have lktA : ∀ k, kt < w2.heap.size + k := fun k => by omega
  have lktB : ∀ k j, kt < w2.heap.size + k + j := fun k j => by omega
  have hBD : ∀ i, w2.cell? ⟨dd, i, none⟩ = (#[.bool false, .bool true, .bool false, .bool false] : Array Value)[i]? := fun i => blk_cell BD.out i
  have ltBD := blk_lt BD.out
  have ltBDA : ∀ k, dd < w2.heap.size + k := fun k => by omega
  have ltBDB : ∀ k j, dd < w2.heap.size + k + j := fun k j => by omega
  have hBU : ∀ i, w2.cell? ⟨w.heap.size, i, none⟩ = (#[.string ⟨#[]⟩, .slice (some ⟨bn, 0, none⟩) 4 4, .slice (some ⟨bl, 0, none⟩) 1 1, .slice none 0 0, .slice none 0 0, .slice none 0 0, .slice none 0 0, .slice none 0 0, .slice none 0 0, .slice none 0 0] : Array Value)[i]? := fun i => blk_cell BU.out i
  have ltBU := blk_lt BU.out
  have ltBUA : ∀ k, w.heap.size < w2.heap.size + k := fun k => by omega
  have ltBUB : ∀ k j, w.heap.size < w2.heap.size + k + j := fun k j => by omega
  have hBC : ∀ i, w2.cell? ⟨(w.heap.size + 1), i, none⟩ = (#[.slice (some ⟨be, 0, none⟩) 4 4, .slice (some ⟨kt, 0, none⟩) 1 1] : Array Value)[i]? := fun i => blk_cell BC.out i
  have ltBC := blk_lt BC.out
  have ltBCA : ∀ k, (w.heap.size + 1) < w2.heap.size + k := fun k => by omega
  have ltBCB : ∀ k j, (w.heap.size + 1) < w2.heap.size + k + j := fun k j => by omega
  go_wp2_with fail
  go_ret2
  exact ⟨rfl, HB.out⟩
end Go.Proofs.Ytbeochkimihglaa.PHl
