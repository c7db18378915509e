/- heaviest.potentials over the unit: none. -/
import Derived.Test.YtbeochkimihglaaH22
namespace Go.Proofs.Ytbeochkimihglaa.PHl
open Go.RowKit Go.Proofs.YtbeochkimihglaaW.PrintWords Go.Proofs.YtbeochkimihglaaW.PrintLast Go.Proofs.YtbeochkimihglaaW.PrintMore
set_option linter.unusedVariables false
set_option linter.unusedSimpArgs false
def potS_none (ce a0 a2 a3 : Int) : Nat → Array Value
  | 0 => #[.int .i64 (a2 + a0), .int .i64 a2, .int .i64 (a2 + a3), .int .i64 0]
  | 1 => #[.int .i64 (a2 + a0 + ce), .int .i64 a2, .int .i64 (a2 + a3), .int .i64 0]
  | 2 => #[.int .i64 (a2 + a0 + ce), .int .i64 (a2 + ce), .int .i64 (a2 + a3), .int .i64 0]
  | 3 => #[.int .i64 (a2 + a0 + ce), .int .i64 (a2 + ce), .int .i64 (a2 + a3 + ce), .int .i64 0]
  | _ => #[.int .i64 (a2 + a0 + ce), .int .i64 (a2 + ce), .int .i64 (a2 + a3 + ce), .int .i64 ce]
set_option maxHeartbeats 8000000 in
set_option maxRecDepth 100000 in
theorem pot_none (bn bl n0 n1 n2 ln : Nat) (mx : Int) (w : World) (hU : UnitW w bn bl n0 n1 n2 ln mx) (be k0 k1 k2 k3 kt : Nat) (cb ch cl cd ce ct : Int) (hC : CostW w be k0 k1 k2 k3 kt cb ch cl cd ce ct) (hlow : Low cb ch cl cd ce ct mx) (dd : Nat) (hD : Blk w dd #[.bool false, .bool false, .bool false, .bool false] 4) (bs0 ge c : Nat) (a0 a1 a2 a3 : Int) (ga0 : 0 ≤ a0) (ga0' : a0 ≤ 20000) (ga1 : 0 ≤ a1) (ga1' : a1 ≤ 255) (ga2 : 0 ≤ a2) (ga2' : a2 ≤ 255) (ga3 : -510 ≤ a3) (ga3' : a3 ≤ 255) (hle : a1 + a3 ≤ 0) (hE : w.ownsRow bs0 74 4 (.slice (some ⟨ge, 0, none⟩) 4 c) 4 [.int .i64 0, .int .i64 0, .int .i64 1, .int .i64 a0, .int .i64 1, .int .i64 0, .int .i64 2, .int .i64 a1, .int .i64 1, .int .i64 1, .int .i64 3, .int .i64 a2, .int .i64 2, .int .i64 0, .int .i64 1, .int .i64 a3]) :
    Calls Try.prog 12 #[UV bn bl, CV be kt, .slice (some ⟨dd, 0, none⟩) 4 4, .slice (some ⟨ge, 0, none⟩) 4 c] w fun e w' => ∃ qs qk SS KK, e = .returned (.tuple #[.slice (some ⟨qs, 0, none⟩) 4 4, .slice (some ⟨qk, 0, none⟩) 4 4]) ∧ Blk w' qs SS 3 ∧ Blk w' qk KK 4 ∧ SS[0]? = some (.int .i64 (a2 + a0 + ce)) ∧ KK[0]? = some (.bool true) ∧ Below w.heap.size w w' := by
  have hu32 := Try.underlying32
  have hu34 := Try.underlying34
  have hu38 := Try.underlying38
  have hu46 := Try.underlying46
  have hu71 := Try.underlying71
  have hu74 := Try.underlying74
  obtain ⟨⟨gcb, gcb'⟩, ⟨gch, gch'⟩, ⟨gcl, gcl'⟩, ⟨gcd, gcd'⟩, ⟨gce, gce'⟩, ⟨gct, gct'⟩, gmx, gmx'⟩ := hlow
  have BD := Aside0.mk hD
  have HE1 := Aside0.mk hE
  clear hD hE
  have HU := Aside0.mk hU
  have HC := Aside0.mk hC
  have HB : Aside0 (Below w.heap.size w w) := ⟨Below.refl _ _⟩
  clear hU hC
  have HC0 := HC
  go_enter Try.func12, Try.ntmps12
  go_upto_region 1 with (fail)
  have hb : Below w.heap.size w ((w.alloc (.cells #[.string ⟨#[]⟩, .slice (some ⟨bn, 0, none⟩) 4 4, .slice (some ⟨bl, 0, none⟩) 1 1, .slice none 0 0, .slice none 0 0, .slice none 0 0, .slice none 0 0, .slice none 0 0, .slice none 0 0, .slice none 0 0] 32)).alloc (.cells #[.slice (some ⟨be, 0, none⟩) 4 4, .slice (some ⟨kt, 0, none⟩) 1 1] 34)) := (by repeat (first | with_reducible exact Below.refl _ _ | apply below_alloc | apply pw_below_drewN | apply below_drew1))
  have BU : Aside0 (Blk ((w.alloc (.cells #[.string ⟨#[]⟩, .slice (some ⟨bn, 0, none⟩) 4 4, .slice (some ⟨bl, 0, none⟩) 1 1, .slice none 0 0, .slice none 0 0, .slice none 0 0, .slice none 0 0, .slice none 0 0, .slice none 0 0, .slice none 0 0] 32)).alloc (.cells #[.slice (some ⟨be, 0, none⟩) 4 4, .slice (some ⟨kt, 0, none⟩) 1 1] 34)) w.heap.size #[.string ⟨#[]⟩, .slice (some ⟨bn, 0, none⟩) 4 4, .slice (some ⟨bl, 0, none⟩) 1 1, .slice none 0 0, .slice none 0 0, .slice none 0 0, .slice none 0 0, .slice none 0 0, .slice none 0 0, .slice none 0 0] 32) := ⟨(by (repeat (first | with_reducible exact heap_alloc_new _ _ | with_reducible exact heap_alloc2_new _ _ _ | with_reducible exact blk_at3 _ _ _ _ | with_reducible exact blk_at4 _ _ _ _ _ | refine blk_alloc ?_ _)))⟩
  have BC : Aside0 (Blk ((w.alloc (.cells #[.string ⟨#[]⟩, .slice (some ⟨bn, 0, none⟩) 4 4, .slice (some ⟨bl, 0, none⟩) 1 1, .slice none 0 0, .slice none 0 0, .slice none 0 0, .slice none 0 0, .slice none 0 0, .slice none 0 0, .slice none 0 0] 32)).alloc (.cells #[.slice (some ⟨be, 0, none⟩) 4 4, .slice (some ⟨kt, 0, none⟩) 1 1] 34)) (w.heap.size + 1) #[.slice (some ⟨be, 0, none⟩) 4 4, .slice (some ⟨kt, 0, none⟩) 1 1] 34) := ⟨(by (repeat (first | with_reducible exact heap_alloc_new _ _ | with_reducible exact heap_alloc2_new _ _ _ | with_reducible exact blk_at3 _ _ _ _ | with_reducible exact blk_at4 _ _ _ _ _ | refine blk_alloc ?_ _)))⟩
  replace HB := Aside0.mk (below_step HB.out hb)
  replace HU := Aside0.mk (HU.out.below hb)
  replace HC := Aside0.mk (HC.out.below hb)
  replace BD := Aside0.mk (blk_below BD.out hb)
  replace HE1 := Aside0.mk (pw_own_below HE1.out hb)
  clear hb
  generalize ((w.alloc (.cells #[.string ⟨#[]⟩, .slice (some ⟨bn, 0, none⟩) 4 4, .slice (some ⟨bl, 0, none⟩) 1 1, .slice none 0 0, .slice none 0 0, .slice none 0 0, .slice none 0 0, .slice none 0 0, .slice none 0 0, .slice none 0 0] 32)).alloc (.cells #[.slice (some ⟨be, 0, none⟩) 4 4, .slice (some ⟨kt, 0, none⟩) 1 1] 34)) = Wa at HU HC HB BD BU BC HE1 ⊢
  obtain ⟨hN, hL, h0, h1, h1', h2, hln, hln'⟩ := HU.out.reads
  obtain ⟨lbn, lbl, ln0, ln1, ln2, lln⟩ := HU.out.lts
  have lbnA : ∀ k, bn < Wa.heap.size + k := fun k => by omega
  have lbnB : ∀ k j, bn < Wa.heap.size + k + j := fun k j => by omega
  have lblA : ∀ k, bl < Wa.heap.size + k := fun k => by omega
  have lblB : ∀ k j, bl < Wa.heap.size + k + j := fun k j => by omega
  have ln0A : ∀ k, n0 < Wa.heap.size + k := fun k => by omega
  have ln0B : ∀ k j, n0 < Wa.heap.size + k + j := fun k j => by omega
  have ln1A : ∀ k, n1 < Wa.heap.size + k := fun k => by omega
  have ln1B : ∀ k j, n1 < Wa.heap.size + k + j := fun k j => by omega
  have ln2A : ∀ k, n2 < Wa.heap.size + k := fun k => by omega
  have ln2B : ∀ k j, n2 < Wa.heap.size + k + j := fun k j => by omega
  have llnA : ∀ k, ln < Wa.heap.size + k := fun k => by omega
  have llnB : ∀ k j, ln < Wa.heap.size + k + j := fun k j => by omega
  obtain ⟨hE, q0, q1, q1', q2, q3, qt⟩ := HC.out.reads
  obtain ⟨lbe, lk0, lk1, lk2, lk3, lkt⟩ := HC.out.lts
  have lbeA : ∀ k, be < Wa.heap.size + k := fun k => by omega
  have lbeB : ∀ k j, be < Wa.heap.size + k + j := fun k j => by omega
  have lk0A : ∀ k, k0 < Wa.heap.size + k := fun k => by omega
  have lk0B : ∀ k j, k0 < Wa.heap.size + k + j := fun k j => by omega
  have lk1A : ∀ k, k1 < Wa.heap.size + k := fun k => by omega
  have lk1B : ∀ k j, k1 < Wa.heap.size + k + j := fun k j => by omega
  have lk2A : ∀ k, k2 < Wa.heap.size + k := fun k => by omega
  have lk2B : ∀ k j, k2 < Wa.heap.size + k + j := fun k j => by omega
  have lk3A : ∀ k, k3 < Wa.heap.size + k := fun k => by omega
  have lk3B : ∀ k j, k3 < Wa.heap.size + k + j := fun k j => by omega
  have lktA : ∀ k, kt < Wa.heap.size + k := fun k => by omega
  have lktB : ∀ k j, kt < Wa.heap.size + k + j := fun k j => by omega
  have hBD : ∀ i, Wa.cell? ⟨dd, i, none⟩ = (#[.bool false, .bool false, .bool false, .bool false] : Array Value)[i]? := fun i => blk_cell BD.out i
  have ltBD := blk_lt BD.out
  have ltBDA : ∀ k, dd < Wa.heap.size + k := fun k => by omega
  have ltBDB : ∀ k j, dd < Wa.heap.size + k + j := fun k j => by omega
  have hBU : ∀ i, Wa.cell? ⟨w.heap.size, i, none⟩ = (#[.string ⟨#[]⟩, .slice (some ⟨bn, 0, none⟩) 4 4, .slice (some ⟨bl, 0, none⟩) 1 1, .slice none 0 0, .slice none 0 0, .slice none 0 0, .slice none 0 0, .slice none 0 0, .slice none 0 0, .slice none 0 0] : Array Value)[i]? := fun i => blk_cell BU.out i
  have ltBU := blk_lt BU.out
  have ltBUA : ∀ k, w.heap.size < Wa.heap.size + k := fun k => by omega
  have ltBUB : ∀ k j, w.heap.size < Wa.heap.size + k + j := fun k j => by omega
  have hBC : ∀ i, Wa.cell? ⟨(w.heap.size + 1), i, none⟩ = (#[.slice (some ⟨be, 0, none⟩) 4 4, .slice (some ⟨kt, 0, none⟩) 1 1] : Array Value)[i]? := fun i => blk_cell BC.out i
  have ltBC := blk_lt BC.out
  have ltBCA : ∀ k, (w.heap.size + 1) < Wa.heap.size + k := fun k => by omega
  have ltBCB : ∀ k j, (w.heap.size + 1) < Wa.heap.size + k + j := fun k j => by omega
  go_wp2_with fail
  clear hN hL h0 h1 h1' h2 hln hln' lbn lbl ln0 ln1 ln2 lln lbnA lbnB lblA lblB ln0A ln0B ln1A ln1B ln2A ln2B llnA llnB hE q0 q1 q1' q2 q3 qt lbe lk0 lk1 lk2 lk3 lkt lbeA lbeB lk0A lk0B lk1A lk1B lk2A lk2B lk3A lk3B lktA lktB hBD ltBD ltBDA ltBDB hBU ltBU ltBUA ltBUB hBC ltBC ltBCA ltBCB
  refine (end_calls bn bl n0 n1 n2 ln mx _ HU.out).mono ?_
  rintro e w2 ⟨rfl, hb⟩
  replace HB := Aside0.mk (below_step HB.out hb)
  replace HU := Aside0.mk (HU.out.below hb)
  replace HC := Aside0.mk (HC.out.below hb)
  replace BD := Aside0.mk (blk_below BD.out hb)
  replace BU := Aside0.mk (blk_below BU.out hb)
  replace BC := Aside0.mk (blk_below BC.out hb)
  replace HE1 := Aside0.mk (pw_own_below HE1.out hb)
  clear hb
  obtain ⟨hN, hL, h0, h1, h1', h2, hln, hln'⟩ := HU.out.reads
  obtain ⟨lbn, lbl, ln0, ln1, ln2, lln⟩ := HU.out.lts
  have lbnA : ∀ k, bn < w2.heap.size + k := fun k => by omega
  have lbnB : ∀ k j, bn < w2.heap.size + k + j := fun k j => by omega
  have lblA : ∀ k, bl < w2.heap.size + k := fun k => by omega
  have lblB : ∀ k j, bl < w2.heap.size + k + j := fun k j => by omega
  have ln0A : ∀ k, n0 < w2.heap.size + k := fun k => by omega
  have ln0B : ∀ k j, n0 < w2.heap.size + k + j := fun k j => by omega
  have ln1A : ∀ k, n1 < w2.heap.size + k := fun k => by omega
  have ln1B : ∀ k j, n1 < w2.heap.size + k + j := fun k j => by omega
  have ln2A : ∀ k, n2 < w2.heap.size + k := fun k => by omega
  have ln2B : ∀ k j, n2 < w2.heap.size + k + j := fun k j => by omega
  have llnA : ∀ k, ln < w2.heap.size + k := fun k => by omega
  have llnB : ∀ k j, ln < w2.heap.size + k + j := fun k j => by omega
  obtain ⟨hE, q0, q1, q1', q2, q3, qt⟩ := HC.out.reads
  obtain ⟨lbe, lk0, lk1, lk2, lk3, lkt⟩ := HC.out.lts
  have lbeA : ∀ k, be < w2.heap.size + k := fun k => by omega
  have lbeB : ∀ k j, be < w2.heap.size + k + j := fun k j => by omega
  have lk0A : ∀ k, k0 < w2.heap.size + k := fun k => by omega
  have lk0B : ∀ k j, k0 < w2.heap.size + k + j := fun k j => by omega
  have lk1A : ∀ k, k1 < w2.heap.size + k := fun k => by omega
  have lk1B : ∀ k j, k1 < w2.heap.size + k + j := fun k j => by omega
  have lk2A : ∀ k, k2 < w2.heap.size + k := fun k => by omega
  have lk2B : ∀ k j, k2 < w2.heap.size + k + j := fun k j => by omega
  have lk3A : ∀ k, k3 < w2.heap.size + k := fun k => by omega
  have lk3B : ∀ k j, k3 < w2.heap.size + k + j := fun k j => by omega
  have lktA : ∀ k, kt < w2.heap.size + k := fun k => by omega
  have lktB : ∀ k j, kt < w2.heap.size + k + j := fun k j => by omega
  have hBD : ∀ i, w2.cell? ⟨dd, i, none⟩ = (#[.bool false, .bool false, .bool false, .bool false] : Array Value)[i]? := fun i => blk_cell BD.out i
  have ltBD := blk_lt BD.out
  have ltBDA : ∀ k, dd < w2.heap.size + k := fun k => by omega
  have ltBDB : ∀ k j, dd < w2.heap.size + k + j := fun k j => by omega
  have hBU : ∀ i, w2.cell? ⟨w.heap.size, i, none⟩ = (#[.string ⟨#[]⟩, .slice (some ⟨bn, 0, none⟩) 4 4, .slice (some ⟨bl, 0, none⟩) 1 1, .slice none 0 0, .slice none 0 0, .slice none 0 0, .slice none 0 0, .slice none 0 0, .slice none 0 0, .slice none 0 0] : Array Value)[i]? := fun i => blk_cell BU.out i
  have ltBU := blk_lt BU.out
  have ltBUA : ∀ k, w.heap.size < w2.heap.size + k := fun k => by omega
  have ltBUB : ∀ k j, w.heap.size < w2.heap.size + k + j := fun k j => by omega
  have hBC : ∀ i, w2.cell? ⟨(w.heap.size + 1), i, none⟩ = (#[.slice (some ⟨be, 0, none⟩) 4 4, .slice (some ⟨kt, 0, none⟩) 1 1] : Array Value)[i]? := fun i => blk_cell BC.out i
  have ltBC := blk_lt BC.out
  have ltBCA : ∀ k, (w.heap.size + 1) < w2.heap.size + k := fun k => by omega
  have ltBCB : ∀ k j, (w.heap.size + 1) < w2.heap.size + k + j := fun k j => by omega
  go_wp2_with fail
  clear hN hL h0 h1 h1' h2 hln hln' lbn lbl ln0 ln1 ln2 lln lbnA lbnB lblA lblB ln0A ln0B ln1A ln1B ln2A ln2B llnA llnB hE q0 q1 q1' q2 q3 qt lbe lk0 lk1 lk2 lk3 lkt lbeA lbeB lk0A lk0B lk1A lk1B lk2A lk2B lk3A lk3B lktA lktB hBD ltBD ltBDA ltBDB hBU ltBU ltBUA ltBUB hBC ltBC ltBCA ltBCB
  refine (gone_calls bn bl n0 n1 n2 ln mx _ HU.out dd false false false false BD.out).mono ?_
  rintro e w3 ⟨B, rfl, hB0, hR, hb⟩
  replace HB := Aside0.mk (below_step HB.out hb)
  replace HU := Aside0.mk (HU.out.below hb)
  replace HC := Aside0.mk (HC.out.below hb)
  replace BD := Aside0.mk (blk_below BD.out hb)
  replace BU := Aside0.mk (blk_below BU.out hb)
  replace BC := Aside0.mk (blk_below BC.out hb)
  replace HE1 := Aside0.mk (pw_own_below HE1.out hb)
  clear hb
  have BB := Aside0.mk hR
  clear hR hB0
  obtain ⟨hN, hL, h0, h1, h1', h2, hln, hln'⟩ := HU.out.reads
  obtain ⟨lbn, lbl, ln0, ln1, ln2, lln⟩ := HU.out.lts
  have lbnA : ∀ k, bn < w3.heap.size + k := fun k => by omega
  have lbnB : ∀ k j, bn < w3.heap.size + k + j := fun k j => by omega
  have lblA : ∀ k, bl < w3.heap.size + k := fun k => by omega
  have lblB : ∀ k j, bl < w3.heap.size + k + j := fun k j => by omega
  have ln0A : ∀ k, n0 < w3.heap.size + k := fun k => by omega
  have ln0B : ∀ k j, n0 < w3.heap.size + k + j := fun k j => by omega
  have ln1A : ∀ k, n1 < w3.heap.size + k := fun k => by omega
  have ln1B : ∀ k j, n1 < w3.heap.size + k + j := fun k j => by omega
  have ln2A : ∀ k, n2 < w3.heap.size + k := fun k => by omega
  have ln2B : ∀ k j, n2 < w3.heap.size + k + j := fun k j => by omega
  have llnA : ∀ k, ln < w3.heap.size + k := fun k => by omega
  have llnB : ∀ k j, ln < w3.heap.size + k + j := fun k j => by omega
  obtain ⟨hE, q0, q1, q1', q2, q3, qt⟩ := HC.out.reads
  obtain ⟨lbe, lk0, lk1, lk2, lk3, lkt⟩ := HC.out.lts
  have lbeA : ∀ k, be < w3.heap.size + k := fun k => by omega
  have lbeB : ∀ k j, be < w3.heap.size + k + j := fun k j => by omega
  have lk0A : ∀ k, k0 < w3.heap.size + k := fun k => by omega
  have lk0B : ∀ k j, k0 < w3.heap.size + k + j := fun k j => by omega
  have lk1A : ∀ k, k1 < w3.heap.size + k := fun k => by omega
  have lk1B : ∀ k j, k1 < w3.heap.size + k + j := fun k j => by omega
  have lk2A : ∀ k, k2 < w3.heap.size + k := fun k => by omega
  have lk2B : ∀ k j, k2 < w3.heap.size + k + j := fun k j => by omega
  have lk3A : ∀ k, k3 < w3.heap.size + k := fun k => by omega
  have lk3B : ∀ k j, k3 < w3.heap.size + k + j := fun k j => by omega
  have lktA : ∀ k, kt < w3.heap.size + k := fun k => by omega
  have lktB : ∀ k j, kt < w3.heap.size + k + j := fun k j => by omega
  have hBD : ∀ i, w3.cell? ⟨dd, i, none⟩ = (#[.bool false, .bool false, .bool false, .bool false] : Array Value)[i]? := fun i => blk_cell BD.out i
  have ltBD := blk_lt BD.out
  have ltBDA : ∀ k, dd < w3.heap.size + k := fun k => by omega
  have ltBDB : ∀ k j, dd < w3.heap.size + k + j := fun k j => by omega
  have hBU : ∀ i, w3.cell? ⟨w.heap.size, i, none⟩ = (#[.string ⟨#[]⟩, .slice (some ⟨bn, 0, none⟩) 4 4, .slice (some ⟨bl, 0, none⟩) 1 1, .slice none 0 0, .slice none 0 0, .slice none 0 0, .slice none 0 0, .slice none 0 0, .slice none 0 0, .slice none 0 0] : Array Value)[i]? := fun i => blk_cell BU.out i
  have ltBU := blk_lt BU.out
  have ltBUA : ∀ k, w.heap.size < w3.heap.size + k := fun k => by omega
  have ltBUB : ∀ k j, w.heap.size < w3.heap.size + k + j := fun k j => by omega
  have hBC : ∀ i, w3.cell? ⟨(w.heap.size + 1), i, none⟩ = (#[.slice (some ⟨be, 0, none⟩) 4 4, .slice (some ⟨kt, 0, none⟩) 1 1] : Array Value)[i]? := fun i => blk_cell BC.out i
  have ltBC := blk_lt BC.out
  have ltBCA : ∀ k, (w.heap.size + 1) < w3.heap.size + k := fun k => by omega
  have ltBCB : ∀ k j, (w.heap.size + 1) < w3.heap.size + k + j := fun k j => by omega
  have hBB : ∀ i, w3.cell? ⟨B, i, none⟩ = (#[.bool false, .bool false, .bool false, .bool false] : Array Value)[i]? := fun i => blk_cell BB.out i
  have ltBB := blk_lt BB.out
  have ltBBA : ∀ k, B < w3.heap.size + k := fun k => by omega
  have ltBBB : ∀ k j, B < w3.heap.size + k + j := fun k j => by omega
  go_wp2_with fail
  clear hN hL h0 h1 h1' h2 hln hln' lbn lbl ln0 ln1 ln2 lln lbnA lbnB lblA lblB ln0A ln0B ln1A ln1B ln2A ln2B llnA llnB hE q0 q1 q1' q2 q3 qt lbe lk0 lk1 lk2 lk3 lkt lbeA lbeB lk0A lk0B lk1A lk1B lk2A lk2B lk3A lk3B lktA lktB hBD ltBD ltBDA ltBDB hBU ltBU ltBUA ltBUB hBC ltBC ltBCA ltBCB hBB ltBB ltBBA ltBBB
  refine (call_opn_none _ ge c B a0 a1 a2 a3 _ HE1.out BB.out).mono ?_
  rintro e w4 ⟨g2, c2, rfl, ho, hb⟩
  replace HB := Aside0.mk (below_step HB.out hb)
  replace HU := Aside0.mk (HU.out.below hb)
  replace HC := Aside0.mk (HC.out.below hb)
  replace BD := Aside0.mk (blk_below BD.out hb)
  replace BU := Aside0.mk (blk_below BU.out hb)
  replace BC := Aside0.mk (blk_below BC.out hb)
  replace BB := Aside0.mk (blk_below BB.out hb)
  replace HE1 := Aside0.mk (pw_own_below HE1.out hb)
  clear hb
  have HE2 := Aside0.mk ho
  clear ho
  obtain ⟨hN, hL, h0, h1, h1', h2, hln, hln'⟩ := HU.out.reads
  obtain ⟨lbn, lbl, ln0, ln1, ln2, lln⟩ := HU.out.lts
  have lbnA : ∀ k, bn < w4.heap.size + k := fun k => by omega
  have lbnB : ∀ k j, bn < w4.heap.size + k + j := fun k j => by omega
  have lblA : ∀ k, bl < w4.heap.size + k := fun k => by omega
  have lblB : ∀ k j, bl < w4.heap.size + k + j := fun k j => by omega
  have ln0A : ∀ k, n0 < w4.heap.size + k := fun k => by omega
  have ln0B : ∀ k j, n0 < w4.heap.size + k + j := fun k j => by omega
  have ln1A : ∀ k, n1 < w4.heap.size + k := fun k => by omega
  have ln1B : ∀ k j, n1 < w4.heap.size + k + j := fun k j => by omega
  have ln2A : ∀ k, n2 < w4.heap.size + k := fun k => by omega
  have ln2B : ∀ k j, n2 < w4.heap.size + k + j := fun k j => by omega
  have llnA : ∀ k, ln < w4.heap.size + k := fun k => by omega
  have llnB : ∀ k j, ln < w4.heap.size + k + j := fun k j => by omega
  obtain ⟨hE, q0, q1, q1', q2, q3, qt⟩ := HC.out.reads
  obtain ⟨lbe, lk0, lk1, lk2, lk3, lkt⟩ := HC.out.lts
  have lbeA : ∀ k, be < w4.heap.size + k := fun k => by omega
  have lbeB : ∀ k j, be < w4.heap.size + k + j := fun k j => by omega
  have lk0A : ∀ k, k0 < w4.heap.size + k := fun k => by omega
  have lk0B : ∀ k j, k0 < w4.heap.size + k + j := fun k j => by omega
  have lk1A : ∀ k, k1 < w4.heap.size + k := fun k => by omega
  have lk1B : ∀ k j, k1 < w4.heap.size + k + j := fun k j => by omega
  have lk2A : ∀ k, k2 < w4.heap.size + k := fun k => by omega
  have lk2B : ∀ k j, k2 < w4.heap.size + k + j := fun k j => by omega
  have lk3A : ∀ k, k3 < w4.heap.size + k := fun k => by omega
  have lk3B : ∀ k j, k3 < w4.heap.size + k + j := fun k j => by omega
  have lktA : ∀ k, kt < w4.heap.size + k := fun k => by omega
  have lktB : ∀ k j, kt < w4.heap.size + k + j := fun k j => by omega
  have hBD : ∀ i, w4.cell? ⟨dd, i, none⟩ = (#[.bool false, .bool false, .bool false, .bool false] : Array Value)[i]? := fun i => blk_cell BD.out i
  have ltBD := blk_lt BD.out
  have ltBDA : ∀ k, dd < w4.heap.size + k := fun k => by omega
  have ltBDB : ∀ k j, dd < w4.heap.size + k + j := fun k j => by omega
  have hBU : ∀ i, w4.cell? ⟨w.heap.size, i, none⟩ = (#[.string ⟨#[]⟩, .slice (some ⟨bn, 0, none⟩) 4 4, .slice (some ⟨bl, 0, none⟩) 1 1, .slice none 0 0, .slice none 0 0, .slice none 0 0, .slice none 0 0, .slice none 0 0, .slice none 0 0, .slice none 0 0] : Array Value)[i]? := fun i => blk_cell BU.out i
  have ltBU := blk_lt BU.out
  have ltBUA : ∀ k, w.heap.size < w4.heap.size + k := fun k => by omega
  have ltBUB : ∀ k j, w.heap.size < w4.heap.size + k + j := fun k j => by omega
  have hBC : ∀ i, w4.cell? ⟨(w.heap.size + 1), i, none⟩ = (#[.slice (some ⟨be, 0, none⟩) 4 4, .slice (some ⟨kt, 0, none⟩) 1 1] : Array Value)[i]? := fun i => blk_cell BC.out i
  have ltBC := blk_lt BC.out
  have ltBCA : ∀ k, (w.heap.size + 1) < w4.heap.size + k := fun k => by omega
  have ltBCB : ∀ k j, (w.heap.size + 1) < w4.heap.size + k + j := fun k j => by omega
  have hBB : ∀ i, w4.cell? ⟨B, i, none⟩ = (#[.bool false, .bool false, .bool false, .bool false] : Array Value)[i]? := fun i => blk_cell BB.out i
  have ltBB := blk_lt BB.out
  have ltBBA : ∀ k, B < w4.heap.size + k := fun k => by omega
  have ltBBB : ∀ k j, B < w4.heap.size + k + j := fun k j => by omega
  go_wp2_with fail
  clear hN hL h0 h1 h1' h2 hln hln' lbn lbl ln0 ln1 ln2 lln lbnA lbnB lblA lblB ln0A ln0B ln1A ln1B ln2A ln2B llnA llnB hE q0 q1 q1' q2 q3 qt lbe lk0 lk1 lk2 lk3 lkt lbeA lbeB lk0A lk0B lk1A lk1B lk2A lk2B lk3A lk3B lktA lktB hBD ltBD ltBDA ltBDB hBU ltBU ltBUA ltBUB hBC ltBC ltBCA ltBCB hBB ltBB ltBBA ltBBB
  refine (turned_four _ g2 c2 a0 a1 a2 a3 _ HE2.out).mono ?_
  rintro e w5 ⟨g3, c3, rfl, ho, hb⟩
  replace HB := Aside0.mk (below_step HB.out hb)
  replace HU := Aside0.mk (HU.out.below hb)
  replace HC := Aside0.mk (HC.out.below hb)
  replace BD := Aside0.mk (blk_below BD.out hb)
  replace BU := Aside0.mk (blk_below BU.out hb)
  replace BC := Aside0.mk (blk_below BC.out hb)
  replace BB := Aside0.mk (blk_below BB.out hb)
  replace HE2 := Aside0.mk (pw_own_below HE2.out hb)
  clear hb
  have HE3 := Aside0.mk ho
  clear ho HE2
  obtain ⟨hN, hL, h0, h1, h1', h2, hln, hln'⟩ := HU.out.reads
  obtain ⟨lbn, lbl, ln0, ln1, ln2, lln⟩ := HU.out.lts
  have lbnA : ∀ k, bn < w5.heap.size + k := fun k => by omega
  have lbnB : ∀ k j, bn < w5.heap.size + k + j := fun k j => by omega
  have lblA : ∀ k, bl < w5.heap.size + k := fun k => by omega
  have lblB : ∀ k j, bl < w5.heap.size + k + j := fun k j => by omega
  have ln0A : ∀ k, n0 < w5.heap.size + k := fun k => by omega
  have ln0B : ∀ k j, n0 < w5.heap.size + k + j := fun k j => by omega
  have ln1A : ∀ k, n1 < w5.heap.size + k := fun k => by omega
  have ln1B : ∀ k j, n1 < w5.heap.size + k + j := fun k j => by omega
  have ln2A : ∀ k, n2 < w5.heap.size + k := fun k => by omega
  have ln2B : ∀ k j, n2 < w5.heap.size + k + j := fun k j => by omega
  have llnA : ∀ k, ln < w5.heap.size + k := fun k => by omega
  have llnB : ∀ k j, ln < w5.heap.size + k + j := fun k j => by omega
  obtain ⟨hE, q0, q1, q1', q2, q3, qt⟩ := HC.out.reads
  obtain ⟨lbe, lk0, lk1, lk2, lk3, lkt⟩ := HC.out.lts
  have lbeA : ∀ k, be < w5.heap.size + k := fun k => by omega
  have lbeB : ∀ k j, be < w5.heap.size + k + j := fun k j => by omega
  have lk0A : ∀ k, k0 < w5.heap.size + k := fun k => by omega
  have lk0B : ∀ k j, k0 < w5.heap.size + k + j := fun k j => by omega
  have lk1A : ∀ k, k1 < w5.heap.size + k := fun k => by omega
  have lk1B : ∀ k j, k1 < w5.heap.size + k + j := fun k j => by omega
  have lk2A : ∀ k, k2 < w5.heap.size + k := fun k => by omega
  have lk2B : ∀ k j, k2 < w5.heap.size + k + j := fun k j => by omega
  have lk3A : ∀ k, k3 < w5.heap.size + k := fun k => by omega
  have lk3B : ∀ k j, k3 < w5.heap.size + k + j := fun k j => by omega
  have lktA : ∀ k, kt < w5.heap.size + k := fun k => by omega
  have lktB : ∀ k j, kt < w5.heap.size + k + j := fun k j => by omega
  have hBD : ∀ i, w5.cell? ⟨dd, i, none⟩ = (#[.bool false, .bool false, .bool false, .bool false] : Array Value)[i]? := fun i => blk_cell BD.out i
  have ltBD := blk_lt BD.out
  have ltBDA : ∀ k, dd < w5.heap.size + k := fun k => by omega
  have ltBDB : ∀ k j, dd < w5.heap.size + k + j := fun k j => by omega
  have hBU : ∀ i, w5.cell? ⟨w.heap.size, i, none⟩ = (#[.string ⟨#[]⟩, .slice (some ⟨bn, 0, none⟩) 4 4, .slice (some ⟨bl, 0, none⟩) 1 1, .slice none 0 0, .slice none 0 0, .slice none 0 0, .slice none 0 0, .slice none 0 0, .slice none 0 0, .slice none 0 0] : Array Value)[i]? := fun i => blk_cell BU.out i
  have ltBU := blk_lt BU.out
  have ltBUA : ∀ k, w.heap.size < w5.heap.size + k := fun k => by omega
  have ltBUB : ∀ k j, w.heap.size < w5.heap.size + k + j := fun k j => by omega
  have hBC : ∀ i, w5.cell? ⟨(w.heap.size + 1), i, none⟩ = (#[.slice (some ⟨be, 0, none⟩) 4 4, .slice (some ⟨kt, 0, none⟩) 1 1] : Array Value)[i]? := fun i => blk_cell BC.out i
  have ltBC := blk_lt BC.out
  have ltBCA : ∀ k, (w.heap.size + 1) < w5.heap.size + k := fun k => by omega
  have ltBCB : ∀ k j, (w.heap.size + 1) < w5.heap.size + k + j := fun k j => by omega
  have hBB : ∀ i, w5.cell? ⟨B, i, none⟩ = (#[.bool false, .bool false, .bool false, .bool false] : Array Value)[i]? := fun i => blk_cell BB.out i
  have ltBB := blk_lt BB.out
  have ltBBA : ∀ k, B < w5.heap.size + k := fun k => by omega
  have ltBBB : ∀ k j, B < w5.heap.size + k + j := fun k j => by omega
  go_wp2_with fail
  clear hN hL h0 h1 h1' h2 hln hln' lbn lbl ln0 ln1 ln2 lln lbnA lbnB lblA lblB ln0A ln0B ln1A ln1B ln2A ln2B llnA llnB hE q0 q1 q1' q2 q3 qt lbe lk0 lk1 lk2 lk3 lkt lbeA lbeB lk0A lk0B lk1A lk1B lk2A lk2B lk3A lk3B lktA lktB hBD ltBD ltBDA ltBDB hBU ltBU ltBUA ltBUB hBC ltBC ltBCA ltBCB hBB ltBB ltBBA ltBBB
  have HSZ : Aside0 (w.heap.size ≤ w5.heap.size) := ⟨HB.out.size⟩
  refine (spread_calls _ g3 c3 3 _ _ _ _ _ _ (SpV.v_four a0 a1 a2 a3 ga0 ga0' ga1 ga1' ga2 ga2' ga3 ga3' hle) HE3.out).mono ?_
  rintro e w6 ⟨bk, bs, bb, rfl, hbs, hK, hS, hY, hb⟩
  have HBS : Aside0 (w.heap.size ≤ bs) := ⟨Nat.le_trans HSZ.out hbs⟩
  replace HB := Aside0.mk (below_step HB.out hb)
  replace HU := Aside0.mk (HU.out.below hb)
  replace HC := Aside0.mk (HC.out.below hb)
  replace BD := Aside0.mk (blk_below BD.out hb)
  replace BU := Aside0.mk (blk_below BU.out hb)
  replace BC := Aside0.mk (blk_below BC.out hb)
  replace BB := Aside0.mk (blk_below BB.out hb)
  replace HE3 := Aside0.mk (pw_own_below HE3.out hb)
  clear hb
  have BK := Aside0.mk hK
  have BS := Aside0.mk hS
  clear hK hS hY hbs HE3 HSZ
  go_upto_region 7 with (fail)
  have hb : Below w6.heap.size w6 (w6.alloc (.cells #[.slice (some ⟨bk, 0, none⟩) 4 4, .slice (some ⟨bs, 0, none⟩) 4 4, .slice (some ⟨bb, 0, none⟩) 4 4] 71)) := (by repeat (first | with_reducible exact Below.refl _ _ | apply below_alloc | apply pw_below_drewN | apply below_drew1))
  have BX : Aside0 (Blk (w6.alloc (.cells #[.slice (some ⟨bk, 0, none⟩) 4 4, .slice (some ⟨bs, 0, none⟩) 4 4, .slice (some ⟨bb, 0, none⟩) 4 4] 71)) w6.heap.size #[.slice (some ⟨bk, 0, none⟩) 4 4, .slice (some ⟨bs, 0, none⟩) 4 4, .slice (some ⟨bb, 0, none⟩) 4 4] 71) := ⟨(by (repeat (first | with_reducible exact heap_alloc_new _ _ | with_reducible exact heap_alloc2_new _ _ _ | with_reducible exact blk_at3 _ _ _ _ | with_reducible exact blk_at4 _ _ _ _ _ | refine blk_alloc ?_ _)))⟩
  replace HB := Aside0.mk (below_step HB.out hb)
  replace HU := Aside0.mk (HU.out.below hb)
  replace HC := Aside0.mk (HC.out.below hb)
  replace BD := Aside0.mk (blk_below BD.out hb)
  replace BU := Aside0.mk (blk_below BU.out hb)
  replace BC := Aside0.mk (blk_below BC.out hb)
  replace BB := Aside0.mk (blk_below BB.out hb)
  replace BK := Aside0.mk (blk_below BK.out hb)
  replace BS := Aside0.mk (blk_below BS.out hb)
  clear hb
  generalize (w6.alloc (.cells #[.slice (some ⟨bk, 0, none⟩) 4 4, .slice (some ⟨bs, 0, none⟩) 4 4, .slice (some ⟨bb, 0, none⟩) 4 4] 71)) = Wc at HU HC HB BD BU BC BB BK BS BX ⊢
  obtain ⟨bx, HBX⟩ : ∃ b, Aside0 (b = w6.heap.size) := ⟨_, ⟨rfl⟩⟩
  rw [← HBX.out] at BX ⊢
  obtain ⟨hN, hL, h0, h1, h1', h2, hln, hln'⟩ := HU.out.reads
  obtain ⟨lbn, lbl, ln0, ln1, ln2, lln⟩ := HU.out.lts
  have lbnA : ∀ k, bn < Wc.heap.size + k := fun k => by omega
  have lbnB : ∀ k j, bn < Wc.heap.size + k + j := fun k j => by omega
  have lblA : ∀ k, bl < Wc.heap.size + k := fun k => by omega
  have lblB : ∀ k j, bl < Wc.heap.size + k + j := fun k j => by omega
  have ln0A : ∀ k, n0 < Wc.heap.size + k := fun k => by omega
  have ln0B : ∀ k j, n0 < Wc.heap.size + k + j := fun k j => by omega
  have ln1A : ∀ k, n1 < Wc.heap.size + k := fun k => by omega
  have ln1B : ∀ k j, n1 < Wc.heap.size + k + j := fun k j => by omega
  have ln2A : ∀ k, n2 < Wc.heap.size + k := fun k => by omega
  have ln2B : ∀ k j, n2 < Wc.heap.size + k + j := fun k j => by omega
  have llnA : ∀ k, ln < Wc.heap.size + k := fun k => by omega
  have llnB : ∀ k j, ln < Wc.heap.size + k + j := fun k j => by omega
  obtain ⟨hE, q0, q1, q1', q2, q3, qt⟩ := HC.out.reads
  obtain ⟨lbe, lk0, lk1, lk2, lk3, lkt⟩ := HC.out.lts
  have lbeA : ∀ k, be < Wc.heap.size + k := fun k => by omega
  have lbeB : ∀ k j, be < Wc.heap.size + k + j := fun k j => by omega
  have lk0A : ∀ k, k0 < Wc.heap.size + k := fun k => by omega
  have lk0B : ∀ k j, k0 < Wc.heap.size + k + j := fun k j => by omega
  have lk1A : ∀ k, k1 < Wc.heap.size + k := fun k => by omega
  have lk1B : ∀ k j, k1 < Wc.heap.size + k + j := fun k j => by omega
  have lk2A : ∀ k, k2 < Wc.heap.size + k := fun k => by omega
  have lk2B : ∀ k j, k2 < Wc.heap.size + k + j := fun k j => by omega
  have lk3A : ∀ k, k3 < Wc.heap.size + k := fun k => by omega
  have lk3B : ∀ k j, k3 < Wc.heap.size + k + j := fun k j => by omega
  have lktA : ∀ k, kt < Wc.heap.size + k := fun k => by omega
  have lktB : ∀ k j, kt < Wc.heap.size + k + j := fun k j => by omega
  have hBD : ∀ i, Wc.cell? ⟨dd, i, none⟩ = (#[.bool false, .bool false, .bool false, .bool false] : Array Value)[i]? := fun i => blk_cell BD.out i
  have ltBD := blk_lt BD.out
  have ltBDA : ∀ k, dd < Wc.heap.size + k := fun k => by omega
  have ltBDB : ∀ k j, dd < Wc.heap.size + k + j := fun k j => by omega
  have hBU : ∀ i, Wc.cell? ⟨w.heap.size, i, none⟩ = (#[.string ⟨#[]⟩, .slice (some ⟨bn, 0, none⟩) 4 4, .slice (some ⟨bl, 0, none⟩) 1 1, .slice none 0 0, .slice none 0 0, .slice none 0 0, .slice none 0 0, .slice none 0 0, .slice none 0 0, .slice none 0 0] : Array Value)[i]? := fun i => blk_cell BU.out i
  have ltBU := blk_lt BU.out
  have ltBUA : ∀ k, w.heap.size < Wc.heap.size + k := fun k => by omega
  have ltBUB : ∀ k j, w.heap.size < Wc.heap.size + k + j := fun k j => by omega
  have hBC : ∀ i, Wc.cell? ⟨(w.heap.size + 1), i, none⟩ = (#[.slice (some ⟨be, 0, none⟩) 4 4, .slice (some ⟨kt, 0, none⟩) 1 1] : Array Value)[i]? := fun i => blk_cell BC.out i
  have ltBC := blk_lt BC.out
  have ltBCA : ∀ k, (w.heap.size + 1) < Wc.heap.size + k := fun k => by omega
  have ltBCB : ∀ k j, (w.heap.size + 1) < Wc.heap.size + k + j := fun k j => by omega
  have hBB : ∀ i, Wc.cell? ⟨B, i, none⟩ = (#[.bool false, .bool false, .bool false, .bool false] : Array Value)[i]? := fun i => blk_cell BB.out i
  have ltBB := blk_lt BB.out
  have ltBBA : ∀ k, B < Wc.heap.size + k := fun k => by omega
  have ltBBB : ∀ k j, B < Wc.heap.size + k + j := fun k j => by omega
  have hBK : ∀ i, Wc.cell? ⟨bk, i, none⟩ = (#[.bool true, .bool true, .bool true, .bool true] : Array Value)[i]? := fun i => blk_cell BK.out i
  have ltBK := blk_lt BK.out
  have ltBKA : ∀ k, bk < Wc.heap.size + k := fun k => by omega
  have ltBKB : ∀ k j, bk < Wc.heap.size + k + j := fun k j => by omega
  have hBS : ∀ i, Wc.cell? ⟨bs, i, none⟩ = (#[.int .i64 (a2 + a0), .int .i64 a2, .int .i64 (a2 + a3), .int .i64 0] : Array Value)[i]? := fun i => blk_cell BS.out i
  have ltBS := blk_lt BS.out
  have ltBSA : ∀ k, bs < Wc.heap.size + k := fun k => by omega
  have ltBSB : ∀ k j, bs < Wc.heap.size + k + j := fun k j => by omega
  have fzBS := fun j => blk_frozen BS.out j
  have hBX : ∀ i, Wc.cell? ⟨bx, i, none⟩ = (#[.slice (some ⟨bk, 0, none⟩) 4 4, .slice (some ⟨bs, 0, none⟩) 4 4, .slice (some ⟨bb, 0, none⟩) 4 4] : Array Value)[i]? := fun i => blk_cell BX.out i
  have ltBX := blk_lt BX.out
  have ltBXA : ∀ k, bx < Wc.heap.size + k := fun k => by omega
  have ltBXB : ∀ k j, bx < Wc.heap.size + k + j := fun k j => by omega
  go_wp2_with fail
  go_loopg [40] 4 (fun gg s40 wr => ∃ i : Nat, i ≤ 4 ∧ 4 - i ≤ gg ∧ s40 = .int .i64 i ∧ Aside0 (Blk wr bx #[.slice (some ⟨bk, 0, none⟩) 4 4, .slice (some ⟨bs, 0, none⟩) 4 4, .slice (some ⟨bb, 0, none⟩) 4 4] 71 ∧ Blk wr bk #[.bool true, .bool true, .bool true, .bool true] 4 ∧ Blk wr bs (potS_none ce a0 a2 a3 i) 3 ∧ Blk wr (w.heap.size + 1) #[.slice (some ⟨be, 0, none⟩) 4 4, .slice (some ⟨kt, 0, none⟩) 1 1] 34 ∧ Below w.heap.size w wr))
  case atStart => exact ⟨0, by omega, by omega, rfl, ⟨BX.out, BK.out, BS.out, BC.out, HB.out⟩⟩
  case round =>
    clear hN hL h0 h1 h1' h2 hln hln' lbn lbl ln0 ln1 ln2 lln lbnA lbnB lblA lblB ln0A ln0B ln1A ln1B ln2A ln2B llnA llnB hE q0 q1 q1' q2 q3 qt lbe lk0 lk1 lk2 lk3 lkt lbeA lbeB lk0A lk0B lk1A lk1B lk2A lk2B lk3A lk3B lktA lktB hBD ltBD ltBDA ltBDB hBU ltBU ltBUA ltBUB hBC ltBC ltBCA ltBCB hBB ltBB ltBBA ltBBB hBK ltBK ltBKA ltBKB hBS ltBS ltBSA ltBSB fzBS hBX ltBX ltBXA ltBXB
    clear BX BK BS BC HB HU HC BU BD BB HBX
    obtain ⟨i, hi, hg, rfl, HP⟩ := hrel
    have HB := Aside0.mk HP.out.2.2.2.2
    have BX := Aside0.mk HP.out.1
    have BK := Aside0.mk HP.out.2.1
    have BC := Aside0.mk HP.out.2.2.2.1
    have HC := Aside0.mk (HC0.out.below HB.out)
    rcases (show i = 0 ∨ i = 1 ∨ i = 2 ∨ i = 3 ∨ i = 4 by omega) with rfl | rfl | rfl | rfl | rfl
    · have BS : Aside0 (Blk wr bs #[.int .i64 (a2 + a0), .int .i64 a2, .int .i64 (a2 + a3), .int .i64 0] 3) := ⟨HP.out.2.2.1⟩
      clear HP
      obtain ⟨hE, q0, q1, q1', q2, q3, qt⟩ := HC.out.reads
      obtain ⟨lbe, lk0, lk1, lk2, lk3, lkt⟩ := HC.out.lts
      have lbeA : ∀ k, be < wr.heap.size + k := fun k => by omega
      have lbeB : ∀ k j, be < wr.heap.size + k + j := fun k j => by omega
      have lk0A : ∀ k, k0 < wr.heap.size + k := fun k => by omega
      have lk0B : ∀ k j, k0 < wr.heap.size + k + j := fun k j => by omega
      have lk1A : ∀ k, k1 < wr.heap.size + k := fun k => by omega
      have lk1B : ∀ k j, k1 < wr.heap.size + k + j := fun k j => by omega
      have lk2A : ∀ k, k2 < wr.heap.size + k := fun k => by omega
      have lk2B : ∀ k j, k2 < wr.heap.size + k + j := fun k j => by omega
      have lk3A : ∀ k, k3 < wr.heap.size + k := fun k => by omega
      have lk3B : ∀ k j, k3 < wr.heap.size + k + j := fun k j => by omega
      have lktA : ∀ k, kt < wr.heap.size + k := fun k => by omega
      have lktB : ∀ k j, kt < wr.heap.size + k + j := fun k j => by omega
      have hBS : ∀ i, wr.cell? ⟨bs, i, none⟩ = (#[.int .i64 (a2 + a0), .int .i64 a2, .int .i64 (a2 + a3), .int .i64 0] : Array Value)[i]? := fun i => blk_cell BS.out i
      have ltBS := blk_lt BS.out
      have ltBSA : ∀ k, bs < wr.heap.size + k := fun k => by omega
      have ltBSB : ∀ k j, bs < wr.heap.size + k + j := fun k j => by omega
      have fzBS := fun j => blk_frozen BS.out j
      have hBK : ∀ i, wr.cell? ⟨bk, i, none⟩ = (#[.bool true, .bool true, .bool true, .bool true] : Array Value)[i]? := fun i => blk_cell BK.out i
      have ltBK := blk_lt BK.out
      have ltBKA : ∀ k, bk < wr.heap.size + k := fun k => by omega
      have ltBKB : ∀ k j, bk < wr.heap.size + k + j := fun k j => by omega
      have hBX : ∀ i, wr.cell? ⟨bx, i, none⟩ = (#[.slice (some ⟨bk, 0, none⟩) 4 4, .slice (some ⟨bs, 0, none⟩) 4 4, .slice (some ⟨bb, 0, none⟩) 4 4] : Array Value)[i]? := fun i => blk_cell BX.out i
      have ltBX := blk_lt BX.out
      have ltBXA : ∀ k, bx < wr.heap.size + k := fun k => by omega
      have ltBXB : ∀ k j, bx < wr.heap.size + k + j := fun k j => by omega
      have hBC : ∀ i, wr.cell? ⟨(w.heap.size + 1), i, none⟩ = (#[.slice (some ⟨be, 0, none⟩) 4 4, .slice (some ⟨kt, 0, none⟩) 1 1] : Array Value)[i]? := fun i => blk_cell BC.out i
      have ltBC := blk_lt BC.out
      have ltBCA : ∀ k, (w.heap.size + 1) < wr.heap.size + k := fun k => by omega
      have ltBCB : ∀ k j, (w.heap.size + 1) < wr.heap.size + k + j := fun k j => by omega
      go_wp2_with fail
      go_region
      go_wp2_with fail
      go_roundg (4 - 1)
      case measure => omega
      case rel =>
        exact ⟨1, by omega, by omega, by go_num, ⟨blk_drew (blk_far BX.out (blk_ne BX.out BS.out (by decide)) _), blk_drew (blk_far BK.out (blk_ne BK.out BS.out (by decide)) _), blk_drew (blk_set BS.out 0 _), blk_drew (blk_far BC.out (blk_ne BC.out BS.out (by decide)) _), below_drew1 (bset HB.out HBS.out _ _)⟩⟩
    · have BS : Aside0 (Blk wr bs #[.int .i64 (a2 + a0 + ce), .int .i64 a2, .int .i64 (a2 + a3), .int .i64 0] 3) := ⟨HP.out.2.2.1⟩
      clear HP
      obtain ⟨hE, q0, q1, q1', q2, q3, qt⟩ := HC.out.reads
      obtain ⟨lbe, lk0, lk1, lk2, lk3, lkt⟩ := HC.out.lts
      have lbeA : ∀ k, be < wr.heap.size + k := fun k => by omega
      have lbeB : ∀ k j, be < wr.heap.size + k + j := fun k j => by omega
      have lk0A : ∀ k, k0 < wr.heap.size + k := fun k => by omega
      have lk0B : ∀ k j, k0 < wr.heap.size + k + j := fun k j => by omega
      have lk1A : ∀ k, k1 < wr.heap.size + k := fun k => by omega
      have lk1B : ∀ k j, k1 < wr.heap.size + k + j := fun k j => by omega
      have lk2A : ∀ k, k2 < wr.heap.size + k := fun k => by omega
      have lk2B : ∀ k j, k2 < wr.heap.size + k + j := fun k j => by omega
      have lk3A : ∀ k, k3 < wr.heap.size + k := fun k => by omega
      have lk3B : ∀ k j, k3 < wr.heap.size + k + j := fun k j => by omega
      have lktA : ∀ k, kt < wr.heap.size + k := fun k => by omega
      have lktB : ∀ k j, kt < wr.heap.size + k + j := fun k j => by omega
      have hBS : ∀ i, wr.cell? ⟨bs, i, none⟩ = (#[.int .i64 (a2 + a0 + ce), .int .i64 a2, .int .i64 (a2 + a3), .int .i64 0] : Array Value)[i]? := fun i => blk_cell BS.out i
      have ltBS := blk_lt BS.out
      have ltBSA : ∀ k, bs < wr.heap.size + k := fun k => by omega
      have ltBSB : ∀ k j, bs < wr.heap.size + k + j := fun k j => by omega
      have fzBS := fun j => blk_frozen BS.out j
      have hBK : ∀ i, wr.cell? ⟨bk, i, none⟩ = (#[.bool true, .bool true, .bool true, .bool true] : Array Value)[i]? := fun i => blk_cell BK.out i
      have ltBK := blk_lt BK.out
      have ltBKA : ∀ k, bk < wr.heap.size + k := fun k => by omega
      have ltBKB : ∀ k j, bk < wr.heap.size + k + j := fun k j => by omega
      have hBX : ∀ i, wr.cell? ⟨bx, i, none⟩ = (#[.slice (some ⟨bk, 0, none⟩) 4 4, .slice (some ⟨bs, 0, none⟩) 4 4, .slice (some ⟨bb, 0, none⟩) 4 4] : Array Value)[i]? := fun i => blk_cell BX.out i
      have ltBX := blk_lt BX.out
      have ltBXA : ∀ k, bx < wr.heap.size + k := fun k => by omega
      have ltBXB : ∀ k j, bx < wr.heap.size + k + j := fun k j => by omega
      have hBC : ∀ i, wr.cell? ⟨(w.heap.size + 1), i, none⟩ = (#[.slice (some ⟨be, 0, none⟩) 4 4, .slice (some ⟨kt, 0, none⟩) 1 1] : Array Value)[i]? := fun i => blk_cell BC.out i
      have ltBC := blk_lt BC.out
      have ltBCA : ∀ k, (w.heap.size + 1) < wr.heap.size + k := fun k => by omega
      have ltBCB : ∀ k j, (w.heap.size + 1) < wr.heap.size + k + j := fun k j => by omega
      go_wp2_with fail
      go_region
      go_wp2_with fail
      go_roundg (4 - 2)
      case measure => omega
      case rel =>
        exact ⟨2, by omega, by omega, by go_num, ⟨blk_drew (blk_far BX.out (blk_ne BX.out BS.out (by decide)) _), blk_drew (blk_far BK.out (blk_ne BK.out BS.out (by decide)) _), blk_drew (blk_set BS.out 1 _), blk_drew (blk_far BC.out (blk_ne BC.out BS.out (by decide)) _), below_drew1 (bset HB.out HBS.out _ _)⟩⟩
    · have BS : Aside0 (Blk wr bs #[.int .i64 (a2 + a0 + ce), .int .i64 (a2 + ce), .int .i64 (a2 + a3), .int .i64 0] 3) := ⟨HP.out.2.2.1⟩
      clear HP
      obtain ⟨hE, q0, q1, q1', q2, q3, qt⟩ := HC.out.reads
      obtain ⟨lbe, lk0, lk1, lk2, lk3, lkt⟩ := HC.out.lts
      have lbeA : ∀ k, be < wr.heap.size + k := fun k => by omega
      have lbeB : ∀ k j, be < wr.heap.size + k + j := fun k j => by omega
      have lk0A : ∀ k, k0 < wr.heap.size + k := fun k => by omega
      have lk0B : ∀ k j, k0 < wr.heap.size + k + j := fun k j => by omega
      have lk1A : ∀ k, k1 < wr.heap.size + k := fun k => by omega
      have lk1B : ∀ k j, k1 < wr.heap.size + k + j := fun k j => by omega
      have lk2A : ∀ k, k2 < wr.heap.size + k := fun k => by omega
      have lk2B : ∀ k j, k2 < wr.heap.size + k + j := fun k j => by omega
      have lk3A : ∀ k, k3 < wr.heap.size + k := fun k => by omega
      have lk3B : ∀ k j, k3 < wr.heap.size + k + j := fun k j => by omega
      have lktA : ∀ k, kt < wr.heap.size + k := fun k => by omega
      have lktB : ∀ k j, kt < wr.heap.size + k + j := fun k j => by omega
      have hBS : ∀ i, wr.cell? ⟨bs, i, none⟩ = (#[.int .i64 (a2 + a0 + ce), .int .i64 (a2 + ce), .int .i64 (a2 + a3), .int .i64 0] : Array Value)[i]? := fun i => blk_cell BS.out i
      have ltBS := blk_lt BS.out
      have ltBSA : ∀ k, bs < wr.heap.size + k := fun k => by omega
      have ltBSB : ∀ k j, bs < wr.heap.size + k + j := fun k j => by omega
      have fzBS := fun j => blk_frozen BS.out j
      have hBK : ∀ i, wr.cell? ⟨bk, i, none⟩ = (#[.bool true, .bool true, .bool true, .bool true] : Array Value)[i]? := fun i => blk_cell BK.out i
      have ltBK := blk_lt BK.out
      have ltBKA : ∀ k, bk < wr.heap.size + k := fun k => by omega
      have ltBKB : ∀ k j, bk < wr.heap.size + k + j := fun k j => by omega
      have hBX : ∀ i, wr.cell? ⟨bx, i, none⟩ = (#[.slice (some ⟨bk, 0, none⟩) 4 4, .slice (some ⟨bs, 0, none⟩) 4 4, .slice (some ⟨bb, 0, none⟩) 4 4] : Array Value)[i]? := fun i => blk_cell BX.out i
      have ltBX := blk_lt BX.out
      have ltBXA : ∀ k, bx < wr.heap.size + k := fun k => by omega
      have ltBXB : ∀ k j, bx < wr.heap.size + k + j := fun k j => by omega
      have hBC : ∀ i, wr.cell? ⟨(w.heap.size + 1), i, none⟩ = (#[.slice (some ⟨be, 0, none⟩) 4 4, .slice (some ⟨kt, 0, none⟩) 1 1] : Array Value)[i]? := fun i => blk_cell BC.out i
      have ltBC := blk_lt BC.out
      have ltBCA : ∀ k, (w.heap.size + 1) < wr.heap.size + k := fun k => by omega
      have ltBCB : ∀ k j, (w.heap.size + 1) < wr.heap.size + k + j := fun k j => by omega
      go_wp2_with fail
      go_region
      go_wp2_with fail
      go_roundg (4 - 3)
      case measure => omega
      case rel =>
        exact ⟨3, by omega, by omega, by go_num, ⟨blk_drew (blk_far BX.out (blk_ne BX.out BS.out (by decide)) _), blk_drew (blk_far BK.out (blk_ne BK.out BS.out (by decide)) _), blk_drew (blk_set BS.out 2 _), blk_drew (blk_far BC.out (blk_ne BC.out BS.out (by decide)) _), below_drew1 (bset HB.out HBS.out _ _)⟩⟩
    · have BS : Aside0 (Blk wr bs #[.int .i64 (a2 + a0 + ce), .int .i64 (a2 + ce), .int .i64 (a2 + a3 + ce), .int .i64 0] 3) := ⟨HP.out.2.2.1⟩
      clear HP
      obtain ⟨hE, q0, q1, q1', q2, q3, qt⟩ := HC.out.reads
      obtain ⟨lbe, lk0, lk1, lk2, lk3, lkt⟩ := HC.out.lts
      have lbeA : ∀ k, be < wr.heap.size + k := fun k => by omega
      have lbeB : ∀ k j, be < wr.heap.size + k + j := fun k j => by omega
      have lk0A : ∀ k, k0 < wr.heap.size + k := fun k => by omega
      have lk0B : ∀ k j, k0 < wr.heap.size + k + j := fun k j => by omega
      have lk1A : ∀ k, k1 < wr.heap.size + k := fun k => by omega
      have lk1B : ∀ k j, k1 < wr.heap.size + k + j := fun k j => by omega
      have lk2A : ∀ k, k2 < wr.heap.size + k := fun k => by omega
      have lk2B : ∀ k j, k2 < wr.heap.size + k + j := fun k j => by omega
      have lk3A : ∀ k, k3 < wr.heap.size + k := fun k => by omega
      have lk3B : ∀ k j, k3 < wr.heap.size + k + j := fun k j => by omega
      have lktA : ∀ k, kt < wr.heap.size + k := fun k => by omega
      have lktB : ∀ k j, kt < wr.heap.size + k + j := fun k j => by omega
      have hBS : ∀ i, wr.cell? ⟨bs, i, none⟩ = (#[.int .i64 (a2 + a0 + ce), .int .i64 (a2 + ce), .int .i64 (a2 + a3 + ce), .int .i64 0] : Array Value)[i]? := fun i => blk_cell BS.out i
      have ltBS := blk_lt BS.out
      have ltBSA : ∀ k, bs < wr.heap.size + k := fun k => by omega
      have ltBSB : ∀ k j, bs < wr.heap.size + k + j := fun k j => by omega
      have fzBS := fun j => blk_frozen BS.out j
      have hBK : ∀ i, wr.cell? ⟨bk, i, none⟩ = (#[.bool true, .bool true, .bool true, .bool true] : Array Value)[i]? := fun i => blk_cell BK.out i
      have ltBK := blk_lt BK.out
      have ltBKA : ∀ k, bk < wr.heap.size + k := fun k => by omega
      have ltBKB : ∀ k j, bk < wr.heap.size + k + j := fun k j => by omega
      have hBX : ∀ i, wr.cell? ⟨bx, i, none⟩ = (#[.slice (some ⟨bk, 0, none⟩) 4 4, .slice (some ⟨bs, 0, none⟩) 4 4, .slice (some ⟨bb, 0, none⟩) 4 4] : Array Value)[i]? := fun i => blk_cell BX.out i
      have ltBX := blk_lt BX.out
      have ltBXA : ∀ k, bx < wr.heap.size + k := fun k => by omega
      have ltBXB : ∀ k j, bx < wr.heap.size + k + j := fun k j => by omega
      have hBC : ∀ i, wr.cell? ⟨(w.heap.size + 1), i, none⟩ = (#[.slice (some ⟨be, 0, none⟩) 4 4, .slice (some ⟨kt, 0, none⟩) 1 1] : Array Value)[i]? := fun i => blk_cell BC.out i
      have ltBC := blk_lt BC.out
      have ltBCA : ∀ k, (w.heap.size + 1) < wr.heap.size + k := fun k => by omega
      have ltBCB : ∀ k j, (w.heap.size + 1) < wr.heap.size + k + j := fun k j => by omega
      go_wp2_with fail
      go_region
      go_wp2_with fail
      go_roundg (4 - 4)
      case measure => omega
      case rel =>
        exact ⟨4, by omega, by omega, by go_num, ⟨blk_drew (blk_far BX.out (blk_ne BX.out BS.out (by decide)) _), blk_drew (blk_far BK.out (blk_ne BK.out BS.out (by decide)) _), blk_drew (blk_set BS.out 3 _), blk_drew (blk_far BC.out (blk_ne BC.out BS.out (by decide)) _), below_drew1 (bset HB.out HBS.out _ _)⟩⟩
    · have BS : Aside0 (Blk wr bs #[.int .i64 (a2 + a0 + ce), .int .i64 (a2 + ce), .int .i64 (a2 + a3 + ce), .int .i64 ce] 3) := ⟨HP.out.2.2.1⟩
      clear HP
      obtain ⟨hE, q0, q1, q1', q2, q3, qt⟩ := HC.out.reads
      obtain ⟨lbe, lk0, lk1, lk2, lk3, lkt⟩ := HC.out.lts
      have lbeA : ∀ k, be < wr.heap.size + k := fun k => by omega
      have lbeB : ∀ k j, be < wr.heap.size + k + j := fun k j => by omega
      have lk0A : ∀ k, k0 < wr.heap.size + k := fun k => by omega
      have lk0B : ∀ k j, k0 < wr.heap.size + k + j := fun k j => by omega
      have lk1A : ∀ k, k1 < wr.heap.size + k := fun k => by omega
      have lk1B : ∀ k j, k1 < wr.heap.size + k + j := fun k j => by omega
      have lk2A : ∀ k, k2 < wr.heap.size + k := fun k => by omega
      have lk2B : ∀ k j, k2 < wr.heap.size + k + j := fun k j => by omega
      have lk3A : ∀ k, k3 < wr.heap.size + k := fun k => by omega
      have lk3B : ∀ k j, k3 < wr.heap.size + k + j := fun k j => by omega
      have lktA : ∀ k, kt < wr.heap.size + k := fun k => by omega
      have lktB : ∀ k j, kt < wr.heap.size + k + j := fun k j => by omega
      have hBS : ∀ i, wr.cell? ⟨bs, i, none⟩ = (#[.int .i64 (a2 + a0 + ce), .int .i64 (a2 + ce), .int .i64 (a2 + a3 + ce), .int .i64 ce] : Array Value)[i]? := fun i => blk_cell BS.out i
      have ltBS := blk_lt BS.out
      have ltBSA : ∀ k, bs < wr.heap.size + k := fun k => by omega
      have ltBSB : ∀ k j, bs < wr.heap.size + k + j := fun k j => by omega
      have fzBS := fun j => blk_frozen BS.out j
      have hBK : ∀ i, wr.cell? ⟨bk, i, none⟩ = (#[.bool true, .bool true, .bool true, .bool true] : Array Value)[i]? := fun i => blk_cell BK.out i
      have ltBK := blk_lt BK.out
      have ltBKA : ∀ k, bk < wr.heap.size + k := fun k => by omega
      have ltBKB : ∀ k j, bk < wr.heap.size + k + j := fun k j => by omega
      have hBX : ∀ i, wr.cell? ⟨bx, i, none⟩ = (#[.slice (some ⟨bk, 0, none⟩) 4 4, .slice (some ⟨bs, 0, none⟩) 4 4, .slice (some ⟨bb, 0, none⟩) 4 4] : Array Value)[i]? := fun i => blk_cell BX.out i
      have ltBX := blk_lt BX.out
      have ltBXA : ∀ k, bx < wr.heap.size + k := fun k => by omega
      have ltBXB : ∀ k j, bx < wr.heap.size + k + j := fun k j => by omega
      have hBC : ∀ i, wr.cell? ⟨(w.heap.size + 1), i, none⟩ = (#[.slice (some ⟨be, 0, none⟩) 4 4, .slice (some ⟨kt, 0, none⟩) 1 1] : Array Value)[i]? := fun i => blk_cell BC.out i
      have ltBC := blk_lt BC.out
      have ltBCA : ∀ k, (w.heap.size + 1) < wr.heap.size + k := fun k => by omega
      have ltBCB : ∀ k j, (w.heap.size + 1) < wr.heap.size + k + j := fun k j => by omega
      go_wp2_with fail
      go_region
      go_wp2_with fail
      go_ret2
      exact ⟨bs, bk, _, _, rfl, blk_drew BS.out, blk_drew BK.out, rfl, rfl, below_drew1 HB.out⟩
def potS_two (ce a0 a2 a3 : Int) : Nat → Array Value
  | 0 => #[.int .i64 (a2 + a0), .int .i64 a2, .int .i64 0, .int .i64 0]
  | 1 => #[.int .i64 (a2 + a0 + ce), .int .i64 a2, .int .i64 0, .int .i64 0]
  | 2 => #[.int .i64 (a2 + a0 + ce), .int .i64 (a2 + ce), .int .i64 0, .int .i64 0]
  | 3 => #[.int .i64 (a2 + a0 + ce), .int .i64 (a2 + ce), .int .i64 0, .int .i64 0]
  | _ => #[.int .i64 (a2 + a0 + ce), .int .i64 (a2 + ce), .int .i64 0, .int .i64 ce]
set_option maxHeartbeats 8000000 in
set_option maxRecDepth 100000 in
theorem pot_two (bn bl n0 n1 n2 ln : Nat) (mx : Int) (w : World) (hU : UnitW w bn bl n0 n1 n2 ln mx) (be k0 k1 k2 k3 kt : Nat) (cb ch cl cd ce ct : Int) (hC : CostW w be k0 k1 k2 k3 kt cb ch cl cd ce ct) (hlow : Low cb ch cl cd ce ct mx) (dd : Nat) (hD : Blk w dd #[.bool false, .bool false, .bool true, .bool false] 4) (bs0 ge c : Nat) (a0 a1 a2 a3 : Int) (ga0 : 0 ≤ a0) (ga0' : a0 ≤ 20000) (ga1 : 0 ≤ a1) (ga1' : a1 ≤ 255) (ga2 : 0 ≤ a2) (ga2' : a2 ≤ 255) (ga3 : -510 ≤ a3) (ga3' : a3 ≤ 255) (hE : w.ownsRow bs0 74 4 (.slice (some ⟨ge, 0, none⟩) 4 c) 4 [.int .i64 0, .int .i64 0, .int .i64 1, .int .i64 a0, .int .i64 1, .int .i64 0, .int .i64 2, .int .i64 a1, .int .i64 1, .int .i64 1, .int .i64 3, .int .i64 a2, .int .i64 2, .int .i64 0, .int .i64 1, .int .i64 a3]) :
    Calls Try.prog 12 #[UV bn bl, CV be kt, .slice (some ⟨dd, 0, none⟩) 4 4, .slice (some ⟨ge, 0, none⟩) 4 c] w fun e w' => ∃ qs qk SS KK, e = .returned (.tuple #[.slice (some ⟨qs, 0, none⟩) 4 4, .slice (some ⟨qk, 0, none⟩) 4 4]) ∧ Blk w' qs SS 3 ∧ Blk w' qk KK 4 ∧ SS[0]? = some (.int .i64 (a2 + a0 + ce)) ∧ KK[0]? = some (.bool true) ∧ Below w.heap.size w w' := by
  have hu32 := Try.underlying32
  have hu34 := Try.underlying34
  have hu38 := Try.underlying38
  have hu46 := Try.underlying46
  have hu71 := Try.underlying71
  have hu74 := Try.underlying74
  obtain ⟨⟨gcb, gcb'⟩, ⟨gch, gch'⟩, ⟨gcl, gcl'⟩, ⟨gcd, gcd'⟩, ⟨gce, gce'⟩, ⟨gct, gct'⟩, gmx, gmx'⟩ := hlow
  have BD := Aside0.mk hD
  have HE1 := Aside0.mk hE
  clear hD hE
  have HU := Aside0.mk hU
  have HC := Aside0.mk hC
  have HB : Aside0 (Below w.heap.size w w) := ⟨Below.refl _ _⟩
  clear hU hC
  have HC0 := HC
  go_enter Try.func12, Try.ntmps12
  go_upto_region 1 with (fail)
  have hb : Below w.heap.size w ((w.alloc (.cells #[.string ⟨#[]⟩, .slice (some ⟨bn, 0, none⟩) 4 4, .slice (some ⟨bl, 0, none⟩) 1 1, .slice none 0 0, .slice none 0 0, .slice none 0 0, .slice none 0 0, .slice none 0 0, .slice none 0 0, .slice none 0 0] 32)).alloc (.cells #[.slice (some ⟨be, 0, none⟩) 4 4, .slice (some ⟨kt, 0, none⟩) 1 1] 34)) := (by repeat (first | with_reducible exact Below.refl _ _ | apply below_alloc | apply pw_below_drewN | apply below_drew1))
  have BU : Aside0 (Blk ((w.alloc (.cells #[.string ⟨#[]⟩, .slice (some ⟨bn, 0, none⟩) 4 4, .slice (some ⟨bl, 0, none⟩) 1 1, .slice none 0 0, .slice none 0 0, .slice none 0 0, .slice none 0 0, .slice none 0 0, .slice none 0 0, .slice none 0 0] 32)).alloc (.cells #[.slice (some ⟨be, 0, none⟩) 4 4, .slice (some ⟨kt, 0, none⟩) 1 1] 34)) w.heap.size #[.string ⟨#[]⟩, .slice (some ⟨bn, 0, none⟩) 4 4, .slice (some ⟨bl, 0, none⟩) 1 1, .slice none 0 0, .slice none 0 0, .slice none 0 0, .slice none 0 0, .slice none 0 0, .slice none 0 0, .slice none 0 0] 32) := ⟨(by (repeat (first | with_reducible exact heap_alloc_new _ _ | with_reducible exact heap_alloc2_new _ _ _ | with_reducible exact blk_at3 _ _ _ _ | with_reducible exact blk_at4 _ _ _ _ _ | refine blk_alloc ?_ _)))⟩
  have BC : Aside0 (Blk ((w.alloc (.cells #[.string ⟨#[]⟩, .slice (some ⟨bn, 0, none⟩) 4 4, .slice (some ⟨bl, 0, none⟩) 1 1, .slice none 0 0, .slice none 0 0, .slice none 0 0, .slice none 0 0, .slice none 0 0, .slice none 0 0, .slice none 0 0] 32)).alloc (.cells #[.slice (some ⟨be, 0, none⟩) 4 4, .slice (some ⟨kt, 0, none⟩) 1 1] 34)) (w.heap.size + 1) #[.slice (some ⟨be, 0, none⟩) 4 4, .slice (some ⟨kt, 0, none⟩) 1 1] 34) := ⟨(by (repeat (first | with_reducible exact heap_alloc_new _ _ | with_reducible exact heap_alloc2_new _ _ _ | with_reducible exact blk_at3 _ _ _ _ | with_reducible exact blk_at4 _ _ _ _ _ | refine blk_alloc ?_ _)))⟩
  replace HB := Aside0.mk (below_step HB.out hb)
  replace HU := Aside0.mk (HU.out.below hb)
  replace HC := Aside0.mk (HC.out.below hb)
  replace BD := Aside0.mk (blk_below BD.out hb)
  replace HE1 := Aside0.mk (pw_own_below HE1.out hb)
  clear hb
  generalize ((w.alloc (.cells #[.string ⟨#[]⟩, .slice (some ⟨bn, 0, none⟩) 4 4, .slice (some ⟨bl, 0, none⟩) 1 1, .slice none 0 0, .slice none 0 0, .slice none 0 0, .slice none 0 0, .slice none 0 0, .slice none 0 0, .slice none 0 0] 32)).alloc (.cells #[.slice (some ⟨be, 0, none⟩) 4 4, .slice (some ⟨kt, 0, none⟩) 1 1] 34)) = Wa at HU HC HB BD BU BC HE1 ⊢
  obtain ⟨hN, hL, h0, h1, h1', h2, hln, hln'⟩ := HU.out.reads
  obtain ⟨lbn, lbl, ln0, ln1, ln2, lln⟩ := HU.out.lts
  have lbnA : ∀ k, bn < Wa.heap.size + k := fun k => by omega
  have lbnB : ∀ k j, bn < Wa.heap.size + k + j := fun k j => by omega
  have lblA : ∀ k, bl < Wa.heap.size + k := fun k => by omega
  have lblB : ∀ k j, bl < Wa.heap.size + k + j := fun k j => by omega
  have ln0A : ∀ k, n0 < Wa.heap.size + k := fun k => by omega
  have ln0B : ∀ k j, n0 < Wa.heap.size + k + j := fun k j => by omega
  have ln1A : ∀ k, n1 < Wa.heap.size + k := fun k => by omega
  have ln1B : ∀ k j, n1 < Wa.heap.size + k + j := fun k j => by omega
  have ln2A : ∀ k, n2 < Wa.heap.size + k := fun k => by omega
  have ln2B : ∀ k j, n2 < Wa.heap.size + k + j := fun k j => by omega
  have llnA : ∀ k, ln < Wa.heap.size + k := fun k => by omega
  have llnB : ∀ k j, ln < Wa.heap.size + k + j := fun k j => by omega
  obtain ⟨hE, q0, q1, q1', q2, q3, qt⟩ := HC.out.reads
  obtain ⟨lbe, lk0, lk1, lk2, lk3, lkt⟩ := HC.out.lts
  have lbeA : ∀ k, be < Wa.heap.size + k := fun k => by omega
  have lbeB : ∀ k j, be < Wa.heap.size + k + j := fun k j => by omega
  have lk0A : ∀ k, k0 < Wa.heap.size + k := fun k => by omega
  have lk0B : ∀ k j, k0 < Wa.heap.size + k + j := fun k j => by omega
  have lk1A : ∀ k, k1 < Wa.heap.size + k := fun k => by omega
  have lk1B : ∀ k j, k1 < Wa.heap.size + k + j := fun k j => by omega
  have lk2A : ∀ k, k2 < Wa.heap.size + k := fun k => by omega
  have lk2B : ∀ k j, k2 < Wa.heap.size + k + j := fun k j => by omega
  have lk3A : ∀ k, k3 < Wa.heap.size + k := fun k => by omega
  have lk3B : ∀ k j, k3 < Wa.heap.size + k + j := fun k j => by omega
  have lktA : ∀ k, kt < Wa.heap.size + k := fun k => by omega
  have lktB : ∀ k j, kt < Wa.heap.size + k + j := fun k j => by omega
  have hBD : ∀ i, Wa.cell? ⟨dd, i, none⟩ = (#[.bool false, .bool false, .bool true, .bool false] : Array Value)[i]? := fun i => blk_cell BD.out i
  have ltBD := blk_lt BD.out
  have ltBDA : ∀ k, dd < Wa.heap.size + k := fun k => by omega
  have ltBDB : ∀ k j, dd < Wa.heap.size + k + j := fun k j => by omega
  have hBU : ∀ i, Wa.cell? ⟨w.heap.size, i, none⟩ = (#[.string ⟨#[]⟩, .slice (some ⟨bn, 0, none⟩) 4 4, .slice (some ⟨bl, 0, none⟩) 1 1, .slice none 0 0, .slice none 0 0, .slice none 0 0, .slice none 0 0, .slice none 0 0, .slice none 0 0, .slice none 0 0] : Array Value)[i]? := fun i => blk_cell BU.out i
  have ltBU := blk_lt BU.out
  have ltBUA : ∀ k, w.heap.size < Wa.heap.size + k := fun k => by omega
  have ltBUB : ∀ k j, w.heap.size < Wa.heap.size + k + j := fun k j => by omega
  have hBC : ∀ i, Wa.cell? ⟨(w.heap.size + 1), i, none⟩ = (#[.slice (some ⟨be, 0, none⟩) 4 4, .slice (some ⟨kt, 0, none⟩) 1 1] : Array Value)[i]? := fun i => blk_cell BC.out i
  have ltBC := blk_lt BC.out
  have ltBCA : ∀ k, (w.heap.size + 1) < Wa.heap.size + k := fun k => by omega
  have ltBCB : ∀ k j, (w.heap.size + 1) < Wa.heap.size + k + j := fun k j => by omega
  go_wp2_with fail
  clear hN hL h0 h1 h1' h2 hln hln' lbn lbl ln0 ln1 ln2 lln lbnA lbnB lblA lblB ln0A ln0B ln1A ln1B ln2A ln2B llnA llnB hE q0 q1 q1' q2 q3 qt lbe lk0 lk1 lk2 lk3 lkt lbeA lbeB lk0A lk0B lk1A lk1B lk2A lk2B lk3A lk3B lktA lktB hBD ltBD ltBDA ltBDB hBU ltBU ltBUA ltBUB hBC ltBC ltBCA ltBCB
  refine (end_calls bn bl n0 n1 n2 ln mx _ HU.out).mono ?_
  rintro e w2 ⟨rfl, hb⟩
  replace HB := Aside0.mk (below_step HB.out hb)
  replace HU := Aside0.mk (HU.out.below hb)
  replace HC := Aside0.mk (HC.out.below hb)
  replace BD := Aside0.mk (blk_below BD.out hb)
  replace BU := Aside0.mk (blk_below BU.out hb)
  replace BC := Aside0.mk (blk_below BC.out hb)
  replace HE1 := Aside0.mk (pw_own_below HE1.out hb)
  clear hb
  obtain ⟨hN, hL, h0, h1, h1', h2, hln, hln'⟩ := HU.out.reads
  obtain ⟨lbn, lbl, ln0, ln1, ln2, lln⟩ := HU.out.lts
  have lbnA : ∀ k, bn < w2.heap.size + k := fun k => by omega
  have lbnB : ∀ k j, bn < w2.heap.size + k + j := fun k j => by omega
  have lblA : ∀ k, bl < w2.heap.size + k := fun k => by omega
  have lblB : ∀ k j, bl < w2.heap.size + k + j := fun k j => by omega
  have ln0A : ∀ k, n0 < w2.heap.size + k := fun k => by omega
  have ln0B : ∀ k j, n0 < w2.heap.size + k + j := fun k j => by omega
  have ln1A : ∀ k, n1 < w2.heap.size + k := fun k => by omega
  have ln1B : ∀ k j, n1 < w2.heap.size + k + j := fun k j => by omega
  have ln2A : ∀ k, n2 < w2.heap.size + k := fun k => by omega
  have ln2B : ∀ k j, n2 < w2.heap.size + k + j := fun k j => by omega
  have llnA : ∀ k, ln < w2.heap.size + k := fun k => by omega
  have llnB : ∀ k j, ln < w2.heap.size + k + j := fun k j => by omega
  obtain ⟨hE, q0, q1, q1', q2, q3, qt⟩ := HC.out.reads
  obtain ⟨lbe, lk0, lk1, lk2, lk3, lkt⟩ := HC.out.lts
  have lbeA : ∀ k, be < w2.heap.size + k := fun k => by omega
  have lbeB : ∀ k j, be < w2.heap.size + k + j := fun k j => by omega
  have lk0A : ∀ k, k0 < w2.heap.size + k := fun k => by omega
  have lk0B : ∀ k j, k0 < w2.heap.size + k + j := fun k j => by omega
  have lk1A : ∀ k, k1 < w2.heap.size + k := fun k => by omega
  have lk1B : ∀ k j, k1 < w2.heap.size + k + j := fun k j => by omega
  have lk2A : ∀ k, k2 < w2.heap.size + k := fun k => by omega
  have lk2B : ∀ k j, k2 < w2.heap.size + k + j := fun k j => by omega
  have lk3A : ∀ k, k3 < w2.heap.size + k := fun k => by omega
  have lk3B : ∀ k j, k3 < w2.heap.size + k + j := fun k j => by omega
  have lktA : ∀ k, kt < w2.heap.size + k := fun k => by omega
  have lktB : ∀ k j, kt < w2.heap.size + k + j := fun k j => by omega
  have hBD : ∀ i, w2.cell? ⟨dd, i, none⟩ = (#[.bool false, .bool false, .bool true, .bool false] : Array Value)[i]? := fun i => blk_cell BD.out i
  have ltBD := blk_lt BD.out
  have ltBDA : ∀ k, dd < w2.heap.size + k := fun k => by omega
  have ltBDB : ∀ k j, dd < w2.heap.size + k + j := fun k j => by omega
  have hBU : ∀ i, w2.cell? ⟨w.heap.size, i, none⟩ = (#[.string ⟨#[]⟩, .slice (some ⟨bn, 0, none⟩) 4 4, .slice (some ⟨bl, 0, none⟩) 1 1, .slice none 0 0, .slice none 0 0, .slice none 0 0, .slice none 0 0, .slice none 0 0, .slice none 0 0, .slice none 0 0] : Array Value)[i]? := fun i => blk_cell BU.out i
  have ltBU := blk_lt BU.out
  have ltBUA : ∀ k, w.heap.size < w2.heap.size + k := fun k => by omega
  have ltBUB : ∀ k j, w.heap.size < w2.heap.size + k + j := fun k j => by omega
  have hBC : ∀ i, w2.cell? ⟨(w.heap.size + 1), i, none⟩ = (#[.slice (some ⟨be, 0, none⟩) 4 4, .slice (some ⟨kt, 0, none⟩) 1 1] : Array Value)[i]? := fun i => blk_cell BC.out i
  have ltBC := blk_lt BC.out
  have ltBCA : ∀ k, (w.heap.size + 1) < w2.heap.size + k := fun k => by omega
  have ltBCB : ∀ k j, (w.heap.size + 1) < w2.heap.size + k + j := fun k j => by omega
  go_wp2_with fail
  clear hN hL h0 h1 h1' h2 hln hln' lbn lbl ln0 ln1 ln2 lln lbnA lbnB lblA lblB ln0A ln0B ln1A ln1B ln2A ln2B llnA llnB hE q0 q1 q1' q2 q3 qt lbe lk0 lk1 lk2 lk3 lkt lbeA lbeB lk0A lk0B lk1A lk1B lk2A lk2B lk3A lk3B lktA lktB hBD ltBD ltBDA ltBDB hBU ltBU ltBUA ltBUB hBC ltBC ltBCA ltBCB
  refine (gone_calls bn bl n0 n1 n2 ln mx _ HU.out dd false false true false BD.out).mono ?_
  rintro e w3 ⟨B, rfl, hB0, hR, hb⟩
  replace HB := Aside0.mk (below_step HB.out hb)
  replace HU := Aside0.mk (HU.out.below hb)
  replace HC := Aside0.mk (HC.out.below hb)
  replace BD := Aside0.mk (blk_below BD.out hb)
  replace BU := Aside0.mk (blk_below BU.out hb)
  replace BC := Aside0.mk (blk_below BC.out hb)
  replace HE1 := Aside0.mk (pw_own_below HE1.out hb)
  clear hb
  have BB := Aside0.mk hR
  clear hR hB0
  obtain ⟨hN, hL, h0, h1, h1', h2, hln, hln'⟩ := HU.out.reads
  obtain ⟨lbn, lbl, ln0, ln1, ln2, lln⟩ := HU.out.lts
  have lbnA : ∀ k, bn < w3.heap.size + k := fun k => by omega
  have lbnB : ∀ k j, bn < w3.heap.size + k + j := fun k j => by omega
  have lblA : ∀ k, bl < w3.heap.size + k := fun k => by omega
  have lblB : ∀ k j, bl < w3.heap.size + k + j := fun k j => by omega
  have ln0A : ∀ k, n0 < w3.heap.size + k := fun k => by omega
  have ln0B : ∀ k j, n0 < w3.heap.size + k + j := fun k j => by omega
  have ln1A : ∀ k, n1 < w3.heap.size + k := fun k => by omega
  have ln1B : ∀ k j, n1 < w3.heap.size + k + j := fun k j => by omega
  have ln2A : ∀ k, n2 < w3.heap.size + k := fun k => by omega
  have ln2B : ∀ k j, n2 < w3.heap.size + k + j := fun k j => by omega
  have llnA : ∀ k, ln < w3.heap.size + k := fun k => by omega
  have llnB : ∀ k j, ln < w3.heap.size + k + j := fun k j => by omega
  obtain ⟨hE, q0, q1, q1', q2, q3, qt⟩ := HC.out.reads
  obtain ⟨lbe, lk0, lk1, lk2, lk3, lkt⟩ := HC.out.lts
  have lbeA : ∀ k, be < w3.heap.size + k := fun k => by omega
  have lbeB : ∀ k j, be < w3.heap.size + k + j := fun k j => by omega
  have lk0A : ∀ k, k0 < w3.heap.size + k := fun k => by omega
  have lk0B : ∀ k j, k0 < w3.heap.size + k + j := fun k j => by omega
  have lk1A : ∀ k, k1 < w3.heap.size + k := fun k => by omega
  have lk1B : ∀ k j, k1 < w3.heap.size + k + j := fun k j => by omega
  have lk2A : ∀ k, k2 < w3.heap.size + k := fun k => by omega
  have lk2B : ∀ k j, k2 < w3.heap.size + k + j := fun k j => by omega
  have lk3A : ∀ k, k3 < w3.heap.size + k := fun k => by omega
  have lk3B : ∀ k j, k3 < w3.heap.size + k + j := fun k j => by omega
  have lktA : ∀ k, kt < w3.heap.size + k := fun k => by omega
  have lktB : ∀ k j, kt < w3.heap.size + k + j := fun k j => by omega
  have hBD : ∀ i, w3.cell? ⟨dd, i, none⟩ = (#[.bool false, .bool false, .bool true, .bool false] : Array Value)[i]? := fun i => blk_cell BD.out i
  have ltBD := blk_lt BD.out
  have ltBDA : ∀ k, dd < w3.heap.size + k := fun k => by omega
  have ltBDB : ∀ k j, dd < w3.heap.size + k + j := fun k j => by omega
  have hBU : ∀ i, w3.cell? ⟨w.heap.size, i, none⟩ = (#[.string ⟨#[]⟩, .slice (some ⟨bn, 0, none⟩) 4 4, .slice (some ⟨bl, 0, none⟩) 1 1, .slice none 0 0, .slice none 0 0, .slice none 0 0, .slice none 0 0, .slice none 0 0, .slice none 0 0, .slice none 0 0] : Array Value)[i]? := fun i => blk_cell BU.out i
  have ltBU := blk_lt BU.out
  have ltBUA : ∀ k, w.heap.size < w3.heap.size + k := fun k => by omega
  have ltBUB : ∀ k j, w.heap.size < w3.heap.size + k + j := fun k j => by omega
  have hBC : ∀ i, w3.cell? ⟨(w.heap.size + 1), i, none⟩ = (#[.slice (some ⟨be, 0, none⟩) 4 4, .slice (some ⟨kt, 0, none⟩) 1 1] : Array Value)[i]? := fun i => blk_cell BC.out i
  have ltBC := blk_lt BC.out
  have ltBCA : ∀ k, (w.heap.size + 1) < w3.heap.size + k := fun k => by omega
  have ltBCB : ∀ k j, (w.heap.size + 1) < w3.heap.size + k + j := fun k j => by omega
  have hBB : ∀ i, w3.cell? ⟨B, i, none⟩ = (#[.bool false, .bool false, .bool true, .bool false] : Array Value)[i]? := fun i => blk_cell BB.out i
  have ltBB := blk_lt BB.out
  have ltBBA : ∀ k, B < w3.heap.size + k := fun k => by omega
  have ltBBB : ∀ k j, B < w3.heap.size + k + j := fun k j => by omega
  go_wp2_with fail
  clear hN hL h0 h1 h1' h2 hln hln' lbn lbl ln0 ln1 ln2 lln lbnA lbnB lblA lblB ln0A ln0B ln1A ln1B ln2A ln2B llnA llnB hE q0 q1 q1' q2 q3 qt lbe lk0 lk1 lk2 lk3 lkt lbeA lbeB lk0A lk0B lk1A lk1B lk2A lk2B lk3A lk3B lktA lktB hBD ltBD ltBDA ltBDB hBU ltBU ltBUA ltBUB hBC ltBC ltBCA ltBCB hBB ltBB ltBBA ltBBB
  refine (call_opn_two _ ge c B a0 a1 a2 a3 _ HE1.out BB.out).mono ?_
  rintro e w4 ⟨g2, c2, rfl, ho, hb⟩
  replace HB := Aside0.mk (below_step HB.out hb)
  replace HU := Aside0.mk (HU.out.below hb)
  replace HC := Aside0.mk (HC.out.below hb)
  replace BD := Aside0.mk (blk_below BD.out hb)
  replace BU := Aside0.mk (blk_below BU.out hb)
  replace BC := Aside0.mk (blk_below BC.out hb)
  replace BB := Aside0.mk (blk_below BB.out hb)
  replace HE1 := Aside0.mk (pw_own_below HE1.out hb)
  clear hb
  have HE2 := Aside0.mk ho
  clear ho
  obtain ⟨hN, hL, h0, h1, h1', h2, hln, hln'⟩ := HU.out.reads
  obtain ⟨lbn, lbl, ln0, ln1, ln2, lln⟩ := HU.out.lts
  have lbnA : ∀ k, bn < w4.heap.size + k := fun k => by omega
  have lbnB : ∀ k j, bn < w4.heap.size + k + j := fun k j => by omega
  have lblA : ∀ k, bl < w4.heap.size + k := fun k => by omega
  have lblB : ∀ k j, bl < w4.heap.size + k + j := fun k j => by omega
  have ln0A : ∀ k, n0 < w4.heap.size + k := fun k => by omega
  have ln0B : ∀ k j, n0 < w4.heap.size + k + j := fun k j => by omega
  have ln1A : ∀ k, n1 < w4.heap.size + k := fun k => by omega
  have ln1B : ∀ k j, n1 < w4.heap.size + k + j := fun k j => by omega
  have ln2A : ∀ k, n2 < w4.heap.size + k := fun k => by omega
  have ln2B : ∀ k j, n2 < w4.heap.size + k + j := fun k j => by omega
  have llnA : ∀ k, ln < w4.heap.size + k := fun k => by omega
  have llnB : ∀ k j, ln < w4.heap.size + k + j := fun k j => by omega
  obtain ⟨hE, q0, q1, q1', q2, q3, qt⟩ := HC.out.reads
  obtain ⟨lbe, lk0, lk1, lk2, lk3, lkt⟩ := HC.out.lts
  have lbeA : ∀ k, be < w4.heap.size + k := fun k => by omega
  have lbeB : ∀ k j, be < w4.heap.size + k + j := fun k j => by omega
  have lk0A : ∀ k, k0 < w4.heap.size + k := fun k => by omega
  have lk0B : ∀ k j, k0 < w4.heap.size + k + j := fun k j => by omega
  have lk1A : ∀ k, k1 < w4.heap.size + k := fun k => by omega
  have lk1B : ∀ k j, k1 < w4.heap.size + k + j := fun k j => by omega
  have lk2A : ∀ k, k2 < w4.heap.size + k := fun k => by omega
  have lk2B : ∀ k j, k2 < w4.heap.size + k + j := fun k j => by omega
  have lk3A : ∀ k, k3 < w4.heap.size + k := fun k => by omega
  have lk3B : ∀ k j, k3 < w4.heap.size + k + j := fun k j => by omega
  have lktA : ∀ k, kt < w4.heap.size + k := fun k => by omega
  have lktB : ∀ k j, kt < w4.heap.size + k + j := fun k j => by omega
  have hBD : ∀ i, w4.cell? ⟨dd, i, none⟩ = (#[.bool false, .bool false, .bool true, .bool false] : Array Value)[i]? := fun i => blk_cell BD.out i
  have ltBD := blk_lt BD.out
  have ltBDA : ∀ k, dd < w4.heap.size + k := fun k => by omega
  have ltBDB : ∀ k j, dd < w4.heap.size + k + j := fun k j => by omega
  have hBU : ∀ i, w4.cell? ⟨w.heap.size, i, none⟩ = (#[.string ⟨#[]⟩, .slice (some ⟨bn, 0, none⟩) 4 4, .slice (some ⟨bl, 0, none⟩) 1 1, .slice none 0 0, .slice none 0 0, .slice none 0 0, .slice none 0 0, .slice none 0 0, .slice none 0 0, .slice none 0 0] : Array Value)[i]? := fun i => blk_cell BU.out i
  have ltBU := blk_lt BU.out
  have ltBUA : ∀ k, w.heap.size < w4.heap.size + k := fun k => by omega
  have ltBUB : ∀ k j, w.heap.size < w4.heap.size + k + j := fun k j => by omega
  have hBC : ∀ i, w4.cell? ⟨(w.heap.size + 1), i, none⟩ = (#[.slice (some ⟨be, 0, none⟩) 4 4, .slice (some ⟨kt, 0, none⟩) 1 1] : Array Value)[i]? := fun i => blk_cell BC.out i
  have ltBC := blk_lt BC.out
  have ltBCA : ∀ k, (w.heap.size + 1) < w4.heap.size + k := fun k => by omega
  have ltBCB : ∀ k j, (w.heap.size + 1) < w4.heap.size + k + j := fun k j => by omega
  have hBB : ∀ i, w4.cell? ⟨B, i, none⟩ = (#[.bool false, .bool false, .bool true, .bool false] : Array Value)[i]? := fun i => blk_cell BB.out i
  have ltBB := blk_lt BB.out
  have ltBBA : ∀ k, B < w4.heap.size + k := fun k => by omega
  have ltBBB : ∀ k j, B < w4.heap.size + k + j := fun k j => by omega
  go_wp2_with fail
  clear hN hL h0 h1 h1' h2 hln hln' lbn lbl ln0 ln1 ln2 lln lbnA lbnB lblA lblB ln0A ln0B ln1A ln1B ln2A ln2B llnA llnB hE q0 q1 q1' q2 q3 qt lbe lk0 lk1 lk2 lk3 lkt lbeA lbeB lk0A lk0B lk1A lk1B lk2A lk2B lk3A lk3B lktA lktB hBD ltBD ltBDA ltBDB hBU ltBU ltBUA ltBUB hBC ltBC ltBCA ltBCB hBB ltBB ltBBA ltBBB
  refine (turned_two _ g2 c2 a0 a2 _ HE2.out).mono ?_
  rintro e w5 ⟨g3, c3, rfl, ho, hb⟩
  replace HB := Aside0.mk (below_step HB.out hb)
  replace HU := Aside0.mk (HU.out.below hb)
  replace HC := Aside0.mk (HC.out.below hb)
  replace BD := Aside0.mk (blk_below BD.out hb)
  replace BU := Aside0.mk (blk_below BU.out hb)
  replace BC := Aside0.mk (blk_below BC.out hb)
  replace BB := Aside0.mk (blk_below BB.out hb)
  replace HE2 := Aside0.mk (pw_own_below HE2.out hb)
  clear hb
  have HE3 := Aside0.mk ho
  clear ho HE2
  obtain ⟨hN, hL, h0, h1, h1', h2, hln, hln'⟩ := HU.out.reads
  obtain ⟨lbn, lbl, ln0, ln1, ln2, lln⟩ := HU.out.lts
  have lbnA : ∀ k, bn < w5.heap.size + k := fun k => by omega
  have lbnB : ∀ k j, bn < w5.heap.size + k + j := fun k j => by omega
  have lblA : ∀ k, bl < w5.heap.size + k := fun k => by omega
  have lblB : ∀ k j, bl < w5.heap.size + k + j := fun k j => by omega
  have ln0A : ∀ k, n0 < w5.heap.size + k := fun k => by omega
  have ln0B : ∀ k j, n0 < w5.heap.size + k + j := fun k j => by omega
  have ln1A : ∀ k, n1 < w5.heap.size + k := fun k => by omega
  have ln1B : ∀ k j, n1 < w5.heap.size + k + j := fun k j => by omega
  have ln2A : ∀ k, n2 < w5.heap.size + k := fun k => by omega
  have ln2B : ∀ k j, n2 < w5.heap.size + k + j := fun k j => by omega
  have llnA : ∀ k, ln < w5.heap.size + k := fun k => by omega
  have llnB : ∀ k j, ln < w5.heap.size + k + j := fun k j => by omega
  obtain ⟨hE, q0, q1, q1', q2, q3, qt⟩ := HC.out.reads
  obtain ⟨lbe, lk0, lk1, lk2, lk3, lkt⟩ := HC.out.lts
  have lbeA : ∀ k, be < w5.heap.size + k := fun k => by omega
  have lbeB : ∀ k j, be < w5.heap.size + k + j := fun k j => by omega
  have lk0A : ∀ k, k0 < w5.heap.size + k := fun k => by omega
  have lk0B : ∀ k j, k0 < w5.heap.size + k + j := fun k j => by omega
  have lk1A : ∀ k, k1 < w5.heap.size + k := fun k => by omega
  have lk1B : ∀ k j, k1 < w5.heap.size + k + j := fun k j => by omega
  have lk2A : ∀ k, k2 < w5.heap.size + k := fun k => by omega
  have lk2B : ∀ k j, k2 < w5.heap.size + k + j := fun k j => by omega
  have lk3A : ∀ k, k3 < w5.heap.size + k := fun k => by omega
  have lk3B : ∀ k j, k3 < w5.heap.size + k + j := fun k j => by omega
  have lktA : ∀ k, kt < w5.heap.size + k := fun k => by omega
  have lktB : ∀ k j, kt < w5.heap.size + k + j := fun k j => by omega
  have hBD : ∀ i, w5.cell? ⟨dd, i, none⟩ = (#[.bool false, .bool false, .bool true, .bool false] : Array Value)[i]? := fun i => blk_cell BD.out i
  have ltBD := blk_lt BD.out
  have ltBDA : ∀ k, dd < w5.heap.size + k := fun k => by omega
  have ltBDB : ∀ k j, dd < w5.heap.size + k + j := fun k j => by omega
  have hBU : ∀ i, w5.cell? ⟨w.heap.size, i, none⟩ = (#[.string ⟨#[]⟩, .slice (some ⟨bn, 0, none⟩) 4 4, .slice (some ⟨bl, 0, none⟩) 1 1, .slice none 0 0, .slice none 0 0, .slice none 0 0, .slice none 0 0, .slice none 0 0, .slice none 0 0, .slice none 0 0] : Array Value)[i]? := fun i => blk_cell BU.out i
  have ltBU := blk_lt BU.out
  have ltBUA : ∀ k, w.heap.size < w5.heap.size + k := fun k => by omega
  have ltBUB : ∀ k j, w.heap.size < w5.heap.size + k + j := fun k j => by omega
  have hBC : ∀ i, w5.cell? ⟨(w.heap.size + 1), i, none⟩ = (#[.slice (some ⟨be, 0, none⟩) 4 4, .slice (some ⟨kt, 0, none⟩) 1 1] : Array Value)[i]? := fun i => blk_cell BC.out i
  have ltBC := blk_lt BC.out
  have ltBCA : ∀ k, (w.heap.size + 1) < w5.heap.size + k := fun k => by omega
  have ltBCB : ∀ k j, (w.heap.size + 1) < w5.heap.size + k + j := fun k j => by omega
  have hBB : ∀ i, w5.cell? ⟨B, i, none⟩ = (#[.bool false, .bool false, .bool true, .bool false] : Array Value)[i]? := fun i => blk_cell BB.out i
  have ltBB := blk_lt BB.out
  have ltBBA : ∀ k, B < w5.heap.size + k := fun k => by omega
  have ltBBB : ∀ k j, B < w5.heap.size + k + j := fun k j => by omega
  go_wp2_with fail
  clear hN hL h0 h1 h1' h2 hln hln' lbn lbl ln0 ln1 ln2 lln lbnA lbnB lblA lblB ln0A ln0B ln1A ln1B ln2A ln2B llnA llnB hE q0 q1 q1' q2 q3 qt lbe lk0 lk1 lk2 lk3 lkt lbeA lbeB lk0A lk0B lk1A lk1B lk2A lk2B lk3A lk3B lktA lktB hBD ltBD ltBDA ltBDB hBU ltBU ltBUA ltBUB hBC ltBC ltBCA ltBCB hBB ltBB ltBBA ltBBB
  have HSZ : Aside0 (w.heap.size ≤ w5.heap.size) := ⟨HB.out.size⟩
  refine (spread_calls _ g3 c3 3 _ _ _ _ _ _ (SpV.v_two a0 a2 ga0 ga0' ga2 ga2') HE3.out).mono ?_
  rintro e w6 ⟨bk, bs, bb, rfl, hbs, hK, hS, hY, hb⟩
  have HBS : Aside0 (w.heap.size ≤ bs) := ⟨Nat.le_trans HSZ.out hbs⟩
  replace HB := Aside0.mk (below_step HB.out hb)
  replace HU := Aside0.mk (HU.out.below hb)
  replace HC := Aside0.mk (HC.out.below hb)
  replace BD := Aside0.mk (blk_below BD.out hb)
  replace BU := Aside0.mk (blk_below BU.out hb)
  replace BC := Aside0.mk (blk_below BC.out hb)
  replace BB := Aside0.mk (blk_below BB.out hb)
  replace HE3 := Aside0.mk (pw_own_below HE3.out hb)
  clear hb
  have BK := Aside0.mk hK
  have BS := Aside0.mk hS
  clear hK hS hY hbs HE3 HSZ
  go_upto_region 7 with (fail)
  have hb : Below w6.heap.size w6 (w6.alloc (.cells #[.slice (some ⟨bk, 0, none⟩) 4 4, .slice (some ⟨bs, 0, none⟩) 4 4, .slice (some ⟨bb, 0, none⟩) 4 4] 71)) := (by repeat (first | with_reducible exact Below.refl _ _ | apply below_alloc | apply pw_below_drewN | apply below_drew1))
  have BX : Aside0 (Blk (w6.alloc (.cells #[.slice (some ⟨bk, 0, none⟩) 4 4, .slice (some ⟨bs, 0, none⟩) 4 4, .slice (some ⟨bb, 0, none⟩) 4 4] 71)) w6.heap.size #[.slice (some ⟨bk, 0, none⟩) 4 4, .slice (some ⟨bs, 0, none⟩) 4 4, .slice (some ⟨bb, 0, none⟩) 4 4] 71) := ⟨(by (repeat (first | with_reducible exact heap_alloc_new _ _ | with_reducible exact heap_alloc2_new _ _ _ | with_reducible exact blk_at3 _ _ _ _ | with_reducible exact blk_at4 _ _ _ _ _ | refine blk_alloc ?_ _)))⟩
  replace HB := Aside0.mk (below_step HB.out hb)
  replace HU := Aside0.mk (HU.out.below hb)
  replace HC := Aside0.mk (HC.out.below hb)
  replace BD := Aside0.mk (blk_below BD.out hb)
  replace BU := Aside0.mk (blk_below BU.out hb)
  replace BC := Aside0.mk (blk_below BC.out hb)
  replace BB := Aside0.mk (blk_below BB.out hb)
  replace BK := Aside0.mk (blk_below BK.out hb)
  replace BS := Aside0.mk (blk_below BS.out hb)
  clear hb
  generalize (w6.alloc (.cells #[.slice (some ⟨bk, 0, none⟩) 4 4, .slice (some ⟨bs, 0, none⟩) 4 4, .slice (some ⟨bb, 0, none⟩) 4 4] 71)) = Wc at HU HC HB BD BU BC BB BK BS BX ⊢
  obtain ⟨bx, HBX⟩ : ∃ b, Aside0 (b = w6.heap.size) := ⟨_, ⟨rfl⟩⟩
  rw [← HBX.out] at BX ⊢
  obtain ⟨hN, hL, h0, h1, h1', h2, hln, hln'⟩ := HU.out.reads
  obtain ⟨lbn, lbl, ln0, ln1, ln2, lln⟩ := HU.out.lts
  have lbnA : ∀ k, bn < Wc.heap.size + k := fun k => by omega
  have lbnB : ∀ k j, bn < Wc.heap.size + k + j := fun k j => by omega
  have lblA : ∀ k, bl < Wc.heap.size + k := fun k => by omega
  have lblB : ∀ k j, bl < Wc.heap.size + k + j := fun k j => by omega
  have ln0A : ∀ k, n0 < Wc.heap.size + k := fun k => by omega
  have ln0B : ∀ k j, n0 < Wc.heap.size + k + j := fun k j => by omega
  have ln1A : ∀ k, n1 < Wc.heap.size + k := fun k => by omega
  have ln1B : ∀ k j, n1 < Wc.heap.size + k + j := fun k j => by omega
  have ln2A : ∀ k, n2 < Wc.heap.size + k := fun k => by omega
  have ln2B : ∀ k j, n2 < Wc.heap.size + k + j := fun k j => by omega
  have llnA : ∀ k, ln < Wc.heap.size + k := fun k => by omega
  have llnB : ∀ k j, ln < Wc.heap.size + k + j := fun k j => by omega
  obtain ⟨hE, q0, q1, q1', q2, q3, qt⟩ := HC.out.reads
  obtain ⟨lbe, lk0, lk1, lk2, lk3, lkt⟩ := HC.out.lts
  have lbeA : ∀ k, be < Wc.heap.size + k := fun k => by omega
  have lbeB : ∀ k j, be < Wc.heap.size + k + j := fun k j => by omega
  have lk0A : ∀ k, k0 < Wc.heap.size + k := fun k => by omega
  have lk0B : ∀ k j, k0 < Wc.heap.size + k + j := fun k j => by omega
  have lk1A : ∀ k, k1 < Wc.heap.size + k := fun k => by omega
  have lk1B : ∀ k j, k1 < Wc.heap.size + k + j := fun k j => by omega
  have lk2A : ∀ k, k2 < Wc.heap.size + k := fun k => by omega
  have lk2B : ∀ k j, k2 < Wc.heap.size + k + j := fun k j => by omega
  have lk3A : ∀ k, k3 < Wc.heap.size + k := fun k => by omega
  have lk3B : ∀ k j, k3 < Wc.heap.size + k + j := fun k j => by omega
  have lktA : ∀ k, kt < Wc.heap.size + k := fun k => by omega
  have lktB : ∀ k j, kt < Wc.heap.size + k + j := fun k j => by omega
  have hBD : ∀ i, Wc.cell? ⟨dd, i, none⟩ = (#[.bool false, .bool false, .bool true, .bool false] : Array Value)[i]? := fun i => blk_cell BD.out i
  have ltBD := blk_lt BD.out
  have ltBDA : ∀ k, dd < Wc.heap.size + k := fun k => by omega
  have ltBDB : ∀ k j, dd < Wc.heap.size + k + j := fun k j => by omega
  have hBU : ∀ i, Wc.cell? ⟨w.heap.size, i, none⟩ = (#[.string ⟨#[]⟩, .slice (some ⟨bn, 0, none⟩) 4 4, .slice (some ⟨bl, 0, none⟩) 1 1, .slice none 0 0, .slice none 0 0, .slice none 0 0, .slice none 0 0, .slice none 0 0, .slice none 0 0, .slice none 0 0] : Array Value)[i]? := fun i => blk_cell BU.out i
  have ltBU := blk_lt BU.out
  have ltBUA : ∀ k, w.heap.size < Wc.heap.size + k := fun k => by omega
  have ltBUB : ∀ k j, w.heap.size < Wc.heap.size + k + j := fun k j => by omega
  have hBC : ∀ i, Wc.cell? ⟨(w.heap.size + 1), i, none⟩ = (#[.slice (some ⟨be, 0, none⟩) 4 4, .slice (some ⟨kt, 0, none⟩) 1 1] : Array Value)[i]? := fun i => blk_cell BC.out i
  have ltBC := blk_lt BC.out
  have ltBCA : ∀ k, (w.heap.size + 1) < Wc.heap.size + k := fun k => by omega
  have ltBCB : ∀ k j, (w.heap.size + 1) < Wc.heap.size + k + j := fun k j => by omega
  have hBB : ∀ i, Wc.cell? ⟨B, i, none⟩ = (#[.bool false, .bool false, .bool true, .bool false] : Array Value)[i]? := fun i => blk_cell BB.out i
  have ltBB := blk_lt BB.out
  have ltBBA : ∀ k, B < Wc.heap.size + k := fun k => by omega
  have ltBBB : ∀ k j, B < Wc.heap.size + k + j := fun k j => by omega
  have hBK : ∀ i, Wc.cell? ⟨bk, i, none⟩ = (#[.bool true, .bool true, .bool false, .bool true] : Array Value)[i]? := fun i => blk_cell BK.out i
  have ltBK := blk_lt BK.out
  have ltBKA : ∀ k, bk < Wc.heap.size + k := fun k => by omega
  have ltBKB : ∀ k j, bk < Wc.heap.size + k + j := fun k j => by omega
  have hBS : ∀ i, Wc.cell? ⟨bs, i, none⟩ = (#[.int .i64 (a2 + a0), .int .i64 a2, .int .i64 0, .int .i64 0] : Array Value)[i]? := fun i => blk_cell BS.out i
  have ltBS := blk_lt BS.out
  have ltBSA : ∀ k, bs < Wc.heap.size + k := fun k => by omega
  have ltBSB : ∀ k j, bs < Wc.heap.size + k + j := fun k j => by omega
  have fzBS := fun j => blk_frozen BS.out j
  have hBX : ∀ i, Wc.cell? ⟨bx, i, none⟩ = (#[.slice (some ⟨bk, 0, none⟩) 4 4, .slice (some ⟨bs, 0, none⟩) 4 4, .slice (some ⟨bb, 0, none⟩) 4 4] : Array Value)[i]? := fun i => blk_cell BX.out i
  have ltBX := blk_lt BX.out
  have ltBXA : ∀ k, bx < Wc.heap.size + k := fun k => by omega
  have ltBXB : ∀ k j, bx < Wc.heap.size + k + j := fun k j => by omega
  go_wp2_with fail
  go_loopg [40] 4 (fun gg s40 wr => ∃ i : Nat, i ≤ 4 ∧ 4 - i ≤ gg ∧ s40 = .int .i64 i ∧ Aside0 (Blk wr bx #[.slice (some ⟨bk, 0, none⟩) 4 4, .slice (some ⟨bs, 0, none⟩) 4 4, .slice (some ⟨bb, 0, none⟩) 4 4] 71 ∧ Blk wr bk #[.bool true, .bool true, .bool false, .bool true] 4 ∧ Blk wr bs (potS_two ce a0 a2 a3 i) 3 ∧ Blk wr (w.heap.size + 1) #[.slice (some ⟨be, 0, none⟩) 4 4, .slice (some ⟨kt, 0, none⟩) 1 1] 34 ∧ Below w.heap.size w wr))
  case atStart => exact ⟨0, by omega, by omega, rfl, ⟨BX.out, BK.out, BS.out, BC.out, HB.out⟩⟩
  case round =>
    clear hN hL h0 h1 h1' h2 hln hln' lbn lbl ln0 ln1 ln2 lln lbnA lbnB lblA lblB ln0A ln0B ln1A ln1B ln2A ln2B llnA llnB hE q0 q1 q1' q2 q3 qt lbe lk0 lk1 lk2 lk3 lkt lbeA lbeB lk0A lk0B lk1A lk1B lk2A lk2B lk3A lk3B lktA lktB hBD ltBD ltBDA ltBDB hBU ltBU ltBUA ltBUB hBC ltBC ltBCA ltBCB hBB ltBB ltBBA ltBBB hBK ltBK ltBKA ltBKB hBS ltBS ltBSA ltBSB fzBS hBX ltBX ltBXA ltBXB
    clear BX BK BS BC HB HU HC BU BD BB HBX
    obtain ⟨i, hi, hg, rfl, HP⟩ := hrel
    have HB := Aside0.mk HP.out.2.2.2.2
    have BX := Aside0.mk HP.out.1
    have BK := Aside0.mk HP.out.2.1
    have BC := Aside0.mk HP.out.2.2.2.1
    have HC := Aside0.mk (HC0.out.below HB.out)
    rcases (show i = 0 ∨ i = 1 ∨ i = 2 ∨ i = 3 ∨ i = 4 by omega) with rfl | rfl | rfl | rfl | rfl
    · have BS : Aside0 (Blk wr bs #[.int .i64 (a2 + a0), .int .i64 a2, .int .i64 0, .int .i64 0] 3) := ⟨HP.out.2.2.1⟩
      clear HP
      obtain ⟨hE, q0, q1, q1', q2, q3, qt⟩ := HC.out.reads
      obtain ⟨lbe, lk0, lk1, lk2, lk3, lkt⟩ := HC.out.lts
      have lbeA : ∀ k, be < wr.heap.size + k := fun k => by omega
      have lbeB : ∀ k j, be < wr.heap.size + k + j := fun k j => by omega
      have lk0A : ∀ k, k0 < wr.heap.size + k := fun k => by omega
      have lk0B : ∀ k j, k0 < wr.heap.size + k + j := fun k j => by omega
      have lk1A : ∀ k, k1 < wr.heap.size + k := fun k => by omega
      have lk1B : ∀ k j, k1 < wr.heap.size + k + j := fun k j => by omega
      have lk2A : ∀ k, k2 < wr.heap.size + k := fun k => by omega
      have lk2B : ∀ k j, k2 < wr.heap.size + k + j := fun k j => by omega
      have lk3A : ∀ k, k3 < wr.heap.size + k := fun k => by omega
      have lk3B : ∀ k j, k3 < wr.heap.size + k + j := fun k j => by omega
      have lktA : ∀ k, kt < wr.heap.size + k := fun k => by omega
      have lktB : ∀ k j, kt < wr.heap.size + k + j := fun k j => by omega
      have hBS : ∀ i, wr.cell? ⟨bs, i, none⟩ = (#[.int .i64 (a2 + a0), .int .i64 a2, .int .i64 0, .int .i64 0] : Array Value)[i]? := fun i => blk_cell BS.out i
      have ltBS := blk_lt BS.out
      have ltBSA : ∀ k, bs < wr.heap.size + k := fun k => by omega
      have ltBSB : ∀ k j, bs < wr.heap.size + k + j := fun k j => by omega
      have fzBS := fun j => blk_frozen BS.out j
      have hBK : ∀ i, wr.cell? ⟨bk, i, none⟩ = (#[.bool true, .bool true, .bool false, .bool true] : Array Value)[i]? := fun i => blk_cell BK.out i
      have ltBK := blk_lt BK.out
      have ltBKA : ∀ k, bk < wr.heap.size + k := fun k => by omega
      have ltBKB : ∀ k j, bk < wr.heap.size + k + j := fun k j => by omega
      have hBX : ∀ i, wr.cell? ⟨bx, i, none⟩ = (#[.slice (some ⟨bk, 0, none⟩) 4 4, .slice (some ⟨bs, 0, none⟩) 4 4, .slice (some ⟨bb, 0, none⟩) 4 4] : Array Value)[i]? := fun i => blk_cell BX.out i
      have ltBX := blk_lt BX.out
      have ltBXA : ∀ k, bx < wr.heap.size + k := fun k => by omega
      have ltBXB : ∀ k j, bx < wr.heap.size + k + j := fun k j => by omega
      have hBC : ∀ i, wr.cell? ⟨(w.heap.size + 1), i, none⟩ = (#[.slice (some ⟨be, 0, none⟩) 4 4, .slice (some ⟨kt, 0, none⟩) 1 1] : Array Value)[i]? := fun i => blk_cell BC.out i
      have ltBC := blk_lt BC.out
      have ltBCA : ∀ k, (w.heap.size + 1) < wr.heap.size + k := fun k => by omega
      have ltBCB : ∀ k j, (w.heap.size + 1) < wr.heap.size + k + j := fun k j => by omega
      go_wp2_with fail
      go_region
      go_wp2_with fail
      go_roundg (4 - 1)
      case measure => omega
      case rel =>
        exact ⟨1, by omega, by omega, by go_num, ⟨blk_drew (blk_far BX.out (blk_ne BX.out BS.out (by decide)) _), blk_drew (blk_far BK.out (blk_ne BK.out BS.out (by decide)) _), blk_drew (blk_set BS.out 0 _), blk_drew (blk_far BC.out (blk_ne BC.out BS.out (by decide)) _), below_drew1 (bset HB.out HBS.out _ _)⟩⟩
    · have BS : Aside0 (Blk wr bs #[.int .i64 (a2 + a0 + ce), .int .i64 a2, .int .i64 0, .int .i64 0] 3) := ⟨HP.out.2.2.1⟩
      clear HP
      obtain ⟨hE, q0, q1, q1', q2, q3, qt⟩ := HC.out.reads
      obtain ⟨lbe, lk0, lk1, lk2, lk3, lkt⟩ := HC.out.lts
      have lbeA : ∀ k, be < wr.heap.size + k := fun k => by omega
      have lbeB : ∀ k j, be < wr.heap.size + k + j := fun k j => by omega
      have lk0A : ∀ k, k0 < wr.heap.size + k := fun k => by omega
      have lk0B : ∀ k j, k0 < wr.heap.size + k + j := fun k j => by omega
      have lk1A : ∀ k, k1 < wr.heap.size + k := fun k => by omega
      have lk1B : ∀ k j, k1 < wr.heap.size + k + j := fun k j => by omega
      have lk2A : ∀ k, k2 < wr.heap.size + k := fun k => by omega
      have lk2B : ∀ k j, k2 < wr.heap.size + k + j := fun k j => by omega
      have lk3A : ∀ k, k3 < wr.heap.size + k := fun k => by omega
      have lk3B : ∀ k j, k3 < wr.heap.size + k + j := fun k j => by omega
      have lktA : ∀ k, kt < wr.heap.size + k := fun k => by omega
      have lktB : ∀ k j, kt < wr.heap.size + k + j := fun k j => by omega
      have hBS : ∀ i, wr.cell? ⟨bs, i, none⟩ = (#[.int .i64 (a2 + a0 + ce), .int .i64 a2, .int .i64 0, .int .i64 0] : Array Value)[i]? := fun i => blk_cell BS.out i
      have ltBS := blk_lt BS.out
      have ltBSA : ∀ k, bs < wr.heap.size + k := fun k => by omega
      have ltBSB : ∀ k j, bs < wr.heap.size + k + j := fun k j => by omega
      have fzBS := fun j => blk_frozen BS.out j
      have hBK : ∀ i, wr.cell? ⟨bk, i, none⟩ = (#[.bool true, .bool true, .bool false, .bool true] : Array Value)[i]? := fun i => blk_cell BK.out i
      have ltBK := blk_lt BK.out
      have ltBKA : ∀ k, bk < wr.heap.size + k := fun k => by omega
      have ltBKB : ∀ k j, bk < wr.heap.size + k + j := fun k j => by omega
      have hBX : ∀ i, wr.cell? ⟨bx, i, none⟩ = (#[.slice (some ⟨bk, 0, none⟩) 4 4, .slice (some ⟨bs, 0, none⟩) 4 4, .slice (some ⟨bb, 0, none⟩) 4 4] : Array Value)[i]? := fun i => blk_cell BX.out i
      have ltBX := blk_lt BX.out
      have ltBXA : ∀ k, bx < wr.heap.size + k := fun k => by omega
      have ltBXB : ∀ k j, bx < wr.heap.size + k + j := fun k j => by omega
      have hBC : ∀ i, wr.cell? ⟨(w.heap.size + 1), i, none⟩ = (#[.slice (some ⟨be, 0, none⟩) 4 4, .slice (some ⟨kt, 0, none⟩) 1 1] : Array Value)[i]? := fun i => blk_cell BC.out i
      have ltBC := blk_lt BC.out
      have ltBCA : ∀ k, (w.heap.size + 1) < wr.heap.size + k := fun k => by omega
      have ltBCB : ∀ k j, (w.heap.size + 1) < wr.heap.size + k + j := fun k j => by omega
      go_wp2_with fail
      go_region
      go_wp2_with fail
      go_roundg (4 - 2)
      case measure => omega
      case rel =>
        exact ⟨2, by omega, by omega, by go_num, ⟨blk_drew (blk_far BX.out (blk_ne BX.out BS.out (by decide)) _), blk_drew (blk_far BK.out (blk_ne BK.out BS.out (by decide)) _), blk_drew (blk_set BS.out 1 _), blk_drew (blk_far BC.out (blk_ne BC.out BS.out (by decide)) _), below_drew1 (bset HB.out HBS.out _ _)⟩⟩
    · have BS : Aside0 (Blk wr bs #[.int .i64 (a2 + a0 + ce), .int .i64 (a2 + ce), .int .i64 0, .int .i64 0] 3) := ⟨HP.out.2.2.1⟩
      clear HP
      obtain ⟨hE, q0, q1, q1', q2, q3, qt⟩ := HC.out.reads
      obtain ⟨lbe, lk0, lk1, lk2, lk3, lkt⟩ := HC.out.lts
      have lbeA : ∀ k, be < wr.heap.size + k := fun k => by omega
      have lbeB : ∀ k j, be < wr.heap.size + k + j := fun k j => by omega
      have lk0A : ∀ k, k0 < wr.heap.size + k := fun k => by omega
      have lk0B : ∀ k j, k0 < wr.heap.size + k + j := fun k j => by omega
      have lk1A : ∀ k, k1 < wr.heap.size + k := fun k => by omega
      have lk1B : ∀ k j, k1 < wr.heap.size + k + j := fun k j => by omega
      have lk2A : ∀ k, k2 < wr.heap.size + k := fun k => by omega
      have lk2B : ∀ k j, k2 < wr.heap.size + k + j := fun k j => by omega
      have lk3A : ∀ k, k3 < wr.heap.size + k := fun k => by omega
      have lk3B : ∀ k j, k3 < wr.heap.size + k + j := fun k j => by omega
      have lktA : ∀ k, kt < wr.heap.size + k := fun k => by omega
      have lktB : ∀ k j, kt < wr.heap.size + k + j := fun k j => by omega
      have hBS : ∀ i, wr.cell? ⟨bs, i, none⟩ = (#[.int .i64 (a2 + a0 + ce), .int .i64 (a2 + ce), .int .i64 0, .int .i64 0] : Array Value)[i]? := fun i => blk_cell BS.out i
      have ltBS := blk_lt BS.out
      have ltBSA : ∀ k, bs < wr.heap.size + k := fun k => by omega
      have ltBSB : ∀ k j, bs < wr.heap.size + k + j := fun k j => by omega
      have fzBS := fun j => blk_frozen BS.out j
      have hBK : ∀ i, wr.cell? ⟨bk, i, none⟩ = (#[.bool true, .bool true, .bool false, .bool true] : Array Value)[i]? := fun i => blk_cell BK.out i
      have ltBK := blk_lt BK.out
      have ltBKA : ∀ k, bk < wr.heap.size + k := fun k => by omega
      have ltBKB : ∀ k j, bk < wr.heap.size + k + j := fun k j => by omega
      have hBX : ∀ i, wr.cell? ⟨bx, i, none⟩ = (#[.slice (some ⟨bk, 0, none⟩) 4 4, .slice (some ⟨bs, 0, none⟩) 4 4, .slice (some ⟨bb, 0, none⟩) 4 4] : Array Value)[i]? := fun i => blk_cell BX.out i
      have ltBX := blk_lt BX.out
      have ltBXA : ∀ k, bx < wr.heap.size + k := fun k => by omega
      have ltBXB : ∀ k j, bx < wr.heap.size + k + j := fun k j => by omega
      have hBC : ∀ i, wr.cell? ⟨(w.heap.size + 1), i, none⟩ = (#[.slice (some ⟨be, 0, none⟩) 4 4, .slice (some ⟨kt, 0, none⟩) 1 1] : Array Value)[i]? := fun i => blk_cell BC.out i
      have ltBC := blk_lt BC.out
      have ltBCA : ∀ k, (w.heap.size + 1) < wr.heap.size + k := fun k => by omega
      have ltBCB : ∀ k j, (w.heap.size + 1) < wr.heap.size + k + j := fun k j => by omega
      go_wp2_with fail
      go_roundg (4 - 3)
      case measure => omega
      case rel => exact ⟨3, by omega, by omega, by go_num, ⟨BX.out, BK.out, BS.out, BC.out, HB.out⟩⟩
    · have BS : Aside0 (Blk wr bs #[.int .i64 (a2 + a0 + ce), .int .i64 (a2 + ce), .int .i64 0, .int .i64 0] 3) := ⟨HP.out.2.2.1⟩
      clear HP
      obtain ⟨hE, q0, q1, q1', q2, q3, qt⟩ := HC.out.reads
      obtain ⟨lbe, lk0, lk1, lk2, lk3, lkt⟩ := HC.out.lts
      have lbeA : ∀ k, be < wr.heap.size + k := fun k => by omega
      have lbeB : ∀ k j, be < wr.heap.size + k + j := fun k j => by omega
      have lk0A : ∀ k, k0 < wr.heap.size + k := fun k => by omega
      have lk0B : ∀ k j, k0 < wr.heap.size + k + j := fun k j => by omega
      have lk1A : ∀ k, k1 < wr.heap.size + k := fun k => by omega
      have lk1B : ∀ k j, k1 < wr.heap.size + k + j := fun k j => by omega
      have lk2A : ∀ k, k2 < wr.heap.size + k := fun k => by omega
      have lk2B : ∀ k j, k2 < wr.heap.size + k + j := fun k j => by omega
      have lk3A : ∀ k, k3 < wr.heap.size + k := fun k => by omega
      have lk3B : ∀ k j, k3 < wr.heap.size + k + j := fun k j => by omega
      have lktA : ∀ k, kt < wr.heap.size + k := fun k => by omega
      have lktB : ∀ k j, kt < wr.heap.size + k + j := fun k j => by omega
      have hBS : ∀ i, wr.cell? ⟨bs, i, none⟩ = (#[.int .i64 (a2 + a0 + ce), .int .i64 (a2 + ce), .int .i64 0, .int .i64 0] : Array Value)[i]? := fun i => blk_cell BS.out i
      have ltBS := blk_lt BS.out
      have ltBSA : ∀ k, bs < wr.heap.size + k := fun k => by omega
      have ltBSB : ∀ k j, bs < wr.heap.size + k + j := fun k j => by omega
      have fzBS := fun j => blk_frozen BS.out j
      have hBK : ∀ i, wr.cell? ⟨bk, i, none⟩ = (#[.bool true, .bool true, .bool false, .bool true] : Array Value)[i]? := fun i => blk_cell BK.out i
      have ltBK := blk_lt BK.out
      have ltBKA : ∀ k, bk < wr.heap.size + k := fun k => by omega
      have ltBKB : ∀ k j, bk < wr.heap.size + k + j := fun k j => by omega
      have hBX : ∀ i, wr.cell? ⟨bx, i, none⟩ = (#[.slice (some ⟨bk, 0, none⟩) 4 4, .slice (some ⟨bs, 0, none⟩) 4 4, .slice (some ⟨bb, 0, none⟩) 4 4] : Array Value)[i]? := fun i => blk_cell BX.out i
      have ltBX := blk_lt BX.out
      have ltBXA : ∀ k, bx < wr.heap.size + k := fun k => by omega
      have ltBXB : ∀ k j, bx < wr.heap.size + k + j := fun k j => by omega
      have hBC : ∀ i, wr.cell? ⟨(w.heap.size + 1), i, none⟩ = (#[.slice (some ⟨be, 0, none⟩) 4 4, .slice (some ⟨kt, 0, none⟩) 1 1] : Array Value)[i]? := fun i => blk_cell BC.out i
      have ltBC := blk_lt BC.out
      have ltBCA : ∀ k, (w.heap.size + 1) < wr.heap.size + k := fun k => by omega
      have ltBCB : ∀ k j, (w.heap.size + 1) < wr.heap.size + k + j := fun k j => by omega
      go_wp2_with fail
      go_region
      go_wp2_with fail
      go_roundg (4 - 4)
      case measure => omega
      case rel =>
        exact ⟨4, by omega, by omega, by go_num, ⟨blk_drew (blk_far BX.out (blk_ne BX.out BS.out (by decide)) _), blk_drew (blk_far BK.out (blk_ne BK.out BS.out (by decide)) _), blk_drew (blk_set BS.out 3 _), blk_drew (blk_far BC.out (blk_ne BC.out BS.out (by decide)) _), below_drew1 (bset HB.out HBS.out _ _)⟩⟩
    · have BS : Aside0 (Blk wr bs #[.int .i64 (a2 + a0 + ce), .int .i64 (a2 + ce), .int .i64 0, .int .i64 ce] 3) := ⟨HP.out.2.2.1⟩
      clear HP
      obtain ⟨hE, q0, q1, q1', q2, q3, qt⟩ := HC.out.reads
      obtain ⟨lbe, lk0, lk1, lk2, lk3, lkt⟩ := HC.out.lts
      have lbeA : ∀ k, be < wr.heap.size + k := fun k => by omega
      have lbeB : ∀ k j, be < wr.heap.size + k + j := fun k j => by omega
      have lk0A : ∀ k, k0 < wr.heap.size + k := fun k => by omega
      have lk0B : ∀ k j, k0 < wr.heap.size + k + j := fun k j => by omega
      have lk1A : ∀ k, k1 < wr.heap.size + k := fun k => by omega
      have lk1B : ∀ k j, k1 < wr.heap.size + k + j := fun k j => by omega
      have lk2A : ∀ k, k2 < wr.heap.size + k := fun k => by omega
      have lk2B : ∀ k j, k2 < wr.heap.size + k + j := fun k j => by omega
      have lk3A : ∀ k, k3 < wr.heap.size + k := fun k => by omega
      have lk3B : ∀ k j, k3 < wr.heap.size + k + j := fun k j => by omega
      have lktA : ∀ k, kt < wr.heap.size + k := fun k => by omega
      have lktB : ∀ k j, kt < wr.heap.size + k + j := fun k j => by omega
      have hBS : ∀ i, wr.cell? ⟨bs, i, none⟩ = (#[.int .i64 (a2 + a0 + ce), .int .i64 (a2 + ce), .int .i64 0, .int .i64 ce] : Array Value)[i]? := fun i => blk_cell BS.out i
      have ltBS := blk_lt BS.out
      have ltBSA : ∀ k, bs < wr.heap.size + k := fun k => by omega
      have ltBSB : ∀ k j, bs < wr.heap.size + k + j := fun k j => by omega
      have fzBS := fun j => blk_frozen BS.out j
      have hBK : ∀ i, wr.cell? ⟨bk, i, none⟩ = (#[.bool true, .bool true, .bool false, .bool true] : Array Value)[i]? := fun i => blk_cell BK.out i
      have ltBK := blk_lt BK.out
      have ltBKA : ∀ k, bk < wr.heap.size + k := fun k => by omega
      have ltBKB : ∀ k j, bk < wr.heap.size + k + j := fun k j => by omega
      have hBX : ∀ i, wr.cell? ⟨bx, i, none⟩ = (#[.slice (some ⟨bk, 0, none⟩) 4 4, .slice (some ⟨bs, 0, none⟩) 4 4, .slice (some ⟨bb, 0, none⟩) 4 4] : Array Value)[i]? := fun i => blk_cell BX.out i
      have ltBX := blk_lt BX.out
      have ltBXA : ∀ k, bx < wr.heap.size + k := fun k => by omega
      have ltBXB : ∀ k j, bx < wr.heap.size + k + j := fun k j => by omega
      have hBC : ∀ i, wr.cell? ⟨(w.heap.size + 1), i, none⟩ = (#[.slice (some ⟨be, 0, none⟩) 4 4, .slice (some ⟨kt, 0, none⟩) 1 1] : Array Value)[i]? := fun i => blk_cell BC.out i
      have ltBC := blk_lt BC.out
      have ltBCA : ∀ k, (w.heap.size + 1) < wr.heap.size + k := fun k => by omega
      have ltBCB : ∀ k j, (w.heap.size + 1) < wr.heap.size + k + j := fun k j => by omega
      go_wp2_with fail
      go_region
      go_wp2_with fail
      go_ret2
      exact ⟨bs, bk, _, _, rfl, blk_drew BS.out, blk_drew BK.out, rfl, rfl, below_drew1 HB.out⟩
def potS_one (ce a0 a2 a3 : Int) : Nat → Array Value
  | 0 => #[.int .i64 0, .int .i64 0, .int .i64 0, .int .i64 0]
  | 1 => #[.int .i64 0, .int .i64 0, .int .i64 0, .int .i64 0]
  | 2 => #[.int .i64 0, .int .i64 0, .int .i64 0, .int .i64 0]
  | 3 => #[.int .i64 0, .int .i64 0, .int .i64 0, .int .i64 0]
  | _ => #[.int .i64 0, .int .i64 0, .int .i64 0, .int .i64 ce]
set_option maxHeartbeats 8000000 in
set_option maxRecDepth 100000 in
theorem pot_one (bn bl n0 n1 n2 ln : Nat) (mx : Int) (w : World) (hU : UnitW w bn bl n0 n1 n2 ln mx) (be k0 k1 k2 k3 kt : Nat) (cb ch cl cd ce ct : Int) (hC : CostW w be k0 k1 k2 k3 kt cb ch cl cd ce ct) (hlow : Low cb ch cl cd ce ct mx) (dd : Nat) (hD : Blk w dd #[.bool false, .bool true, .bool false, .bool false] 4) (bs0 ge c : Nat) (a0 a1 a2 a3 : Int) (ga0 : 0 ≤ a0) (ga0' : a0 ≤ 20000) (ga1 : 0 ≤ a1) (ga1' : a1 ≤ 255) (ga2 : 0 ≤ a2) (ga2' : a2 ≤ 255) (ga3 : -510 ≤ a3) (ga3' : a3 ≤ 255) (hE : w.ownsRow bs0 74 4 (.slice (some ⟨ge, 0, none⟩) 4 c) 4 [.int .i64 0, .int .i64 0, .int .i64 1, .int .i64 a0, .int .i64 1, .int .i64 0, .int .i64 2, .int .i64 a1, .int .i64 1, .int .i64 1, .int .i64 3, .int .i64 a2, .int .i64 2, .int .i64 0, .int .i64 1, .int .i64 a3]) :
    Calls Try.prog 12 #[UV bn bl, CV be kt, .slice (some ⟨dd, 0, none⟩) 4 4, .slice (some ⟨ge, 0, none⟩) 4 c] w fun e w' => ∃ qs qk SS KK, e = .returned (.tuple #[.slice (some ⟨qs, 0, none⟩) 4 4, .slice (some ⟨qk, 0, none⟩) 4 4]) ∧ Blk w' qs SS 3 ∧ Blk w' qk KK 4 ∧ SS[0]? = some (.int .i64 (0)) ∧ KK[0]? = some (.bool false) ∧ Below w.heap.size w w' := by
  have hu32 := Try.underlying32
  have hu34 := Try.underlying34
  have hu38 := Try.underlying38
  have hu46 := Try.underlying46
  have hu71 := Try.underlying71
  have hu74 := Try.underlying74
  obtain ⟨⟨gcb, gcb'⟩, ⟨gch, gch'⟩, ⟨gcl, gcl'⟩, ⟨gcd, gcd'⟩, ⟨gce, gce'⟩, ⟨gct, gct'⟩, gmx, gmx'⟩ := hlow
  have BD := Aside0.mk hD
  have HE1 := Aside0.mk hE
  clear hD hE
  have HU := Aside0.mk hU
  have HC := Aside0.mk hC
  have HB : Aside0 (Below w.heap.size w w) := ⟨Below.refl _ _⟩
  clear hU hC
  have HC0 := HC
  go_enter Try.func12, Try.ntmps12
  go_upto_region 1 with (fail)
  have hb : Below w.heap.size w ((w.alloc (.cells #[.string ⟨#[]⟩, .slice (some ⟨bn, 0, none⟩) 4 4, .slice (some ⟨bl, 0, none⟩) 1 1, .slice none 0 0, .slice none 0 0, .slice none 0 0, .slice none 0 0, .slice none 0 0, .slice none 0 0, .slice none 0 0] 32)).alloc (.cells #[.slice (some ⟨be, 0, none⟩) 4 4, .slice (some ⟨kt, 0, none⟩) 1 1] 34)) := (by repeat (first | with_reducible exact Below.refl _ _ | apply below_alloc | apply pw_below_drewN | apply below_drew1))
  have BU : Aside0 (Blk ((w.alloc (.cells #[.string ⟨#[]⟩, .slice (some ⟨bn, 0, none⟩) 4 4, .slice (some ⟨bl, 0, none⟩) 1 1, .slice none 0 0, .slice none 0 0, .slice none 0 0, .slice none 0 0, .slice none 0 0, .slice none 0 0, .slice none 0 0] 32)).alloc (.cells #[.slice (some ⟨be, 0, none⟩) 4 4, .slice (some ⟨kt, 0, none⟩) 1 1] 34)) w.heap.size #[.string ⟨#[]⟩, .slice (some ⟨bn, 0, none⟩) 4 4, .slice (some ⟨bl, 0, none⟩) 1 1, .slice none 0 0, .slice none 0 0, .slice none 0 0, .slice none 0 0, .slice none 0 0, .slice none 0 0, .slice none 0 0] 32) := ⟨(by (repeat (first | with_reducible exact heap_alloc_new _ _ | with_reducible exact heap_alloc2_new _ _ _ | with_reducible exact blk_at3 _ _ _ _ | with_reducible exact blk_at4 _ _ _ _ _ | refine blk_alloc ?_ _)))⟩
  have BC : Aside0 (Blk ((w.alloc (.cells #[.string ⟨#[]⟩, .slice (some ⟨bn, 0, none⟩) 4 4, .slice (some ⟨bl, 0, none⟩) 1 1, .slice none 0 0, .slice none 0 0, .slice none 0 0, .slice none 0 0, .slice none 0 0, .slice none 0 0, .slice none 0 0] 32)).alloc (.cells #[.slice (some ⟨be, 0, none⟩) 4 4, .slice (some ⟨kt, 0, none⟩) 1 1] 34)) (w.heap.size + 1) #[.slice (some ⟨be, 0, none⟩) 4 4, .slice (some ⟨kt, 0, none⟩) 1 1] 34) := ⟨(by (repeat (first | with_reducible exact heap_alloc_new _ _ | with_reducible exact heap_alloc2_new _ _ _ | with_reducible exact blk_at3 _ _ _ _ | with_reducible exact blk_at4 _ _ _ _ _ | refine blk_alloc ?_ _)))⟩
  replace HB := Aside0.mk (below_step HB.out hb)
  replace HU := Aside0.mk (HU.out.below hb)
  replace HC := Aside0.mk (HC.out.below hb)
  replace BD := Aside0.mk (blk_below BD.out hb)
  replace HE1 := Aside0.mk (pw_own_below HE1.out hb)
  clear hb
  generalize ((w.alloc (.cells #[.string ⟨#[]⟩, .slice (some ⟨bn, 0, none⟩) 4 4, .slice (some ⟨bl, 0, none⟩) 1 1, .slice none 0 0, .slice none 0 0, .slice none 0 0, .slice none 0 0, .slice none 0 0, .slice none 0 0, .slice none 0 0] 32)).alloc (.cells #[.slice (some ⟨be, 0, none⟩) 4 4, .slice (some ⟨kt, 0, none⟩) 1 1] 34)) = Wa at HU HC HB BD BU BC HE1 ⊢
  obtain ⟨hN, hL, h0, h1, h1', h2, hln, hln'⟩ := HU.out.reads
  obtain ⟨lbn, lbl, ln0, ln1, ln2, lln⟩ := HU.out.lts
  have lbnA : ∀ k, bn < Wa.heap.size + k := fun k => by omega
  have lbnB : ∀ k j, bn < Wa.heap.size + k + j := fun k j => by omega
  have lblA : ∀ k, bl < Wa.heap.size + k := fun k => by omega
  have lblB : ∀ k j, bl < Wa.heap.size + k + j := fun k j => by omega
  have ln0A : ∀ k, n0 < Wa.heap.size + k := fun k => by omega
  have ln0B : ∀ k j, n0 < Wa.heap.size + k + j := fun k j => by omega
  have ln1A : ∀ k, n1 < Wa.heap.size + k := fun k => by omega
  have ln1B : ∀ k j, n1 < Wa.heap.size + k + j := fun k j => by omega
  have ln2A : ∀ k, n2 < Wa.heap.size + k := fun k => by omega
  have ln2B : ∀ k j, n2 < Wa.heap.size + k + j := fun k j => by omega
  have llnA : ∀ k, ln < Wa.heap.size + k := fun k => by omega
  have llnB : ∀ k j, ln < Wa.heap.size + k + j := fun k j => by omega
  obtain ⟨hE, q0, q1, q1', q2, q3, qt⟩ := HC.out.reads
  obtain ⟨lbe, lk0, lk1, lk2, lk3, lkt⟩ := HC.out.lts
  have lbeA : ∀ k, be < Wa.heap.size + k := fun k => by omega
  have lbeB : ∀ k j, be < Wa.heap.size + k + j := fun k j => by omega
  have lk0A : ∀ k, k0 < Wa.heap.size + k := fun k => by omega
  have lk0B : ∀ k j, k0 < Wa.heap.size + k + j := fun k j => by omega
  have lk1A : ∀ k, k1 < Wa.heap.size + k := fun k => by omega
  have lk1B : ∀ k j, k1 < Wa.heap.size + k + j := fun k j => by omega
  have lk2A : ∀ k, k2 < Wa.heap.size + k := fun k => by omega
  have lk2B : ∀ k j, k2 < Wa.heap.size + k + j := fun k j => by omega
  have lk3A : ∀ k, k3 < Wa.heap.size + k := fun k => by omega
  have lk3B : ∀ k j, k3 < Wa.heap.size + k + j := fun k j => by omega
  have lktA : ∀ k, kt < Wa.heap.size + k := fun k => by omega
  have lktB : ∀ k j, kt < Wa.heap.size + k + j := fun k j => by omega
  have hBD : ∀ i, Wa.cell? ⟨dd, i, none⟩ = (#[.bool false, .bool true, .bool false, .bool false] : Array Value)[i]? := fun i => blk_cell BD.out i
  have ltBD := blk_lt BD.out
  have ltBDA : ∀ k, dd < Wa.heap.size + k := fun k => by omega
  have ltBDB : ∀ k j, dd < Wa.heap.size + k + j := fun k j => by omega
  have hBU : ∀ i, Wa.cell? ⟨w.heap.size, i, none⟩ = (#[.string ⟨#[]⟩, .slice (some ⟨bn, 0, none⟩) 4 4, .slice (some ⟨bl, 0, none⟩) 1 1, .slice none 0 0, .slice none 0 0, .slice none 0 0, .slice none 0 0, .slice none 0 0, .slice none 0 0, .slice none 0 0] : Array Value)[i]? := fun i => blk_cell BU.out i
  have ltBU := blk_lt BU.out
  have ltBUA : ∀ k, w.heap.size < Wa.heap.size + k := fun k => by omega
  have ltBUB : ∀ k j, w.heap.size < Wa.heap.size + k + j := fun k j => by omega
  have hBC : ∀ i, Wa.cell? ⟨(w.heap.size + 1), i, none⟩ = (#[.slice (some ⟨be, 0, none⟩) 4 4, .slice (some ⟨kt, 0, none⟩) 1 1] : Array Value)[i]? := fun i => blk_cell BC.out i
  have ltBC := blk_lt BC.out
  have ltBCA : ∀ k, (w.heap.size + 1) < Wa.heap.size + k := fun k => by omega
  have ltBCB : ∀ k j, (w.heap.size + 1) < Wa.heap.size + k + j := fun k j => by omega
  go_wp2_with fail
  clear hN hL h0 h1 h1' h2 hln hln' lbn lbl ln0 ln1 ln2 lln lbnA lbnB lblA lblB ln0A ln0B ln1A ln1B ln2A ln2B llnA llnB hE q0 q1 q1' q2 q3 qt lbe lk0 lk1 lk2 lk3 lkt lbeA lbeB lk0A lk0B lk1A lk1B lk2A lk2B lk3A lk3B lktA lktB hBD ltBD ltBDA ltBDB hBU ltBU ltBUA ltBUB hBC ltBC ltBCA ltBCB
  refine (end_calls bn bl n0 n1 n2 ln mx _ HU.out).mono ?_
  rintro e w2 ⟨rfl, hb⟩
  replace HB := Aside0.mk (below_step HB.out hb)
  replace HU := Aside0.mk (HU.out.below hb)
  replace HC := Aside0.mk (HC.out.below hb)
  replace BD := Aside0.mk (blk_below BD.out hb)
  replace BU := Aside0.mk (blk_below BU.out hb)
  replace BC := Aside0.mk (blk_below BC.out hb)
  replace HE1 := Aside0.mk (pw_own_below HE1.out hb)
  clear hb
  obtain ⟨hN, hL, h0, h1, h1', h2, hln, hln'⟩ := HU.out.reads
  obtain ⟨lbn, lbl, ln0, ln1, ln2, lln⟩ := HU.out.lts
  have lbnA : ∀ k, bn < w2.heap.size + k := fun k => by omega
  have lbnB : ∀ k j, bn < w2.heap.size + k + j := fun k j => by omega
  have lblA : ∀ k, bl < w2.heap.size + k := fun k => by omega
  have lblB : ∀ k j, bl < w2.heap.size + k + j := fun k j => by omega
  have ln0A : ∀ k, n0 < w2.heap.size + k := fun k => by omega
  have ln0B : ∀ k j, n0 < w2.heap.size + k + j := fun k j => by omega
  have ln1A : ∀ k, n1 < w2.heap.size + k := fun k => by omega
  have ln1B : ∀ k j, n1 < w2.heap.size + k + j := fun k j => by omega
  have ln2A : ∀ k, n2 < w2.heap.size + k := fun k => by omega
  have ln2B : ∀ k j, n2 < w2.heap.size + k + j := fun k j => by omega
  have llnA : ∀ k, ln < w2.heap.size + k := fun k => by omega
  have llnB : ∀ k j, ln < w2.heap.size + k + j := fun k j => by omega
  obtain ⟨hE, q0, q1, q1', q2, q3, qt⟩ := HC.out.reads
  obtain ⟨lbe, lk0, lk1, lk2, lk3, lkt⟩ := HC.out.lts
  have lbeA : ∀ k, be < w2.heap.size + k := fun k => by omega
  have lbeB : ∀ k j, be < w2.heap.size + k + j := fun k j => by omega
  have lk0A : ∀ k, k0 < w2.heap.size + k := fun k => by omega
  have lk0B : ∀ k j, k0 < w2.heap.size + k + j := fun k j => by omega
  have lk1A : ∀ k, k1 < w2.heap.size + k := fun k => by omega
  have lk1B : ∀ k j, k1 < w2.heap.size + k + j := fun k j => by omega
  have lk2A : ∀ k, k2 < w2.heap.size + k := fun k => by omega
  have lk2B : ∀ k j, k2 < w2.heap.size + k + j := fun k j => by omega
  have lk3A : ∀ k, k3 < w2.heap.size + k := fun k => by omega
  have lk3B : ∀ k j, k3 < w2.heap.size + k + j := fun k j => by omega
  have lktA : ∀ k, kt < w2.heap.size + k := fun k => by omega
  have lktB : ∀ k j, kt < w2.heap.size + k + j := fun k j => by omega
  have hBD : ∀ i, w2.cell? ⟨dd, i, none⟩ = (#[.bool false, .bool true, .bool false, .bool false] : Array Value)[i]? := fun i => blk_cell BD.out i
  have ltBD := blk_lt BD.out
  have ltBDA : ∀ k, dd < w2.heap.size + k := fun k => by omega
  have ltBDB : ∀ k j, dd < w2.heap.size + k + j := fun k j => by omega
  have hBU : ∀ i, w2.cell? ⟨w.heap.size, i, none⟩ = (#[.string ⟨#[]⟩, .slice (some ⟨bn, 0, none⟩) 4 4, .slice (some ⟨bl, 0, none⟩) 1 1, .slice none 0 0, .slice none 0 0, .slice none 0 0, .slice none 0 0, .slice none 0 0, .slice none 0 0, .slice none 0 0] : Array Value)[i]? := fun i => blk_cell BU.out i
  have ltBU := blk_lt BU.out
  have ltBUA : ∀ k, w.heap.size < w2.heap.size + k := fun k => by omega
  have ltBUB : ∀ k j, w.heap.size < w2.heap.size + k + j := fun k j => by omega
  have hBC : ∀ i, w2.cell? ⟨(w.heap.size + 1), i, none⟩ = (#[.slice (some ⟨be, 0, none⟩) 4 4, .slice (some ⟨kt, 0, none⟩) 1 1] : Array Value)[i]? := fun i => blk_cell BC.out i
  have ltBC := blk_lt BC.out
  have ltBCA : ∀ k, (w.heap.size + 1) < w2.heap.size + k := fun k => by omega
  have ltBCB : ∀ k j, (w.heap.size + 1) < w2.heap.size + k + j := fun k j => by omega
  go_wp2_with fail
  clear hN hL h0 h1 h1' h2 hln hln' lbn lbl ln0 ln1 ln2 lln lbnA lbnB lblA lblB ln0A ln0B ln1A ln1B ln2A ln2B llnA llnB hE q0 q1 q1' q2 q3 qt lbe lk0 lk1 lk2 lk3 lkt lbeA lbeB lk0A lk0B lk1A lk1B lk2A lk2B lk3A lk3B lktA lktB hBD ltBD ltBDA ltBDB hBU ltBU ltBUA ltBUB hBC ltBC ltBCA ltBCB
  refine (gone_calls bn bl n0 n1 n2 ln mx _ HU.out dd false true false false BD.out).mono ?_
  rintro e w3 ⟨B, rfl, hB0, hR, hb⟩
  replace HB := Aside0.mk (below_step HB.out hb)
  replace HU := Aside0.mk (HU.out.below hb)
  replace HC := Aside0.mk (HC.out.below hb)
  replace BD := Aside0.mk (blk_below BD.out hb)
  replace BU := Aside0.mk (blk_below BU.out hb)
  replace BC := Aside0.mk (blk_below BC.out hb)
  replace HE1 := Aside0.mk (pw_own_below HE1.out hb)
  clear hb
  have BB := Aside0.mk hR
  clear hR hB0
  obtain ⟨hN, hL, h0, h1, h1', h2, hln, hln'⟩ := HU.out.reads
  obtain ⟨lbn, lbl, ln0, ln1, ln2, lln⟩ := HU.out.lts
  have lbnA : ∀ k, bn < w3.heap.size + k := fun k => by omega
  have lbnB : ∀ k j, bn < w3.heap.size + k + j := fun k j => by omega
  have lblA : ∀ k, bl < w3.heap.size + k := fun k => by omega
  have lblB : ∀ k j, bl < w3.heap.size + k + j := fun k j => by omega
  have ln0A : ∀ k, n0 < w3.heap.size + k := fun k => by omega
  have ln0B : ∀ k j, n0 < w3.heap.size + k + j := fun k j => by omega
  have ln1A : ∀ k, n1 < w3.heap.size + k := fun k => by omega
  have ln1B : ∀ k j, n1 < w3.heap.size + k + j := fun k j => by omega
  have ln2A : ∀ k, n2 < w3.heap.size + k := fun k => by omega
  have ln2B : ∀ k j, n2 < w3.heap.size + k + j := fun k j => by omega
  have llnA : ∀ k, ln < w3.heap.size + k := fun k => by omega
  have llnB : ∀ k j, ln < w3.heap.size + k + j := fun k j => by omega
  obtain ⟨hE, q0, q1, q1', q2, q3, qt⟩ := HC.out.reads
  obtain ⟨lbe, lk0, lk1, lk2, lk3, lkt⟩ := HC.out.lts
  have lbeA : ∀ k, be < w3.heap.size + k := fun k => by omega
  have lbeB : ∀ k j, be < w3.heap.size + k + j := fun k j => by omega
  have lk0A : ∀ k, k0 < w3.heap.size + k := fun k => by omega
  have lk0B : ∀ k j, k0 < w3.heap.size + k + j := fun k j => by omega
  have lk1A : ∀ k, k1 < w3.heap.size + k := fun k => by omega
  have lk1B : ∀ k j, k1 < w3.heap.size + k + j := fun k j => by omega
  have lk2A : ∀ k, k2 < w3.heap.size + k := fun k => by omega
  have lk2B : ∀ k j, k2 < w3.heap.size + k + j := fun k j => by omega
  have lk3A : ∀ k, k3 < w3.heap.size + k := fun k => by omega
  have lk3B : ∀ k j, k3 < w3.heap.size + k + j := fun k j => by omega
  have lktA : ∀ k, kt < w3.heap.size + k := fun k => by omega
  have lktB : ∀ k j, kt < w3.heap.size + k + j := fun k j => by omega
  have hBD : ∀ i, w3.cell? ⟨dd, i, none⟩ = (#[.bool false, .bool true, .bool false, .bool false] : Array Value)[i]? := fun i => blk_cell BD.out i
  have ltBD := blk_lt BD.out
  have ltBDA : ∀ k, dd < w3.heap.size + k := fun k => by omega
  have ltBDB : ∀ k j, dd < w3.heap.size + k + j := fun k j => by omega
  have hBU : ∀ i, w3.cell? ⟨w.heap.size, i, none⟩ = (#[.string ⟨#[]⟩, .slice (some ⟨bn, 0, none⟩) 4 4, .slice (some ⟨bl, 0, none⟩) 1 1, .slice none 0 0, .slice none 0 0, .slice none 0 0, .slice none 0 0, .slice none 0 0, .slice none 0 0, .slice none 0 0] : Array Value)[i]? := fun i => blk_cell BU.out i
  have ltBU := blk_lt BU.out
  have ltBUA : ∀ k, w.heap.size < w3.heap.size + k := fun k => by omega
  have ltBUB : ∀ k j, w.heap.size < w3.heap.size + k + j := fun k j => by omega
  have hBC : ∀ i, w3.cell? ⟨(w.heap.size + 1), i, none⟩ = (#[.slice (some ⟨be, 0, none⟩) 4 4, .slice (some ⟨kt, 0, none⟩) 1 1] : Array Value)[i]? := fun i => blk_cell BC.out i
  have ltBC := blk_lt BC.out
  have ltBCA : ∀ k, (w.heap.size + 1) < w3.heap.size + k := fun k => by omega
  have ltBCB : ∀ k j, (w.heap.size + 1) < w3.heap.size + k + j := fun k j => by omega
  have hBB : ∀ i, w3.cell? ⟨B, i, none⟩ = (#[.bool false, .bool true, .bool false, .bool false] : Array Value)[i]? := fun i => blk_cell BB.out i
  have ltBB := blk_lt BB.out
  have ltBBA : ∀ k, B < w3.heap.size + k := fun k => by omega
  have ltBBB : ∀ k j, B < w3.heap.size + k + j := fun k j => by omega
  go_wp2_with fail
  clear hN hL h0 h1 h1' h2 hln hln' lbn lbl ln0 ln1 ln2 lln lbnA lbnB lblA lblB ln0A ln0B ln1A ln1B ln2A ln2B llnA llnB hE q0 q1 q1' q2 q3 qt lbe lk0 lk1 lk2 lk3 lkt lbeA lbeB lk0A lk0B lk1A lk1B lk2A lk2B lk3A lk3B lktA lktB hBD ltBD ltBDA ltBDB hBU ltBU ltBUA ltBUB hBC ltBC ltBCA ltBCB hBB ltBB ltBBA ltBBB
  refine (call_opn_all _ ge c B a0 a1 a2 a3 _ HE1.out BB.out).mono ?_
  rintro e w4 ⟨g2, c2, rfl, ho, hb⟩
  replace HB := Aside0.mk (below_step HB.out hb)
  replace HU := Aside0.mk (HU.out.below hb)
  replace HC := Aside0.mk (HC.out.below hb)
  replace BD := Aside0.mk (blk_below BD.out hb)
  replace BU := Aside0.mk (blk_below BU.out hb)
  replace BC := Aside0.mk (blk_below BC.out hb)
  replace BB := Aside0.mk (blk_below BB.out hb)
  replace HE1 := Aside0.mk (pw_own_below HE1.out hb)
  clear hb
  have HE2 := Aside0.mk ho
  clear ho
  obtain ⟨hN, hL, h0, h1, h1', h2, hln, hln'⟩ := HU.out.reads
  obtain ⟨lbn, lbl, ln0, ln1, ln2, lln⟩ := HU.out.lts
  have lbnA : ∀ k, bn < w4.heap.size + k := fun k => by omega
  have lbnB : ∀ k j, bn < w4.heap.size + k + j := fun k j => by omega
  have lblA : ∀ k, bl < w4.heap.size + k := fun k => by omega
  have lblB : ∀ k j, bl < w4.heap.size + k + j := fun k j => by omega
  have ln0A : ∀ k, n0 < w4.heap.size + k := fun k => by omega
  have ln0B : ∀ k j, n0 < w4.heap.size + k + j := fun k j => by omega
  have ln1A : ∀ k, n1 < w4.heap.size + k := fun k => by omega
  have ln1B : ∀ k j, n1 < w4.heap.size + k + j := fun k j => by omega
  have ln2A : ∀ k, n2 < w4.heap.size + k := fun k => by omega
  have ln2B : ∀ k j, n2 < w4.heap.size + k + j := fun k j => by omega
  have llnA : ∀ k, ln < w4.heap.size + k := fun k => by omega
  have llnB : ∀ k j, ln < w4.heap.size + k + j := fun k j => by omega
  obtain ⟨hE, q0, q1, q1', q2, q3, qt⟩ := HC.out.reads
  obtain ⟨lbe, lk0, lk1, lk2, lk3, lkt⟩ := HC.out.lts
  have lbeA : ∀ k, be < w4.heap.size + k := fun k => by omega
  have lbeB : ∀ k j, be < w4.heap.size + k + j := fun k j => by omega
  have lk0A : ∀ k, k0 < w4.heap.size + k := fun k => by omega
  have lk0B : ∀ k j, k0 < w4.heap.size + k + j := fun k j => by omega
  have lk1A : ∀ k, k1 < w4.heap.size + k := fun k => by omega
  have lk1B : ∀ k j, k1 < w4.heap.size + k + j := fun k j => by omega
  have lk2A : ∀ k, k2 < w4.heap.size + k := fun k => by omega
  have lk2B : ∀ k j, k2 < w4.heap.size + k + j := fun k j => by omega
  have lk3A : ∀ k, k3 < w4.heap.size + k := fun k => by omega
  have lk3B : ∀ k j, k3 < w4.heap.size + k + j := fun k j => by omega
  have lktA : ∀ k, kt < w4.heap.size + k := fun k => by omega
  have lktB : ∀ k j, kt < w4.heap.size + k + j := fun k j => by omega
  have hBD : ∀ i, w4.cell? ⟨dd, i, none⟩ = (#[.bool false, .bool true, .bool false, .bool false] : Array Value)[i]? := fun i => blk_cell BD.out i
  have ltBD := blk_lt BD.out
  have ltBDA : ∀ k, dd < w4.heap.size + k := fun k => by omega
  have ltBDB : ∀ k j, dd < w4.heap.size + k + j := fun k j => by omega
  have hBU : ∀ i, w4.cell? ⟨w.heap.size, i, none⟩ = (#[.string ⟨#[]⟩, .slice (some ⟨bn, 0, none⟩) 4 4, .slice (some ⟨bl, 0, none⟩) 1 1, .slice none 0 0, .slice none 0 0, .slice none 0 0, .slice none 0 0, .slice none 0 0, .slice none 0 0, .slice none 0 0] : Array Value)[i]? := fun i => blk_cell BU.out i
  have ltBU := blk_lt BU.out
  have ltBUA : ∀ k, w.heap.size < w4.heap.size + k := fun k => by omega
  have ltBUB : ∀ k j, w.heap.size < w4.heap.size + k + j := fun k j => by omega
  have hBC : ∀ i, w4.cell? ⟨(w.heap.size + 1), i, none⟩ = (#[.slice (some ⟨be, 0, none⟩) 4 4, .slice (some ⟨kt, 0, none⟩) 1 1] : Array Value)[i]? := fun i => blk_cell BC.out i
  have ltBC := blk_lt BC.out
  have ltBCA : ∀ k, (w.heap.size + 1) < w4.heap.size + k := fun k => by omega
  have ltBCB : ∀ k j, (w.heap.size + 1) < w4.heap.size + k + j := fun k j => by omega
  have hBB : ∀ i, w4.cell? ⟨B, i, none⟩ = (#[.bool false, .bool true, .bool false, .bool false] : Array Value)[i]? := fun i => blk_cell BB.out i
  have ltBB := blk_lt BB.out
  have ltBBA : ∀ k, B < w4.heap.size + k := fun k => by omega
  have ltBBB : ∀ k j, B < w4.heap.size + k + j := fun k j => by omega
  go_wp2_with fail
  clear hN hL h0 h1 h1' h2 hln hln' lbn lbl ln0 ln1 ln2 lln lbnA lbnB lblA lblB ln0A ln0B ln1A ln1B ln2A ln2B llnA llnB hE q0 q1 q1' q2 q3 qt lbe lk0 lk1 lk2 lk3 lkt lbeA lbeB lk0A lk0B lk1A lk1B lk2A lk2B lk3A lk3B lktA lktB hBD ltBD ltBDA ltBDB hBU ltBU ltBUA ltBUB hBC ltBC ltBCA ltBCB hBB ltBB ltBBA ltBBB
  refine (turned_none _ g2 c2  _ HE2.out).mono ?_
  rintro e w5 ⟨g3, c3, rfl, ho, hb⟩
  replace HB := Aside0.mk (below_step HB.out hb)
  replace HU := Aside0.mk (HU.out.below hb)
  replace HC := Aside0.mk (HC.out.below hb)
  replace BD := Aside0.mk (blk_below BD.out hb)
  replace BU := Aside0.mk (blk_below BU.out hb)
  replace BC := Aside0.mk (blk_below BC.out hb)
  replace BB := Aside0.mk (blk_below BB.out hb)
  replace HE2 := Aside0.mk (pw_own_below HE2.out hb)
  clear hb
  have HE3 := Aside0.mk ho
  clear ho HE2
  obtain ⟨hN, hL, h0, h1, h1', h2, hln, hln'⟩ := HU.out.reads
  obtain ⟨lbn, lbl, ln0, ln1, ln2, lln⟩ := HU.out.lts
  have lbnA : ∀ k, bn < w5.heap.size + k := fun k => by omega
  have lbnB : ∀ k j, bn < w5.heap.size + k + j := fun k j => by omega
  have lblA : ∀ k, bl < w5.heap.size + k := fun k => by omega
  have lblB : ∀ k j, bl < w5.heap.size + k + j := fun k j => by omega
  have ln0A : ∀ k, n0 < w5.heap.size + k := fun k => by omega
  have ln0B : ∀ k j, n0 < w5.heap.size + k + j := fun k j => by omega
  have ln1A : ∀ k, n1 < w5.heap.size + k := fun k => by omega
  have ln1B : ∀ k j, n1 < w5.heap.size + k + j := fun k j => by omega
  have ln2A : ∀ k, n2 < w5.heap.size + k := fun k => by omega
  have ln2B : ∀ k j, n2 < w5.heap.size + k + j := fun k j => by omega
  have llnA : ∀ k, ln < w5.heap.size + k := fun k => by omega
  have llnB : ∀ k j, ln < w5.heap.size + k + j := fun k j => by omega
  obtain ⟨hE, q0, q1, q1', q2, q3, qt⟩ := HC.out.reads
  obtain ⟨lbe, lk0, lk1, lk2, lk3, lkt⟩ := HC.out.lts
  have lbeA : ∀ k, be < w5.heap.size + k := fun k => by omega
  have lbeB : ∀ k j, be < w5.heap.size + k + j := fun k j => by omega
  have lk0A : ∀ k, k0 < w5.heap.size + k := fun k => by omega
  have lk0B : ∀ k j, k0 < w5.heap.size + k + j := fun k j => by omega
  have lk1A : ∀ k, k1 < w5.heap.size + k := fun k => by omega
  have lk1B : ∀ k j, k1 < w5.heap.size + k + j := fun k j => by omega
  have lk2A : ∀ k, k2 < w5.heap.size + k := fun k => by omega
  have lk2B : ∀ k j, k2 < w5.heap.size + k + j := fun k j => by omega
  have lk3A : ∀ k, k3 < w5.heap.size + k := fun k => by omega
  have lk3B : ∀ k j, k3 < w5.heap.size + k + j := fun k j => by omega
  have lktA : ∀ k, kt < w5.heap.size + k := fun k => by omega
  have lktB : ∀ k j, kt < w5.heap.size + k + j := fun k j => by omega
  have hBD : ∀ i, w5.cell? ⟨dd, i, none⟩ = (#[.bool false, .bool true, .bool false, .bool false] : Array Value)[i]? := fun i => blk_cell BD.out i
  have ltBD := blk_lt BD.out
  have ltBDA : ∀ k, dd < w5.heap.size + k := fun k => by omega
  have ltBDB : ∀ k j, dd < w5.heap.size + k + j := fun k j => by omega
  have hBU : ∀ i, w5.cell? ⟨w.heap.size, i, none⟩ = (#[.string ⟨#[]⟩, .slice (some ⟨bn, 0, none⟩) 4 4, .slice (some ⟨bl, 0, none⟩) 1 1, .slice none 0 0, .slice none 0 0, .slice none 0 0, .slice none 0 0, .slice none 0 0, .slice none 0 0, .slice none 0 0] : Array Value)[i]? := fun i => blk_cell BU.out i
  have ltBU := blk_lt BU.out
  have ltBUA : ∀ k, w.heap.size < w5.heap.size + k := fun k => by omega
  have ltBUB : ∀ k j, w.heap.size < w5.heap.size + k + j := fun k j => by omega
  have hBC : ∀ i, w5.cell? ⟨(w.heap.size + 1), i, none⟩ = (#[.slice (some ⟨be, 0, none⟩) 4 4, .slice (some ⟨kt, 0, none⟩) 1 1] : Array Value)[i]? := fun i => blk_cell BC.out i
  have ltBC := blk_lt BC.out
  have ltBCA : ∀ k, (w.heap.size + 1) < w5.heap.size + k := fun k => by omega
  have ltBCB : ∀ k j, (w.heap.size + 1) < w5.heap.size + k + j := fun k j => by omega
  have hBB : ∀ i, w5.cell? ⟨B, i, none⟩ = (#[.bool false, .bool true, .bool false, .bool false] : Array Value)[i]? := fun i => blk_cell BB.out i
  have ltBB := blk_lt BB.out
  have ltBBA : ∀ k, B < w5.heap.size + k := fun k => by omega
  have ltBBB : ∀ k j, B < w5.heap.size + k + j := fun k j => by omega
  go_wp2_with fail
  clear hN hL h0 h1 h1' h2 hln hln' lbn lbl ln0 ln1 ln2 lln lbnA lbnB lblA lblB ln0A ln0B ln1A ln1B ln2A ln2B llnA llnB hE q0 q1 q1' q2 q3 qt lbe lk0 lk1 lk2 lk3 lkt lbeA lbeB lk0A lk0B lk1A lk1B lk2A lk2B lk3A lk3B lktA lktB hBD ltBD ltBDA ltBDB hBU ltBU ltBUA ltBUB hBC ltBC ltBCA ltBCB hBB ltBB ltBBA ltBBB
  have HSZ : Aside0 (w.heap.size ≤ w5.heap.size) := ⟨HB.out.size⟩
  refine (spread_calls _ g3 c3 3 _ _ _ _ _ _ (SpV.v_last) HE3.out).mono ?_
  rintro e w6 ⟨bk, bs, bb, rfl, hbs, hK, hS, hY, hb⟩
  have HBS : Aside0 (w.heap.size ≤ bs) := ⟨Nat.le_trans HSZ.out hbs⟩
  replace HB := Aside0.mk (below_step HB.out hb)
  replace HU := Aside0.mk (HU.out.below hb)
  replace HC := Aside0.mk (HC.out.below hb)
  replace BD := Aside0.mk (blk_below BD.out hb)
  replace BU := Aside0.mk (blk_below BU.out hb)
  replace BC := Aside0.mk (blk_below BC.out hb)
  replace BB := Aside0.mk (blk_below BB.out hb)
  replace HE3 := Aside0.mk (pw_own_below HE3.out hb)
  clear hb
  have BK := Aside0.mk hK
  have BS := Aside0.mk hS
  clear hK hS hY hbs HE3 HSZ
  go_upto_region 7 with (fail)
  have hb : Below w6.heap.size w6 (w6.alloc (.cells #[.slice (some ⟨bk, 0, none⟩) 4 4, .slice (some ⟨bs, 0, none⟩) 4 4, .slice (some ⟨bb, 0, none⟩) 4 4] 71)) := (by repeat (first | with_reducible exact Below.refl _ _ | apply below_alloc | apply pw_below_drewN | apply below_drew1))
  have BX : Aside0 (Blk (w6.alloc (.cells #[.slice (some ⟨bk, 0, none⟩) 4 4, .slice (some ⟨bs, 0, none⟩) 4 4, .slice (some ⟨bb, 0, none⟩) 4 4] 71)) w6.heap.size #[.slice (some ⟨bk, 0, none⟩) 4 4, .slice (some ⟨bs, 0, none⟩) 4 4, .slice (some ⟨bb, 0, none⟩) 4 4] 71) := ⟨(by (repeat (first | with_reducible exact heap_alloc_new _ _ | with_reducible exact heap_alloc2_new _ _ _ | with_reducible exact blk_at3 _ _ _ _ | with_reducible exact blk_at4 _ _ _ _ _ | refine blk_alloc ?_ _)))⟩
  replace HB := Aside0.mk (below_step HB.out hb)
  replace HU := Aside0.mk (HU.out.below hb)
  replace HC := Aside0.mk (HC.out.below hb)
  replace BD := Aside0.mk (blk_below BD.out hb)
  replace BU := Aside0.mk (blk_below BU.out hb)
  replace BC := Aside0.mk (blk_below BC.out hb)
  replace BB := Aside0.mk (blk_below BB.out hb)
  replace BK := Aside0.mk (blk_below BK.out hb)
  replace BS := Aside0.mk (blk_below BS.out hb)
  clear hb
  generalize (w6.alloc (.cells #[.slice (some ⟨bk, 0, none⟩) 4 4, .slice (some ⟨bs, 0, none⟩) 4 4, .slice (some ⟨bb, 0, none⟩) 4 4] 71)) = Wc at HU HC HB BD BU BC BB BK BS BX ⊢
  obtain ⟨bx, HBX⟩ : ∃ b, Aside0 (b = w6.heap.size) := ⟨_, ⟨rfl⟩⟩
  rw [← HBX.out] at BX ⊢
  obtain ⟨hN, hL, h0, h1, h1', h2, hln, hln'⟩ := HU.out.reads
  obtain ⟨lbn, lbl, ln0, ln1, ln2, lln⟩ := HU.out.lts
  have lbnA : ∀ k, bn < Wc.heap.size + k := fun k => by omega
  have lbnB : ∀ k j, bn < Wc.heap.size + k + j := fun k j => by omega
  have lblA : ∀ k, bl < Wc.heap.size + k := fun k => by omega
  have lblB : ∀ k j, bl < Wc.heap.size + k + j := fun k j => by omega
  have ln0A : ∀ k, n0 < Wc.heap.size + k := fun k => by omega
  have ln0B : ∀ k j, n0 < Wc.heap.size + k + j := fun k j => by omega
  have ln1A : ∀ k, n1 < Wc.heap.size + k := fun k => by omega
  have ln1B : ∀ k j, n1 < Wc.heap.size + k + j := fun k j => by omega
  have ln2A : ∀ k, n2 < Wc.heap.size + k := fun k => by omega
  have ln2B : ∀ k j, n2 < Wc.heap.size + k + j := fun k j => by omega
  have llnA : ∀ k, ln < Wc.heap.size + k := fun k => by omega
  have llnB : ∀ k j, ln < Wc.heap.size + k + j := fun k j => by omega
  obtain ⟨hE, q0, q1, q1', q2, q3, qt⟩ := HC.out.reads
  obtain ⟨lbe, lk0, lk1, lk2, lk3, lkt⟩ := HC.out.lts
  have lbeA : ∀ k, be < Wc.heap.size + k := fun k => by omega
  have lbeB : ∀ k j, be < Wc.heap.size + k + j := fun k j => by omega
  have lk0A : ∀ k, k0 < Wc.heap.size + k := fun k => by omega
  have lk0B : ∀ k j, k0 < Wc.heap.size + k + j := fun k j => by omega
  have lk1A : ∀ k, k1 < Wc.heap.size + k := fun k => by omega
  have lk1B : ∀ k j, k1 < Wc.heap.size + k + j := fun k j => by omega
  have lk2A : ∀ k, k2 < Wc.heap.size + k := fun k => by omega
  have lk2B : ∀ k j, k2 < Wc.heap.size + k + j := fun k j => by omega
  have lk3A : ∀ k, k3 < Wc.heap.size + k := fun k => by omega
  have lk3B : ∀ k j, k3 < Wc.heap.size + k + j := fun k j => by omega
  have lktA : ∀ k, kt < Wc.heap.size + k := fun k => by omega
  have lktB : ∀ k j, kt < Wc.heap.size + k + j := fun k j => by omega
  have hBD : ∀ i, Wc.cell? ⟨dd, i, none⟩ = (#[.bool false, .bool true, .bool false, .bool false] : Array Value)[i]? := fun i => blk_cell BD.out i
  have ltBD := blk_lt BD.out
  have ltBDA : ∀ k, dd < Wc.heap.size + k := fun k => by omega
  have ltBDB : ∀ k j, dd < Wc.heap.size + k + j := fun k j => by omega
  have hBU : ∀ i, Wc.cell? ⟨w.heap.size, i, none⟩ = (#[.string ⟨#[]⟩, .slice (some ⟨bn, 0, none⟩) 4 4, .slice (some ⟨bl, 0, none⟩) 1 1, .slice none 0 0, .slice none 0 0, .slice none 0 0, .slice none 0 0, .slice none 0 0, .slice none 0 0, .slice none 0 0] : Array Value)[i]? := fun i => blk_cell BU.out i
  have ltBU := blk_lt BU.out
  have ltBUA : ∀ k, w.heap.size < Wc.heap.size + k := fun k => by omega
  have ltBUB : ∀ k j, w.heap.size < Wc.heap.size + k + j := fun k j => by omega
  have hBC : ∀ i, Wc.cell? ⟨(w.heap.size + 1), i, none⟩ = (#[.slice (some ⟨be, 0, none⟩) 4 4, .slice (some ⟨kt, 0, none⟩) 1 1] : Array Value)[i]? := fun i => blk_cell BC.out i
  have ltBC := blk_lt BC.out
  have ltBCA : ∀ k, (w.heap.size + 1) < Wc.heap.size + k := fun k => by omega
  have ltBCB : ∀ k j, (w.heap.size + 1) < Wc.heap.size + k + j := fun k j => by omega
  have hBB : ∀ i, Wc.cell? ⟨B, i, none⟩ = (#[.bool false, .bool true, .bool false, .bool false] : Array Value)[i]? := fun i => blk_cell BB.out i
  have ltBB := blk_lt BB.out
  have ltBBA : ∀ k, B < Wc.heap.size + k := fun k => by omega
  have ltBBB : ∀ k j, B < Wc.heap.size + k + j := fun k j => by omega
  have hBK : ∀ i, Wc.cell? ⟨bk, i, none⟩ = (#[.bool false, .bool false, .bool false, .bool true] : Array Value)[i]? := fun i => blk_cell BK.out i
  have ltBK := blk_lt BK.out
  have ltBKA : ∀ k, bk < Wc.heap.size + k := fun k => by omega
  have ltBKB : ∀ k j, bk < Wc.heap.size + k + j := fun k j => by omega
  have hBS : ∀ i, Wc.cell? ⟨bs, i, none⟩ = (#[.int .i64 0, .int .i64 0, .int .i64 0, .int .i64 0] : Array Value)[i]? := fun i => blk_cell BS.out i
  have ltBS := blk_lt BS.out
  have ltBSA : ∀ k, bs < Wc.heap.size + k := fun k => by omega
  have ltBSB : ∀ k j, bs < Wc.heap.size + k + j := fun k j => by omega
  have fzBS := fun j => blk_frozen BS.out j
  have hBX : ∀ i, Wc.cell? ⟨bx, i, none⟩ = (#[.slice (some ⟨bk, 0, none⟩) 4 4, .slice (some ⟨bs, 0, none⟩) 4 4, .slice (some ⟨bb, 0, none⟩) 4 4] : Array Value)[i]? := fun i => blk_cell BX.out i
  have ltBX := blk_lt BX.out
  have ltBXA : ∀ k, bx < Wc.heap.size + k := fun k => by omega
  have ltBXB : ∀ k j, bx < Wc.heap.size + k + j := fun k j => by omega
  go_wp2_with fail
  go_loopg [40] 4 (fun gg s40 wr => ∃ i : Nat, i ≤ 4 ∧ 4 - i ≤ gg ∧ s40 = .int .i64 i ∧ Aside0 (Blk wr bx #[.slice (some ⟨bk, 0, none⟩) 4 4, .slice (some ⟨bs, 0, none⟩) 4 4, .slice (some ⟨bb, 0, none⟩) 4 4] 71 ∧ Blk wr bk #[.bool false, .bool false, .bool false, .bool true] 4 ∧ Blk wr bs (potS_one ce a0 a2 a3 i) 3 ∧ Blk wr (w.heap.size + 1) #[.slice (some ⟨be, 0, none⟩) 4 4, .slice (some ⟨kt, 0, none⟩) 1 1] 34 ∧ Below w.heap.size w wr))
  case atStart => exact ⟨0, by omega, by omega, rfl, ⟨BX.out, BK.out, BS.out, BC.out, HB.out⟩⟩
  case round =>
    clear hN hL h0 h1 h1' h2 hln hln' lbn lbl ln0 ln1 ln2 lln lbnA lbnB lblA lblB ln0A ln0B ln1A ln1B ln2A ln2B llnA llnB hE q0 q1 q1' q2 q3 qt lbe lk0 lk1 lk2 lk3 lkt lbeA lbeB lk0A lk0B lk1A lk1B lk2A lk2B lk3A lk3B lktA lktB hBD ltBD ltBDA ltBDB hBU ltBU ltBUA ltBUB hBC ltBC ltBCA ltBCB hBB ltBB ltBBA ltBBB hBK ltBK ltBKA ltBKB hBS ltBS ltBSA ltBSB fzBS hBX ltBX ltBXA ltBXB
    clear BX BK BS BC HB HU HC BU BD BB HBX
    obtain ⟨i, hi, hg, rfl, HP⟩ := hrel
    have HB := Aside0.mk HP.out.2.2.2.2
    have BX := Aside0.mk HP.out.1
    have BK := Aside0.mk HP.out.2.1
    have BC := Aside0.mk HP.out.2.2.2.1
    have HC := Aside0.mk (HC0.out.below HB.out)
    rcases (show i = 0 ∨ i = 1 ∨ i = 2 ∨ i = 3 ∨ i = 4 by omega) with rfl | rfl | rfl | rfl | rfl
    · have BS : Aside0 (Blk wr bs #[.int .i64 0, .int .i64 0, .int .i64 0, .int .i64 0] 3) := ⟨HP.out.2.2.1⟩
      clear HP
      obtain ⟨hE, q0, q1, q1', q2, q3, qt⟩ := HC.out.reads
      obtain ⟨lbe, lk0, lk1, lk2, lk3, lkt⟩ := HC.out.lts
      have lbeA : ∀ k, be < wr.heap.size + k := fun k => by omega
      have lbeB : ∀ k j, be < wr.heap.size + k + j := fun k j => by omega
      have lk0A : ∀ k, k0 < wr.heap.size + k := fun k => by omega
      have lk0B : ∀ k j, k0 < wr.heap.size + k + j := fun k j => by omega
      have lk1A : ∀ k, k1 < wr.heap.size + k := fun k => by omega
      have lk1B : ∀ k j, k1 < wr.heap.size + k + j := fun k j => by omega
      have lk2A : ∀ k, k2 < wr.heap.size + k := fun k => by omega
      have lk2B : ∀ k j, k2 < wr.heap.size + k + j := fun k j => by omega
      have lk3A : ∀ k, k3 < wr.heap.size + k := fun k => by omega
      have lk3B : ∀ k j, k3 < wr.heap.size + k + j := fun k j => by omega
      have lktA : ∀ k, kt < wr.heap.size + k := fun k => by omega
      have lktB : ∀ k j, kt < wr.heap.size + k + j := fun k j => by omega
      have hBS : ∀ i, wr.cell? ⟨bs, i, none⟩ = (#[.int .i64 0, .int .i64 0, .int .i64 0, .int .i64 0] : Array Value)[i]? := fun i => blk_cell BS.out i
      have ltBS := blk_lt BS.out
      have ltBSA : ∀ k, bs < wr.heap.size + k := fun k => by omega
      have ltBSB : ∀ k j, bs < wr.heap.size + k + j := fun k j => by omega
      have fzBS := fun j => blk_frozen BS.out j
      have hBK : ∀ i, wr.cell? ⟨bk, i, none⟩ = (#[.bool false, .bool false, .bool false, .bool true] : Array Value)[i]? := fun i => blk_cell BK.out i
      have ltBK := blk_lt BK.out
      have ltBKA : ∀ k, bk < wr.heap.size + k := fun k => by omega
      have ltBKB : ∀ k j, bk < wr.heap.size + k + j := fun k j => by omega
      have hBX : ∀ i, wr.cell? ⟨bx, i, none⟩ = (#[.slice (some ⟨bk, 0, none⟩) 4 4, .slice (some ⟨bs, 0, none⟩) 4 4, .slice (some ⟨bb, 0, none⟩) 4 4] : Array Value)[i]? := fun i => blk_cell BX.out i
      have ltBX := blk_lt BX.out
      have ltBXA : ∀ k, bx < wr.heap.size + k := fun k => by omega
      have ltBXB : ∀ k j, bx < wr.heap.size + k + j := fun k j => by omega
      have hBC : ∀ i, wr.cell? ⟨(w.heap.size + 1), i, none⟩ = (#[.slice (some ⟨be, 0, none⟩) 4 4, .slice (some ⟨kt, 0, none⟩) 1 1] : Array Value)[i]? := fun i => blk_cell BC.out i
      have ltBC := blk_lt BC.out
      have ltBCA : ∀ k, (w.heap.size + 1) < wr.heap.size + k := fun k => by omega
      have ltBCB : ∀ k j, (w.heap.size + 1) < wr.heap.size + k + j := fun k j => by omega
      go_wp2_with fail
      go_roundg (4 - 1)
      case measure => omega
      case rel => exact ⟨1, by omega, by omega, by go_num, ⟨BX.out, BK.out, BS.out, BC.out, HB.out⟩⟩
    · have BS : Aside0 (Blk wr bs #[.int .i64 0, .int .i64 0, .int .i64 0, .int .i64 0] 3) := ⟨HP.out.2.2.1⟩
      clear HP
      obtain ⟨hE, q0, q1, q1', q2, q3, qt⟩ := HC.out.reads
      obtain ⟨lbe, lk0, lk1, lk2, lk3, lkt⟩ := HC.out.lts
      have lbeA : ∀ k, be < wr.heap.size + k := fun k => by omega
      have lbeB : ∀ k j, be < wr.heap.size + k + j := fun k j => by omega
      have lk0A : ∀ k, k0 < wr.heap.size + k := fun k => by omega
      have lk0B : ∀ k j, k0 < wr.heap.size + k + j := fun k j => by omega
      have lk1A : ∀ k, k1 < wr.heap.size + k := fun k => by omega
      have lk1B : ∀ k j, k1 < wr.heap.size + k + j := fun k j => by omega
      have lk2A : ∀ k, k2 < wr.heap.size + k := fun k => by omega
      have lk2B : ∀ k j, k2 < wr.heap.size + k + j := fun k j => by omega
      have lk3A : ∀ k, k3 < wr.heap.size + k := fun k => by omega
      have lk3B : ∀ k j, k3 < wr.heap.size + k + j := fun k j => by omega
      have lktA : ∀ k, kt < wr.heap.size + k := fun k => by omega
      have lktB : ∀ k j, kt < wr.heap.size + k + j := fun k j => by omega
      have hBS : ∀ i, wr.cell? ⟨bs, i, none⟩ = (#[.int .i64 0, .int .i64 0, .int .i64 0, .int .i64 0] : Array Value)[i]? := fun i => blk_cell BS.out i
      have ltBS := blk_lt BS.out
      have ltBSA : ∀ k, bs < wr.heap.size + k := fun k => by omega
      have ltBSB : ∀ k j, bs < wr.heap.size + k + j := fun k j => by omega
      have fzBS := fun j => blk_frozen BS.out j
      have hBK : ∀ i, wr.cell? ⟨bk, i, none⟩ = (#[.bool false, .bool false, .bool false, .bool true] : Array Value)[i]? := fun i => blk_cell BK.out i
      have ltBK := blk_lt BK.out
      have ltBKA : ∀ k, bk < wr.heap.size + k := fun k => by omega
      have ltBKB : ∀ k j, bk < wr.heap.size + k + j := fun k j => by omega
      have hBX : ∀ i, wr.cell? ⟨bx, i, none⟩ = (#[.slice (some ⟨bk, 0, none⟩) 4 4, .slice (some ⟨bs, 0, none⟩) 4 4, .slice (some ⟨bb, 0, none⟩) 4 4] : Array Value)[i]? := fun i => blk_cell BX.out i
      have ltBX := blk_lt BX.out
      have ltBXA : ∀ k, bx < wr.heap.size + k := fun k => by omega
      have ltBXB : ∀ k j, bx < wr.heap.size + k + j := fun k j => by omega
      have hBC : ∀ i, wr.cell? ⟨(w.heap.size + 1), i, none⟩ = (#[.slice (some ⟨be, 0, none⟩) 4 4, .slice (some ⟨kt, 0, none⟩) 1 1] : Array Value)[i]? := fun i => blk_cell BC.out i
      have ltBC := blk_lt BC.out
      have ltBCA : ∀ k, (w.heap.size + 1) < wr.heap.size + k := fun k => by omega
      have ltBCB : ∀ k j, (w.heap.size + 1) < wr.heap.size + k + j := fun k j => by omega
      go_wp2_with fail
      go_roundg (4 - 2)
      case measure => omega
      case rel => exact ⟨2, by omega, by omega, by go_num, ⟨BX.out, BK.out, BS.out, BC.out, HB.out⟩⟩
    · have BS : Aside0 (Blk wr bs #[.int .i64 0, .int .i64 0, .int .i64 0, .int .i64 0] 3) := ⟨HP.out.2.2.1⟩
      clear HP
      obtain ⟨hE, q0, q1, q1', q2, q3, qt⟩ := HC.out.reads
      obtain ⟨lbe, lk0, lk1, lk2, lk3, lkt⟩ := HC.out.lts
      have lbeA : ∀ k, be < wr.heap.size + k := fun k => by omega
      have lbeB : ∀ k j, be < wr.heap.size + k + j := fun k j => by omega
      have lk0A : ∀ k, k0 < wr.heap.size + k := fun k => by omega
      have lk0B : ∀ k j, k0 < wr.heap.size + k + j := fun k j => by omega
      have lk1A : ∀ k, k1 < wr.heap.size + k := fun k => by omega
      have lk1B : ∀ k j, k1 < wr.heap.size + k + j := fun k j => by omega
      have lk2A : ∀ k, k2 < wr.heap.size + k := fun k => by omega
      have lk2B : ∀ k j, k2 < wr.heap.size + k + j := fun k j => by omega
      have lk3A : ∀ k, k3 < wr.heap.size + k := fun k => by omega
      have lk3B : ∀ k j, k3 < wr.heap.size + k + j := fun k j => by omega
      have lktA : ∀ k, kt < wr.heap.size + k := fun k => by omega
      have lktB : ∀ k j, kt < wr.heap.size + k + j := fun k j => by omega
      have hBS : ∀ i, wr.cell? ⟨bs, i, none⟩ = (#[.int .i64 0, .int .i64 0, .int .i64 0, .int .i64 0] : Array Value)[i]? := fun i => blk_cell BS.out i
      have ltBS := blk_lt BS.out
      have ltBSA : ∀ k, bs < wr.heap.size + k := fun k => by omega
      have ltBSB : ∀ k j, bs < wr.heap.size + k + j := fun k j => by omega
      have fzBS := fun j => blk_frozen BS.out j
      have hBK : ∀ i, wr.cell? ⟨bk, i, none⟩ = (#[.bool false, .bool false, .bool false, .bool true] : Array Value)[i]? := fun i => blk_cell BK.out i
      have ltBK := blk_lt BK.out
      have ltBKA : ∀ k, bk < wr.heap.size + k := fun k => by omega
      have ltBKB : ∀ k j, bk < wr.heap.size + k + j := fun k j => by omega
      have hBX : ∀ i, wr.cell? ⟨bx, i, none⟩ = (#[.slice (some ⟨bk, 0, none⟩) 4 4, .slice (some ⟨bs, 0, none⟩) 4 4, .slice (some ⟨bb, 0, none⟩) 4 4] : Array Value)[i]? := fun i => blk_cell BX.out i
      have ltBX := blk_lt BX.out
      have ltBXA : ∀ k, bx < wr.heap.size + k := fun k => by omega
      have ltBXB : ∀ k j, bx < wr.heap.size + k + j := fun k j => by omega
      have hBC : ∀ i, wr.cell? ⟨(w.heap.size + 1), i, none⟩ = (#[.slice (some ⟨be, 0, none⟩) 4 4, .slice (some ⟨kt, 0, none⟩) 1 1] : Array Value)[i]? := fun i => blk_cell BC.out i
      have ltBC := blk_lt BC.out
      have ltBCA : ∀ k, (w.heap.size + 1) < wr.heap.size + k := fun k => by omega
      have ltBCB : ∀ k j, (w.heap.size + 1) < wr.heap.size + k + j := fun k j => by omega
      go_wp2_with fail
      go_roundg (4 - 3)
      case measure => omega
      case rel => exact ⟨3, by omega, by omega, by go_num, ⟨BX.out, BK.out, BS.out, BC.out, HB.out⟩⟩
    · have BS : Aside0 (Blk wr bs #[.int .i64 0, .int .i64 0, .int .i64 0, .int .i64 0] 3) := ⟨HP.out.2.2.1⟩
      clear HP
      obtain ⟨hE, q0, q1, q1', q2, q3, qt⟩ := HC.out.reads
      obtain ⟨lbe, lk0, lk1, lk2, lk3, lkt⟩ := HC.out.lts
      have lbeA : ∀ k, be < wr.heap.size + k := fun k => by omega
      have lbeB : ∀ k j, be < wr.heap.size + k + j := fun k j => by omega
      have lk0A : ∀ k, k0 < wr.heap.size + k := fun k => by omega
      have lk0B : ∀ k j, k0 < wr.heap.size + k + j := fun k j => by omega
      have lk1A : ∀ k, k1 < wr.heap.size + k := fun k => by omega
      have lk1B : ∀ k j, k1 < wr.heap.size + k + j := fun k j => by omega
      have lk2A : ∀ k, k2 < wr.heap.size + k := fun k => by omega
      have lk2B : ∀ k j, k2 < wr.heap.size + k + j := fun k j => by omega
      have lk3A : ∀ k, k3 < wr.heap.size + k := fun k => by omega
      have lk3B : ∀ k j, k3 < wr.heap.size + k + j := fun k j => by omega
      have lktA : ∀ k, kt < wr.heap.size + k := fun k => by omega
      have lktB : ∀ k j, kt < wr.heap.size + k + j := fun k j => by omega
      have hBS : ∀ i, wr.cell? ⟨bs, i, none⟩ = (#[.int .i64 0, .int .i64 0, .int .i64 0, .int .i64 0] : Array Value)[i]? := fun i => blk_cell BS.out i
      have ltBS := blk_lt BS.out
      have ltBSA : ∀ k, bs < wr.heap.size + k := fun k => by omega
      have ltBSB : ∀ k j, bs < wr.heap.size + k + j := fun k j => by omega
      have fzBS := fun j => blk_frozen BS.out j
      have hBK : ∀ i, wr.cell? ⟨bk, i, none⟩ = (#[.bool false, .bool false, .bool false, .bool true] : Array Value)[i]? := fun i => blk_cell BK.out i
      have ltBK := blk_lt BK.out
      have ltBKA : ∀ k, bk < wr.heap.size + k := fun k => by omega
      have ltBKB : ∀ k j, bk < wr.heap.size + k + j := fun k j => by omega
      have hBX : ∀ i, wr.cell? ⟨bx, i, none⟩ = (#[.slice (some ⟨bk, 0, none⟩) 4 4, .slice (some ⟨bs, 0, none⟩) 4 4, .slice (some ⟨bb, 0, none⟩) 4 4] : Array Value)[i]? := fun i => blk_cell BX.out i
      have ltBX := blk_lt BX.out
      have ltBXA : ∀ k, bx < wr.heap.size + k := fun k => by omega
      have ltBXB : ∀ k j, bx < wr.heap.size + k + j := fun k j => by omega
      have hBC : ∀ i, wr.cell? ⟨(w.heap.size + 1), i, none⟩ = (#[.slice (some ⟨be, 0, none⟩) 4 4, .slice (some ⟨kt, 0, none⟩) 1 1] : Array Value)[i]? := fun i => blk_cell BC.out i
      have ltBC := blk_lt BC.out
      have ltBCA : ∀ k, (w.heap.size + 1) < wr.heap.size + k := fun k => by omega
      have ltBCB : ∀ k j, (w.heap.size + 1) < wr.heap.size + k + j := fun k j => by omega
      go_wp2_with fail
      go_region
      go_wp2_with fail
      go_roundg (4 - 4)
      case measure => omega
      case rel =>
        exact ⟨4, by omega, by omega, by go_num, ⟨blk_drew (blk_far BX.out (blk_ne BX.out BS.out (by decide)) _), blk_drew (blk_far BK.out (blk_ne BK.out BS.out (by decide)) _), blk_drew (blk_set BS.out 3 _), blk_drew (blk_far BC.out (blk_ne BC.out BS.out (by decide)) _), below_drew1 (bset HB.out HBS.out _ _)⟩⟩
    · have BS : Aside0 (Blk wr bs #[.int .i64 0, .int .i64 0, .int .i64 0, .int .i64 ce] 3) := ⟨HP.out.2.2.1⟩
      clear HP
      obtain ⟨hE, q0, q1, q1', q2, q3, qt⟩ := HC.out.reads
      obtain ⟨lbe, lk0, lk1, lk2, lk3, lkt⟩ := HC.out.lts
      have lbeA : ∀ k, be < wr.heap.size + k := fun k => by omega
      have lbeB : ∀ k j, be < wr.heap.size + k + j := fun k j => by omega
      have lk0A : ∀ k, k0 < wr.heap.size + k := fun k => by omega
      have lk0B : ∀ k j, k0 < wr.heap.size + k + j := fun k j => by omega
      have lk1A : ∀ k, k1 < wr.heap.size + k := fun k => by omega
      have lk1B : ∀ k j, k1 < wr.heap.size + k + j := fun k j => by omega
      have lk2A : ∀ k, k2 < wr.heap.size + k := fun k => by omega
      have lk2B : ∀ k j, k2 < wr.heap.size + k + j := fun k j => by omega
      have lk3A : ∀ k, k3 < wr.heap.size + k := fun k => by omega
      have lk3B : ∀ k j, k3 < wr.heap.size + k + j := fun k j => by omega
      have lktA : ∀ k, kt < wr.heap.size + k := fun k => by omega
      have lktB : ∀ k j, kt < wr.heap.size + k + j := fun k j => by omega
      have hBS : ∀ i, wr.cell? ⟨bs, i, none⟩ = (#[.int .i64 0, .int .i64 0, .int .i64 0, .int .i64 ce] : Array Value)[i]? := fun i => blk_cell BS.out i
      have ltBS := blk_lt BS.out
      have ltBSA : ∀ k, bs < wr.heap.size + k := fun k => by omega
      have ltBSB : ∀ k j, bs < wr.heap.size + k + j := fun k j => by omega
      have fzBS := fun j => blk_frozen BS.out j
      have hBK : ∀ i, wr.cell? ⟨bk, i, none⟩ = (#[.bool false, .bool false, .bool false, .bool true] : Array Value)[i]? := fun i => blk_cell BK.out i
      have ltBK := blk_lt BK.out
      have ltBKA : ∀ k, bk < wr.heap.size + k := fun k => by omega
      have ltBKB : ∀ k j, bk < wr.heap.size + k + j := fun k j => by omega
      have hBX : ∀ i, wr.cell? ⟨bx, i, none⟩ = (#[.slice (some ⟨bk, 0, none⟩) 4 4, .slice (some ⟨bs, 0, none⟩) 4 4, .slice (some ⟨bb, 0, none⟩) 4 4] : Array Value)[i]? := fun i => blk_cell BX.out i
      have ltBX := blk_lt BX.out
      have ltBXA : ∀ k, bx < wr.heap.size + k := fun k => by omega
      have ltBXB : ∀ k j, bx < wr.heap.size + k + j := fun k j => by omega
      have hBC : ∀ i, wr.cell? ⟨(w.heap.size + 1), i, none⟩ = (#[.slice (some ⟨be, 0, none⟩) 4 4, .slice (some ⟨kt, 0, none⟩) 1 1] : Array Value)[i]? := fun i => blk_cell BC.out i
      have ltBC := blk_lt BC.out
      have ltBCA : ∀ k, (w.heap.size + 1) < wr.heap.size + k := fun k => by omega
      have ltBCB : ∀ k j, (w.heap.size + 1) < wr.heap.size + k + j := fun k j => by omega
      go_wp2_with fail
      go_region
      go_wp2_with fail
      go_ret2
      exact ⟨bs, bk, _, _, rfl, blk_drew BS.out, blk_drew BK.out, rfl, rfl, below_drew1 HB.out⟩
end Go.Proofs.Ytbeochkimihglaa.PHl
