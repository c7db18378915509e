/- the law. -/
import Derived.Test.YtbeochkimihglaaH28
import Derived.Test.YtbeochkimihglaaH26
import Derived.Outline
import Derived.Deep.CutRange
namespace Go.Proofs.Ytbeochkimihglaa.PHl
open Go.RowKit Go.Proofs.YtbeochkimihglaaW.PrintWords Go.Proofs.YtbeochkimihglaaW.PrintLast Go.Proofs.YtbeochkimihglaaW.PrintMore
set_option linter.unusedVariables false
set_option linter.unusedSimpArgs false
theorem at6_0 (w : World) (g : Nat) (hg : w.heap.size = g) (o0 o1 o2 o3 o4 o5 : Obj) : ((((((w.alloc o0).alloc o1).alloc o2).alloc o3).alloc o4).alloc o5).heap[g]? = some o0 := by
  subst hg
  show ((((((w.heap.push o0).push o1).push o2).push o3).push o4).push o5)[w.heap.size]? = some o0
  simp only [Array.getElem?_push, Array.size_push]
  repeat (first | rw [if_neg (by omega)] | rw [if_pos (by omega)])
  exact if_pos trivial
theorem at6_1 (w : World) (g : Nat) (hg : w.heap.size = g) (o0 o1 o2 o3 o4 o5 : Obj) : ((((((w.alloc o0).alloc o1).alloc o2).alloc o3).alloc o4).alloc o5).heap[g + 1]? = some o1 := by
  subst hg
  show ((((((w.heap.push o0).push o1).push o2).push o3).push o4).push o5)[w.heap.size + 1]? = some o1
  simp only [Array.getElem?_push, Array.size_push]
  repeat (first | rw [if_neg (by omega)] | rw [if_pos (by omega)])
  exact if_pos trivial
theorem at6_2 (w : World) (g : Nat) (hg : w.heap.size = g) (o0 o1 o2 o3 o4 o5 : Obj) : ((((((w.alloc o0).alloc o1).alloc o2).alloc o3).alloc o4).alloc o5).heap[g + 1 + 1]? = some o2 := by
  subst hg
  show ((((((w.heap.push o0).push o1).push o2).push o3).push o4).push o5)[w.heap.size + 1 + 1]? = some o2
  simp only [Array.getElem?_push, Array.size_push]
  repeat (first | rw [if_neg (by omega)] | rw [if_pos (by omega)])
  exact if_pos trivial
theorem at6_3 (w : World) (g : Nat) (hg : w.heap.size = g) (o0 o1 o2 o3 o4 o5 : Obj) : ((((((w.alloc o0).alloc o1).alloc o2).alloc o3).alloc o4).alloc o5).heap[g + 1 + 1 + 1]? = some o3 := by
  subst hg
  show ((((((w.heap.push o0).push o1).push o2).push o3).push o4).push o5)[w.heap.size + 1 + 1 + 1]? = some o3
  simp only [Array.getElem?_push, Array.size_push]
  repeat (first | rw [if_neg (by omega)] | rw [if_pos (by omega)])
  exact if_pos trivial
theorem at6_4 (w : World) (g : Nat) (hg : w.heap.size = g) (o0 o1 o2 o3 o4 o5 : Obj) : ((((((w.alloc o0).alloc o1).alloc o2).alloc o3).alloc o4).alloc o5).heap[g + 1 + 1 + 1 + 1]? = some o4 := by
  subst hg
  show ((((((w.heap.push o0).push o1).push o2).push o3).push o4).push o5)[w.heap.size + 1 + 1 + 1 + 1]? = some o4
  simp only [Array.getElem?_push, Array.size_push]
  repeat (first | rw [if_neg (by omega)] | rw [if_pos (by omega)])
  exact if_pos trivial
theorem at6_5 (w : World) (g : Nat) (hg : w.heap.size = g) (o0 o1 o2 o3 o4 o5 : Obj) : ((((((w.alloc o0).alloc o1).alloc o2).alloc o3).alloc o4).alloc o5).heap[g + 1 + 1 + 1 + 1 + 1]? = some o5 := by
  subst hg
  show ((((((w.heap.push o0).push o1).push o2).push o3).push o4).push o5)[w.heap.size + 1 + 1 + 1 + 1 + 1]? = some o5
  simp only [Array.getElem?_push, Array.size_push]
  repeat (first | rw [if_neg (by omega)] | rw [if_pos (by omega)])
  exact if_pos trivial
theorem UnitW.setMax {W : World} {bn bl n0 n1 n2 ln : Nat} {mx : Int} (h : UnitW W bn bl n0 n1 n2 ln mx) (m : Int) : UnitW (W.setCell ⟨bl, 4, none⟩ (.int .i64 m)) bn bl n0 n1 n2 ln m :=
  ⟨blk_far h.1 (blk_ne h.1 h.2.1 (by decide)) _, blk_set h.2.1 4 _, blk_far h.2.2.1 (blk_ne h.2.2.1 h.2.1 (by decide)) _, blk_far h.2.2.2.1 (blk_ne h.2.2.2.1 h.2.1 (by decide)) _, blk_far h.2.2.2.2.1 (blk_ne h.2.2.2.2.1 h.2.1 (by decide)) _, blk_far h.2.2.2.2.2 (blk_ne h.2.2.2.2.2 h.2.1 (by decide)) _⟩
set_option maxHeartbeats 8000000 in
set_option maxRecDepth 100000 in
theorem HeaviestLoop.walk (x0 x1 x2 x3 x4 x5 x6 : Int) (w : World) (b0 : 0 ≤ x0) (e0 : x0 ≤ 255) (b1 : 0 ≤ x1) (e1 : x1 ≤ 255) (b2 : 0 ≤ x2) (e2 : x2 ≤ 255) (b3 : 0 ≤ x3) (e3 : x3 ≤ 255) (b4 : 0 ≤ x4) (e4 : x4 ≤ 255) (b5 : 0 ≤ x5) (e5 : x5 ≤ 255) (b6 : 0 ≤ x6) (e6 : x6 ≤ 255) :
    Calls Try.prog 3 #[.int .u8 x0, .int .u8 x1, .int .u8 x2, .int .u8 x3, .int .u8 x4, .int .u8 x5, .int .u8 x6] w fun e w' => e = .returned (.bool true) ∧ Below w.heap.size w w' := by
  have hu32 := Try.underlying32
  have hu34 := Try.underlying34
  have hu38 := Try.underlying38
  have hm4 : ∀ W, (Instr.makeSlice 41 (.int .i64 4) (.int .i64 4)).run Try.prog W = .ok (.slice (some ⟨W.heap.size, 0, none⟩) 4 4) (W.alloc (.cells #[.bool false, .bool false, .bool false, .bool false] 4)) := fun W => by kernel_rfl
  obtain ⟨mx, hmx⟩ : ∃ m, m = x5.tmod 33 := ⟨_, rfl⟩
  have hmxe : x5.tmod 33 = x5 % 33 := Int.tmod_eq_emod_of_nonneg b5
  have gmx : 0 ≤ mx := by omega
  have gmx' : mx ≤ 32 := by omega
  have hrem : Int.tmod x5 33 = mx := hmx.symm
  clear hmx hmxe
  have HB : Aside0 (Below w.heap.size w w) := ⟨Below.refl _ _⟩
  have HLOW : Aside0 (Low x0 x2 x1 x3 x4 x6 mx) := ⟨⟨⟨b0, e0⟩, ⟨b2, e2⟩, ⟨b1, e1⟩, ⟨b3, e3⟩, ⟨b4, e4⟩, ⟨b6, e6⟩, gmx, gmx'⟩⟩
  go_enter Try.func3, Try.ntmps3
  go_wp2_with fail
  refine (loop_calls _).mono ?_
  rintro e w1 ⟨bn, bl, n0, n1, n2, ln, ob, o0, o1, o2, o3, ot, rfl, hU, hC, hbl, hb⟩
  replace HB := Aside0.mk (below_step HB.out hb)
  have HBL := Aside0.mk hbl
  have HU := Aside0.mk hU
  have HC := Aside0.mk hC
  clear hU hC hbl hb
  have HBS1 : Aside0 (w.heap.size ≤ w1.heap.size) := ⟨HB.out.size⟩
  go_upto_region 2 with (fail)
  have hb : Below w1.heap.size w1 ((w1.alloc (.cells #[.string ⟨#[]⟩, .slice (some ⟨bn, 0, none⟩) 4 4, .slice (some ⟨bl, 0, none⟩) 1 1, .slice none 0 0, .slice none 0 0, .slice none 0 0, .slice none 0 0, .slice none 0 0, .slice none 0 0, .slice none 0 0] 32)).alloc (.cells #[.slice (some ⟨ob, 0, none⟩) 4 4, .slice (some ⟨ot, 0, none⟩) 1 1] 34)) := (by repeat (first | with_reducible exact Below.refl _ _ | apply below_alloc | apply pw_below_drewN | apply below_drew1))
  have BU : Aside0 (Blk ((w1.alloc (.cells #[.string ⟨#[]⟩, .slice (some ⟨bn, 0, none⟩) 4 4, .slice (some ⟨bl, 0, none⟩) 1 1, .slice none 0 0, .slice none 0 0, .slice none 0 0, .slice none 0 0, .slice none 0 0, .slice none 0 0, .slice none 0 0] 32)).alloc (.cells #[.slice (some ⟨ob, 0, none⟩) 4 4, .slice (some ⟨ot, 0, none⟩) 1 1] 34)) w1.heap.size #[.string ⟨#[]⟩, .slice (some ⟨bn, 0, none⟩) 4 4, .slice (some ⟨bl, 0, none⟩) 1 1, .slice none 0 0, .slice none 0 0, .slice none 0 0, .slice none 0 0, .slice none 0 0, .slice none 0 0, .slice none 0 0] 32) := ⟨(by (repeat (first | with_reducible exact heap_alloc_new _ _ | with_reducible exact heap_alloc2_new _ _ _ | with_reducible exact blk_at3 _ _ _ _ | with_reducible exact blk_at4 _ _ _ _ _ | refine blk_alloc ?_ _)))⟩
  have BC : Aside0 (Blk ((w1.alloc (.cells #[.string ⟨#[]⟩, .slice (some ⟨bn, 0, none⟩) 4 4, .slice (some ⟨bl, 0, none⟩) 1 1, .slice none 0 0, .slice none 0 0, .slice none 0 0, .slice none 0 0, .slice none 0 0, .slice none 0 0, .slice none 0 0] 32)).alloc (.cells #[.slice (some ⟨ob, 0, none⟩) 4 4, .slice (some ⟨ot, 0, none⟩) 1 1] 34)) (w1.heap.size + 1) #[.slice (some ⟨ob, 0, none⟩) 4 4, .slice (some ⟨ot, 0, none⟩) 1 1] 34) := ⟨(by (repeat (first | with_reducible exact heap_alloc_new _ _ | with_reducible exact heap_alloc2_new _ _ _ | with_reducible exact blk_at3 _ _ _ _ | with_reducible exact blk_at4 _ _ _ _ _ | refine blk_alloc ?_ _)))⟩
  replace HB := Aside0.mk (below_step HB.out hb)
  replace HU := Aside0.mk (HU.out.below hb)
  replace HC := Aside0.mk (HC.out.below hb)
  clear hb
  generalize ((w1.alloc (.cells #[.string ⟨#[]⟩, .slice (some ⟨bn, 0, none⟩) 4 4, .slice (some ⟨bl, 0, none⟩) 1 1, .slice none 0 0, .slice none 0 0, .slice none 0 0, .slice none 0 0, .slice none 0 0, .slice none 0 0, .slice none 0 0] 32)).alloc (.cells #[.slice (some ⟨ob, 0, none⟩) 4 4, .slice (some ⟨ot, 0, none⟩) 1 1] 34)) = Wa at HU HC HB BU BC ⊢
  have HBUW : Aside0 (w.heap.size ≤ w1.heap.size) := ⟨HBS1.out⟩
  obtain ⟨bu, hbu⟩ : ∃ b, b = w1.heap.size := ⟨_, rfl⟩
  rw [← hbu] at BU BC HBUW ⊢
  clear hbu HC
  obtain ⟨hN, hL, h0, h1, h1', h2, hln, hln'⟩ := HU.out.reads
  obtain ⟨lbn, lbl, ln0, ln1, ln2, lln⟩ := HU.out.lts
  have lbnA : ∀ k, bn < Wa.heap.size + k := fun k => by omega
  have lbnB : ∀ k j, bn < Wa.heap.size + k + j := fun k j => by omega
  have lblA : ∀ k, bl < Wa.heap.size + k := fun k => by omega
  have lblB : ∀ k j, bl < Wa.heap.size + k + j := fun k j => by omega
  have ln0A : ∀ k, n0 < Wa.heap.size + k := fun k => by omega
  have ln0B : ∀ k j, n0 < Wa.heap.size + k + j := fun k j => by omega
  have ln1A : ∀ k, n1 < Wa.heap.size + k := fun k => by omega
  have ln1B : ∀ k j, n1 < Wa.heap.size + k + j := fun k j => by omega
  have ln2A : ∀ k, n2 < Wa.heap.size + k := fun k => by omega
  have ln2B : ∀ k j, n2 < Wa.heap.size + k + j := fun k j => by omega
  have llnA : ∀ k, ln < Wa.heap.size + k := fun k => by omega
  have llnB : ∀ k j, ln < Wa.heap.size + k + j := fun k j => by omega
  have hBU : ∀ i, Wa.cell? ⟨bu, i, none⟩ = (#[.string ⟨#[]⟩, .slice (some ⟨bn, 0, none⟩) 4 4, .slice (some ⟨bl, 0, none⟩) 1 1, .slice none 0 0, .slice none 0 0, .slice none 0 0, .slice none 0 0, .slice none 0 0, .slice none 0 0, .slice none 0 0] : Array Value)[i]? := fun i => blk_cell BU.out i
  have ltBU := blk_lt BU.out
  have ltBUA : ∀ k, bu < Wa.heap.size + k := fun k => by omega
  have ltBUB : ∀ k j, bu < Wa.heap.size + k + j := fun k j => by omega
  have hBC : ∀ i, Wa.cell? ⟨(bu + 1), i, none⟩ = (#[.slice (some ⟨ob, 0, none⟩) 4 4, .slice (some ⟨ot, 0, none⟩) 1 1] : Array Value)[i]? := fun i => blk_cell BC.out i
  have ltBC := blk_lt BC.out
  have ltBCA : ∀ k, (bu + 1) < Wa.heap.size + k := fun k => by omega
  have ltBCB : ∀ k j, (bu + 1) < Wa.heap.size + k + j := fun k j => by omega
  have fzBC := fun j => blk_frozen BC.out j
  have fzbl := fun j => blk_frozen HU.out.2.1 j
  go_upto_region 3 with (fail)
  clear hN hL h0 h1 h1' h2 hln hln' lbn lbl ln0 ln1 ln2 lln lbnA lbnB lblA lblB ln0A ln0B ln1A ln1B ln2A ln2B llnA llnB hBU ltBU ltBUA ltBUB hBC ltBC ltBCA ltBCB fzBC
  clear fzbl
  have hU : UnitW (Wa.setCell ⟨bl, 4, none⟩ (.int .i64 mx)) bn bl n0 n1 n2 ln mx := HU.out.setMax mx
  have hBU : Blk (Wa.setCell ⟨bl, 4, none⟩ (.int .i64 mx)) bu #[.string ⟨#[]⟩, .slice (some ⟨bn, 0, none⟩) 4 4, .slice (some ⟨bl, 0, none⟩) 1 1, .slice none 0 0, .slice none 0 0, .slice none 0 0, .slice none 0 0, .slice none 0 0, .slice none 0 0, .slice none 0 0] 32 := blk_far BU.out (blk_ne BU.out HU.out.2.1 (by decide)) _
  have hBC : Blk (Wa.setCell ⟨bl, 4, none⟩ (.int .i64 mx)) (bu + 1) #[.slice (some ⟨ob, 0, none⟩) 4 4, .slice (some ⟨ot, 0, none⟩) 1 1] 34 := blk_far BC.out (blk_ne BC.out HU.out.2.1 (by decide)) _
  have hB : Below w.heap.size w (Wa.setCell ⟨bl, 4, none⟩ (.int .i64 mx)) := bset HB.out HBL.out _ _
  generalize (Wa.setCell ⟨bl, 4, none⟩ (.int .i64 mx)) = Wb at hU hBU hBC hB ⊢
  clear HU BU BC HB
  have HU := Aside0.mk hU
  have BU := Aside0.mk hBU
  have BC := Aside0.mk hBC
  have HB := Aside0.mk hB
  clear hU hBU hBC hB
  have hBU : ∀ i, Wb.cell? ⟨bu, i, none⟩ = (#[.string ⟨#[]⟩, .slice (some ⟨bn, 0, none⟩) 4 4, .slice (some ⟨bl, 0, none⟩) 1 1, .slice none 0 0, .slice none 0 0, .slice none 0 0, .slice none 0 0, .slice none 0 0, .slice none 0 0, .slice none 0 0] : Array Value)[i]? := fun i => blk_cell BU.out i
  have ltBU := blk_lt BU.out
  have ltBUA : ∀ k, bu < Wb.heap.size + k := fun k => by omega
  have ltBUB : ∀ k j, bu < Wb.heap.size + k + j := fun k j => by omega
  have hBC : ∀ i, Wb.cell? ⟨(bu + 1), i, none⟩ = (#[.slice (some ⟨ob, 0, none⟩) 4 4, .slice (some ⟨ot, 0, none⟩) 1 1] : Array Value)[i]? := fun i => blk_cell BC.out i
  have ltBC := blk_lt BC.out
  have ltBCA : ∀ k, (bu + 1) < Wb.heap.size + k := fun k => by omega
  have ltBCB : ∀ k j, (bu + 1) < Wb.heap.size + k + j := fun k j => by omega
  have fzBC := fun j => blk_frozen BC.out j
  go_upto_region 5 with (fail)
  clear hBU ltBU ltBUA ltBUB hBC ltBC ltBCA ltBCB fzBC
  obtain ⟨g, hg⟩ : ∃ g, g = Wb.heap.size := ⟨_, rfl⟩
  rw [← hg] at ⊢
  have hU : UnitW ((Wb.setCell ⟨bu + 1, 0, none⟩ (.slice (some ⟨g + 1 + 1 + 1 + 1, 0, none⟩) 4 4)).setCell ⟨bu + 1, 1, none⟩ (.slice (some ⟨g + 1 + 1 + 1 + 1 + 1, 0, none⟩) 1 1)) bn bl n0 n1 n2 ln mx := by
    have h := HU.out
    have hn : ∀ {b : Nat} {cs : Array Value} {t : TypeId}, t ≠ 34 → Blk Wb b cs t → Blk ((Wb.setCell ⟨bu + 1, 0, none⟩ (.slice (some ⟨g + 1 + 1 + 1 + 1, 0, none⟩) 4 4)).setCell ⟨bu + 1, 1, none⟩ (.slice (some ⟨g + 1 + 1 + 1 + 1 + 1, 0, none⟩) 1 1)) b cs t := fun ht h => blk_far (blk_far h (blk_ne h BC.out ht) _) (blk_ne h BC.out ht) _
    exact ⟨hn (by decide) h.1, hn (by decide) h.2.1, hn (by decide) h.2.2.1, hn (by decide) h.2.2.2.1, hn (by decide) h.2.2.2.2.1, hn (by decide) h.2.2.2.2.2⟩
  have hBU : Blk ((Wb.setCell ⟨bu + 1, 0, none⟩ (.slice (some ⟨g + 1 + 1 + 1 + 1, 0, none⟩) 4 4)).setCell ⟨bu + 1, 1, none⟩ (.slice (some ⟨g + 1 + 1 + 1 + 1 + 1, 0, none⟩) 1 1)) bu #[.string ⟨#[]⟩, .slice (some ⟨bn, 0, none⟩) 4 4, .slice (some ⟨bl, 0, none⟩) 1 1, .slice none 0 0, .slice none 0 0, .slice none 0 0, .slice none 0 0, .slice none 0 0, .slice none 0 0, .slice none 0 0] 32 := blk_far (blk_far BU.out (blk_ne BU.out BC.out (by decide)) _) (blk_ne BU.out BC.out (by decide)) _
  have hBC : Blk ((Wb.setCell ⟨bu + 1, 0, none⟩ (.slice (some ⟨g + 1 + 1 + 1 + 1, 0, none⟩) 4 4)).setCell ⟨bu + 1, 1, none⟩ (.slice (some ⟨g + 1 + 1 + 1 + 1 + 1, 0, none⟩) 1 1)) (bu + 1) #[.slice (some ⟨g + 1 + 1 + 1 + 1, 0, none⟩) 4 4, .slice (some ⟨g + 1 + 1 + 1 + 1 + 1, 0, none⟩) 1 1] 34 := blk_set (blk_set BC.out 0 (.slice (some ⟨g + 1 + 1 + 1 + 1, 0, none⟩) 4 4)) 1 (.slice (some ⟨g + 1 + 1 + 1 + 1 + 1, 0, none⟩) 1 1)
  have hB : Below w.heap.size w ((Wb.setCell ⟨bu + 1, 0, none⟩ (.slice (some ⟨g + 1 + 1 + 1 + 1, 0, none⟩) 4 4)).setCell ⟨bu + 1, 1, none⟩ (.slice (some ⟨g + 1 + 1 + 1 + 1 + 1, 0, none⟩) 1 1)) := bset (bset HB.out (Nat.le_succ_of_le HBUW.out) _ _) (Nat.le_succ_of_le HBUW.out) _ _
  have hsz : (((Wb.setCell ⟨bu + 1, 0, none⟩ (.slice (some ⟨g + 1 + 1 + 1 + 1, 0, none⟩) 4 4)).setCell ⟨bu + 1, 1, none⟩ (.slice (some ⟨g + 1 + 1 + 1 + 1 + 1, 0, none⟩) 1 1))).heap.size = g := by rw [hg]; simp
  clear hg
  generalize ((Wb.setCell ⟨bu + 1, 0, none⟩ (.slice (some ⟨g + 1 + 1 + 1 + 1, 0, none⟩) 4 4)).setCell ⟨bu + 1, 1, none⟩ (.slice (some ⟨g + 1 + 1 + 1 + 1 + 1, 0, none⟩) 1 1)) = Wc at hU hBU hBC hB hsz ⊢
  have hC : CostW ((((((Wc.alloc (.cells #[.int .i64 x0] 3)).alloc (.cells #[.int .i64 x2, .int .i64 x1] 3)).alloc (.cells #[.int .i64 x3] 3)).alloc (.cells #[.int .i64 x4] 3)).alloc (.cells #[.slice (some ⟨g, 0, none⟩) 1 1, .slice (some ⟨g + 1, 0, none⟩) 2 2, .slice (some ⟨g + 1 + 1, 0, none⟩) 1 1, .slice (some ⟨g + 1 + 1 + 1, 0, none⟩) 1 1] 29)).alloc (.cells #[.int .i64 x6] 3)) (g + 1 + 1 + 1 + 1) g (g + 1) (g + 1 + 1) (g + 1 + 1 + 1) (g + 1 + 1 + 1 + 1 + 1) x0 x2 x1 x3 x4 x6 := ⟨at6_4 Wc g hsz _ _ _ _ _ _, at6_0 Wc g hsz _ _ _ _ _ _, at6_1 Wc g hsz _ _ _ _ _ _, at6_2 Wc g hsz _ _ _ _ _ _, at6_3 Wc g hsz _ _ _ _ _ _, at6_5 Wc g hsz _ _ _ _ _ _⟩
  have hb6 : Below Wc.heap.size Wc ((((((Wc.alloc (.cells #[.int .i64 x0] 3)).alloc (.cells #[.int .i64 x2, .int .i64 x1] 3)).alloc (.cells #[.int .i64 x3] 3)).alloc (.cells #[.int .i64 x4] 3)).alloc (.cells #[.slice (some ⟨g, 0, none⟩) 1 1, .slice (some ⟨g + 1, 0, none⟩) 2 2, .slice (some ⟨g + 1 + 1, 0, none⟩) 1 1, .slice (some ⟨g + 1 + 1 + 1, 0, none⟩) 1 1] 29)).alloc (.cells #[.int .i64 x6] 3)) := below_alloc (below_alloc (below_alloc (below_alloc (below_alloc (below_alloc (Below.refl _ _) _) _) _) _) _) _
  replace hU := hU.below hb6
  replace hBU := blk_below hBU hb6
  replace hBC := blk_below hBC hb6
  replace hB := below_step hB hb6
  clear hb6 hsz HU BU BC HB
  generalize ((((((Wc.alloc (.cells #[.int .i64 x0] 3)).alloc (.cells #[.int .i64 x2, .int .i64 x1] 3)).alloc (.cells #[.int .i64 x3] 3)).alloc (.cells #[.int .i64 x4] 3)).alloc (.cells #[.slice (some ⟨g, 0, none⟩) 1 1, .slice (some ⟨g + 1, 0, none⟩) 2 2, .slice (some ⟨g + 1 + 1, 0, none⟩) 1 1, .slice (some ⟨g + 1 + 1 + 1, 0, none⟩) 1 1] 29)).alloc (.cells #[.int .i64 x6] 3)) = Wd at hU hBU hBC hB hC ⊢
  obtain ⟨kt, hkt⟩ : ∃ x, x = g + 1 + 1 + 1 + 1 + 1 := ⟨_, rfl⟩
  rw [← hkt] at hC hBC ⊢
  obtain ⟨be, hbe⟩ : ∃ x, x = g + 1 + 1 + 1 + 1 := ⟨_, rfl⟩
  rw [← hbe] at hC hBC ⊢
  clear hkt hbe
  generalize g + 1 + 1 + 1 = k3 at hC ⊢
  generalize g + 1 + 1 = k2 at hC ⊢
  generalize g + 1 = k1 at hC ⊢
  generalize g = k0 at hC ⊢
  have HU := Aside0.mk hU
  have HC := Aside0.mk hC
  have BU := Aside0.mk hBU
  have BC := Aside0.mk hBC
  have HB := Aside0.mk hB
  clear hU hC hBU hBC hB
  obtain ⟨hN, hL, h0, h1, h1', h2, hln, hln'⟩ := HU.out.reads
  obtain ⟨lbn, lbl, ln0, ln1, ln2, lln⟩ := HU.out.lts
  have lbnA : ∀ k, bn < Wd.heap.size + k := fun k => by omega
  have lbnB : ∀ k j, bn < Wd.heap.size + k + j := fun k j => by omega
  have lblA : ∀ k, bl < Wd.heap.size + k := fun k => by omega
  have lblB : ∀ k j, bl < Wd.heap.size + k + j := fun k j => by omega
  have ln0A : ∀ k, n0 < Wd.heap.size + k := fun k => by omega
  have ln0B : ∀ k j, n0 < Wd.heap.size + k + j := fun k j => by omega
  have ln1A : ∀ k, n1 < Wd.heap.size + k := fun k => by omega
  have ln1B : ∀ k j, n1 < Wd.heap.size + k + j := fun k j => by omega
  have ln2A : ∀ k, n2 < Wd.heap.size + k := fun k => by omega
  have ln2B : ∀ k j, n2 < Wd.heap.size + k + j := fun k j => by omega
  have llnA : ∀ k, ln < Wd.heap.size + k := fun k => by omega
  have llnB : ∀ k j, ln < Wd.heap.size + k + j := fun k j => by omega
  obtain ⟨hE, q0, q1, q1', q2, q3, qt⟩ := HC.out.reads
  obtain ⟨lbe, lk0, lk1, lk2, lk3, lkt⟩ := HC.out.lts
  have lbeA : ∀ k, be < Wd.heap.size + k := fun k => by omega
  have lbeB : ∀ k j, be < Wd.heap.size + k + j := fun k j => by omega
  have lk0A : ∀ k, k0 < Wd.heap.size + k := fun k => by omega
  have lk0B : ∀ k j, k0 < Wd.heap.size + k + j := fun k j => by omega
  have lk1A : ∀ k, k1 < Wd.heap.size + k := fun k => by omega
  have lk1B : ∀ k j, k1 < Wd.heap.size + k + j := fun k j => by omega
  have lk2A : ∀ k, k2 < Wd.heap.size + k := fun k => by omega
  have lk2B : ∀ k j, k2 < Wd.heap.size + k + j := fun k j => by omega
  have lk3A : ∀ k, k3 < Wd.heap.size + k := fun k => by omega
  have lk3B : ∀ k j, k3 < Wd.heap.size + k + j := fun k j => by omega
  have lktA : ∀ k, kt < Wd.heap.size + k := fun k => by omega
  have lktB : ∀ k j, kt < Wd.heap.size + k + j := fun k j => by omega
  have hBU : ∀ i, Wd.cell? ⟨bu, i, none⟩ = (#[.string ⟨#[]⟩, .slice (some ⟨bn, 0, none⟩) 4 4, .slice (some ⟨bl, 0, none⟩) 1 1, .slice none 0 0, .slice none 0 0, .slice none 0 0, .slice none 0 0, .slice none 0 0, .slice none 0 0, .slice none 0 0] : Array Value)[i]? := fun i => blk_cell BU.out i
  have ltBU := blk_lt BU.out
  have ltBUA : ∀ k, bu < Wd.heap.size + k := fun k => by omega
  have ltBUB : ∀ k j, bu < Wd.heap.size + k + j := fun k j => by omega
  have hBC : ∀ i, Wd.cell? ⟨(bu + 1), i, none⟩ = (#[.slice (some ⟨be, 0, none⟩) 4 4, .slice (some ⟨kt, 0, none⟩) 1 1] : Array Value)[i]? := fun i => blk_cell BC.out i
  have ltBC := blk_lt BC.out
  have ltBCA : ∀ k, (bu + 1) < Wd.heap.size + k := fun k => by omega
  have ltBCB : ∀ k j, (bu + 1) < Wd.heap.size + k + j := fun k j => by omega
  have hs0 : (∀ i, Wd.drew.cell? ⟨bu, i, none⟩ = (#[.string ⟨#[]⟩, .slice (some ⟨bn, 0, none⟩) 4 4, .slice (some ⟨bl, 0, none⟩) 1 1, .slice none 0 0, .slice none 0 0, .slice none 0 0, .slice none 0 0, .slice none 0 0, .slice none 0 0, .slice none 0 0] : Array Value)[i]?) ∧ (∀ i, Wd.drew.cell? ⟨bu + 1, i, none⟩ = (#[.slice (some ⟨be, 0, none⟩) 4 4, .slice (some ⟨kt, 0, none⟩) 1 1] : Array Value)[i]?) := ⟨fun i => blk_cell (blk_drew BU.out) i, fun i => blk_cell (blk_drew BC.out) i⟩
  go_region_held3 (fun w' => (∀ i, w'.cell? ⟨bu, i, none⟩ = (#[.string ⟨#[]⟩, .slice (some ⟨bn, 0, none⟩) 4 4, .slice (some ⟨bl, 0, none⟩) 1 1, .slice none 0 0, .slice none 0 0, .slice none 0 0, .slice none 0 0, .slice none 0 0, .slice none 0 0, .slice none 0 0] : Array Value)[i]?) ∧ (∀ i, w'.cell? ⟨bu + 1, i, none⟩ = (#[.slice (some ⟨be, 0, none⟩) 4 4, .slice (some ⟨kt, 0, none⟩) 1 1] : Array Value)[i]?)) (first | with_reducible exact hs0 | with_reducible assumption | exact ⟨fun i => blk_cell (blk_alloc (blk_drew BU.out) _) i, fun i => blk_cell (blk_alloc (blk_drew BC.out) _) i⟩ | exact ⟨fun i => blk_cell (blk_drew (blk_alloc BU.out _)) i, fun i => blk_cell (blk_drew (blk_alloc BC.out _)) i⟩) (first | (go_at_call 5; have hb0 : Below Wd.heap.size Wd (Wd.drew.alloc (.cells #[.bool false, .bool false, .bool false, .bool false] 4)) := below_alloc (below_drew1 (Below.refl _ _)) _; with_reducible refine (cost_none bn bl n0 n1 n2 ln mx _ (HU.out.below hb0) be k0 k1 k2 k3 kt x0 x2 x1 x3 x4 x6 (HC.out.below hb0) HLOW.out _ (heap_alloc_new _ _)).mono ?_; rintro e w2 ⟨rfl, hb⟩; replace hb : Below Wd.heap.size Wd w2 := below_step hb0 hb; skip; replace HB := Aside0.mk (below_step HB.out hb); replace HU := Aside0.mk (HU.out.below hb); replace HC := Aside0.mk (HC.out.below hb); replace BU := Aside0.mk (blk_below BU.out hb); replace BC := Aside0.mk (blk_below BC.out hb); clear hb; have hs : (∀ i, w2.cell? ⟨bu, i, none⟩ = (#[.string ⟨#[]⟩, .slice (some ⟨bn, 0, none⟩) 4 4, .slice (some ⟨bl, 0, none⟩) 1 1, .slice none 0 0, .slice none 0 0, .slice none 0 0, .slice none 0 0, .slice none 0 0, .slice none 0 0, .slice none 0 0] : Array Value)[i]?) ∧ (∀ i, w2.cell? ⟨bu + 1, i, none⟩ = (#[.slice (some ⟨be, 0, none⟩) 4 4, .slice (some ⟨kt, 0, none⟩) 1 1] : Array Value)[i]?) := ⟨fun i => blk_cell BU.out i, fun i => blk_cell BC.out i⟩; clear hb0) | (go_at_call 5; have hb0 : Below Wd.heap.size Wd (Wd.alloc (.cells #[.bool false, .bool false, .bool false, .bool false] 4)).drew := below_drew1 (below_alloc (Below.refl _ _) _); with_reducible refine (cost_none bn bl n0 n1 n2 ln mx _ (HU.out.below hb0) be k0 k1 k2 k3 kt x0 x2 x1 x3 x4 x6 (HC.out.below hb0) HLOW.out _ (blk_drew (heap_alloc_new _ _))).mono ?_; rintro e w2 ⟨rfl, hb⟩; replace hb : Below Wd.heap.size Wd w2 := below_step hb0 hb; skip; replace HB := Aside0.mk (below_step HB.out hb); replace HU := Aside0.mk (HU.out.below hb); replace HC := Aside0.mk (HC.out.below hb); replace BU := Aside0.mk (blk_below BU.out hb); replace BC := Aside0.mk (blk_below BC.out hb); clear hb; have hs : (∀ i, w2.cell? ⟨bu, i, none⟩ = (#[.string ⟨#[]⟩, .slice (some ⟨bn, 0, none⟩) 4 4, .slice (some ⟨bl, 0, none⟩) 1 1, .slice none 0 0, .slice none 0 0, .slice none 0 0, .slice none 0 0, .slice none 0 0, .slice none 0 0, .slice none 0 0] : Array Value)[i]?) ∧ (∀ i, w2.cell? ⟨bu + 1, i, none⟩ = (#[.slice (some ⟨be, 0, none⟩) 4 4, .slice (some ⟨kt, 0, none⟩) 1 1] : Array Value)[i]?) := ⟨fun i => blk_cell BU.out i, fun i => blk_cell BC.out i⟩; clear hb0) | fail)
  clear hs0
  clear hN hL h0 h1 h1' h2 hln hln' lbn lbl ln0 ln1 ln2 lln lbnA lbnB lblA lblB ln0A ln0B ln1A ln1B ln2A ln2B llnA llnB hE q0 q1 q1' q2 q3 qt lbe lk0 lk1 lk2 lk3 lkt lbeA lbeB lk0A lk0B lk1A lk1B lk2A lk2B lk3A lk3B lktA lktB hBU ltBU ltBUA ltBUB hBC ltBC ltBCA ltBCB
  obtain ⟨hN, hL, h0, h1, h1', h2, hln, hln'⟩ := HU.out.reads
  obtain ⟨lbn, lbl, ln0, ln1, ln2, lln⟩ := HU.out.lts
  have lbnA : ∀ k, bn < w2.heap.size + k := fun k => by omega
  have lbnB : ∀ k j, bn < w2.heap.size + k + j := fun k j => by omega
  have lblA : ∀ k, bl < w2.heap.size + k := fun k => by omega
  have lblB : ∀ k j, bl < w2.heap.size + k + j := fun k j => by omega
  have ln0A : ∀ k, n0 < w2.heap.size + k := fun k => by omega
  have ln0B : ∀ k j, n0 < w2.heap.size + k + j := fun k j => by omega
  have ln1A : ∀ k, n1 < w2.heap.size + k := fun k => by omega
  have ln1B : ∀ k j, n1 < w2.heap.size + k + j := fun k j => by omega
  have ln2A : ∀ k, n2 < w2.heap.size + k := fun k => by omega
  have ln2B : ∀ k j, n2 < w2.heap.size + k + j := fun k j => by omega
  have llnA : ∀ k, ln < w2.heap.size + k := fun k => by omega
  have llnB : ∀ k j, ln < w2.heap.size + k + j := fun k j => by omega
  obtain ⟨hE, q0, q1, q1', q2, q3, qt⟩ := HC.out.reads
  obtain ⟨lbe, lk0, lk1, lk2, lk3, lkt⟩ := HC.out.lts
  have lbeA : ∀ k, be < w2.heap.size + k := fun k => by omega
  have lbeB : ∀ k j, be < w2.heap.size + k + j := fun k j => by omega
  have lk0A : ∀ k, k0 < w2.heap.size + k := fun k => by omega
  have lk0B : ∀ k j, k0 < w2.heap.size + k + j := fun k j => by omega
  have lk1A : ∀ k, k1 < w2.heap.size + k := fun k => by omega
  have lk1B : ∀ k j, k1 < w2.heap.size + k + j := fun k j => by omega
  have lk2A : ∀ k, k2 < w2.heap.size + k := fun k => by omega
  have lk2B : ∀ k j, k2 < w2.heap.size + k + j := fun k j => by omega
  have lk3A : ∀ k, k3 < w2.heap.size + k := fun k => by omega
  have lk3B : ∀ k j, k3 < w2.heap.size + k + j := fun k j => by omega
  have lktA : ∀ k, kt < w2.heap.size + k := fun k => by omega
  have lktB : ∀ k j, kt < w2.heap.size + k + j := fun k j => by omega
  have hBU : ∀ i, w2.cell? ⟨bu, i, none⟩ = (#[.string ⟨#[]⟩, .slice (some ⟨bn, 0, none⟩) 4 4, .slice (some ⟨bl, 0, none⟩) 1 1, .slice none 0 0, .slice none 0 0, .slice none 0 0, .slice none 0 0, .slice none 0 0, .slice none 0 0, .slice none 0 0] : Array Value)[i]? := fun i => blk_cell BU.out i
  have ltBU := blk_lt BU.out
  have ltBUA : ∀ k, bu < w2.heap.size + k := fun k => by omega
  have ltBUB : ∀ k j, bu < w2.heap.size + k + j := fun k j => by omega
  have hBC : ∀ i, w2.cell? ⟨(bu + 1), i, none⟩ = (#[.slice (some ⟨be, 0, none⟩) 4 4, .slice (some ⟨kt, 0, none⟩) 1 1] : Array Value)[i]? := fun i => blk_cell BC.out i
  have ltBC := blk_lt BC.out
  have ltBCA : ∀ k, (bu + 1) < w2.heap.size + k := fun k => by omega
  have ltBCB : ∀ k j, (bu + 1) < w2.heap.size + k + j := fun k j => by omega
  go_wp2_with fail
  clear hN hL h0 h1 h1' h2 hln hln' lbn lbl ln0 ln1 ln2 lln lbnA lbnB lblA lblB ln0A ln0B ln1A ln1B ln2A ln2B llnA llnB hE q0 q1 q1' q2 q3 qt lbe lk0 lk1 lk2 lk3 lkt lbeA lbeB lk0A lk0B lk1A lk1B lk2A lk2B lk3A lk3B lktA lktB hBU ltBU ltBUA ltBUB hBC ltBC ltBCA ltBCB
  have hb0 : Below w2.heap.size w2 (w2.alloc (.cells #[.bool false, .bool false, .bool true, .bool false] 4)) := below_alloc (Below.refl _ _) _
  refine (cost_two bn bl n0 n1 n2 ln mx _ (HU.out.below hb0) be k0 k1 k2 k3 kt x0 x2 x1 x3 x4 x6 (HC.out.below hb0) HLOW.out _ (heap_alloc_new _ _)).mono ?_
  rintro e w3 ⟨rfl, hb⟩
  replace hb : Below w2.heap.size w2 w3 := below_step hb0 hb
  clear hb0
  replace HB := Aside0.mk (below_step HB.out hb)
  replace HU := Aside0.mk (HU.out.below hb)
  replace HC := Aside0.mk (HC.out.below hb)
  replace BU := Aside0.mk (blk_below BU.out hb)
  replace BC := Aside0.mk (blk_below BC.out hb)
  clear hb
  obtain ⟨hN, hL, h0, h1, h1', h2, hln, hln'⟩ := HU.out.reads
  obtain ⟨lbn, lbl, ln0, ln1, ln2, lln⟩ := HU.out.lts
  have lbnA : ∀ k, bn < w3.heap.size + k := fun k => by omega
  have lbnB : ∀ k j, bn < w3.heap.size + k + j := fun k j => by omega
  have lblA : ∀ k, bl < w3.heap.size + k := fun k => by omega
  have lblB : ∀ k j, bl < w3.heap.size + k + j := fun k j => by omega
  have ln0A : ∀ k, n0 < w3.heap.size + k := fun k => by omega
  have ln0B : ∀ k j, n0 < w3.heap.size + k + j := fun k j => by omega
  have ln1A : ∀ k, n1 < w3.heap.size + k := fun k => by omega
  have ln1B : ∀ k j, n1 < w3.heap.size + k + j := fun k j => by omega
  have ln2A : ∀ k, n2 < w3.heap.size + k := fun k => by omega
  have ln2B : ∀ k j, n2 < w3.heap.size + k + j := fun k j => by omega
  have llnA : ∀ k, ln < w3.heap.size + k := fun k => by omega
  have llnB : ∀ k j, ln < w3.heap.size + k + j := fun k j => by omega
  obtain ⟨hE, q0, q1, q1', q2, q3, qt⟩ := HC.out.reads
  obtain ⟨lbe, lk0, lk1, lk2, lk3, lkt⟩ := HC.out.lts
  have lbeA : ∀ k, be < w3.heap.size + k := fun k => by omega
  have lbeB : ∀ k j, be < w3.heap.size + k + j := fun k j => by omega
  have lk0A : ∀ k, k0 < w3.heap.size + k := fun k => by omega
  have lk0B : ∀ k j, k0 < w3.heap.size + k + j := fun k j => by omega
  have lk1A : ∀ k, k1 < w3.heap.size + k := fun k => by omega
  have lk1B : ∀ k j, k1 < w3.heap.size + k + j := fun k j => by omega
  have lk2A : ∀ k, k2 < w3.heap.size + k := fun k => by omega
  have lk2B : ∀ k j, k2 < w3.heap.size + k + j := fun k j => by omega
  have lk3A : ∀ k, k3 < w3.heap.size + k := fun k => by omega
  have lk3B : ∀ k j, k3 < w3.heap.size + k + j := fun k j => by omega
  have lktA : ∀ k, kt < w3.heap.size + k := fun k => by omega
  have lktB : ∀ k j, kt < w3.heap.size + k + j := fun k j => by omega
  have hBU : ∀ i, w3.cell? ⟨bu, i, none⟩ = (#[.string ⟨#[]⟩, .slice (some ⟨bn, 0, none⟩) 4 4, .slice (some ⟨bl, 0, none⟩) 1 1, .slice none 0 0, .slice none 0 0, .slice none 0 0, .slice none 0 0, .slice none 0 0, .slice none 0 0, .slice none 0 0] : Array Value)[i]? := fun i => blk_cell BU.out i
  have ltBU := blk_lt BU.out
  have ltBUA : ∀ k, bu < w3.heap.size + k := fun k => by omega
  have ltBUB : ∀ k j, bu < w3.heap.size + k + j := fun k j => by omega
  have hBC : ∀ i, w3.cell? ⟨(bu + 1), i, none⟩ = (#[.slice (some ⟨be, 0, none⟩) 4 4, .slice (some ⟨kt, 0, none⟩) 1 1] : Array Value)[i]? := fun i => blk_cell BC.out i
  have ltBC := blk_lt BC.out
  have ltBCA : ∀ k, (bu + 1) < w3.heap.size + k := fun k => by omega
  have ltBCB : ∀ k j, (bu + 1) < w3.heap.size + k + j := fun k j => by omega
  go_wp2_with fail
  clear hN hL h0 h1 h1' h2 hln hln' lbn lbl ln0 ln1 ln2 lln lbnA lbnB lblA lblB ln0A ln0B ln1A ln1B ln2A ln2B llnA llnB hE q0 q1 q1' q2 q3 qt lbe lk0 lk1 lk2 lk3 lkt lbeA lbeB lk0A lk0B lk1A lk1B lk2A lk2B lk3A lk3B lktA lktB hBU ltBU ltBUA ltBUB hBC ltBC ltBCA ltBCB
  have hb0 : Below w3.heap.size w3 (w3.alloc (.cells #[.bool false, .bool true, .bool false, .bool false] 4)) := below_alloc (Below.refl _ _) _
  refine (cost_one bn bl n0 n1 n2 ln mx _ (HU.out.below hb0) be k0 k1 k2 k3 kt x0 x2 x1 x3 x4 x6 (HC.out.below hb0) HLOW.out _ (heap_alloc_new _ _)).mono ?_
  rintro e w4 ⟨rfl, hb⟩
  replace hb : Below w3.heap.size w3 w4 := below_step hb0 hb
  clear hb0
  replace HB := Aside0.mk (below_step HB.out hb)
  replace HU := Aside0.mk (HU.out.below hb)
  replace HC := Aside0.mk (HC.out.below hb)
  replace BU := Aside0.mk (blk_below BU.out hb)
  replace BC := Aside0.mk (blk_below BC.out hb)
  clear hb
  obtain ⟨hN, hL, h0, h1, h1', h2, hln, hln'⟩ := HU.out.reads
  obtain ⟨lbn, lbl, ln0, ln1, ln2, lln⟩ := HU.out.lts
  have lbnA : ∀ k, bn < w4.heap.size + k := fun k => by omega
  have lbnB : ∀ k j, bn < w4.heap.size + k + j := fun k j => by omega
  have lblA : ∀ k, bl < w4.heap.size + k := fun k => by omega
  have lblB : ∀ k j, bl < w4.heap.size + k + j := fun k j => by omega
  have ln0A : ∀ k, n0 < w4.heap.size + k := fun k => by omega
  have ln0B : ∀ k j, n0 < w4.heap.size + k + j := fun k j => by omega
  have ln1A : ∀ k, n1 < w4.heap.size + k := fun k => by omega
  have ln1B : ∀ k j, n1 < w4.heap.size + k + j := fun k j => by omega
  have ln2A : ∀ k, n2 < w4.heap.size + k := fun k => by omega
  have ln2B : ∀ k j, n2 < w4.heap.size + k + j := fun k j => by omega
  have llnA : ∀ k, ln < w4.heap.size + k := fun k => by omega
  have llnB : ∀ k j, ln < w4.heap.size + k + j := fun k j => by omega
  obtain ⟨hE, q0, q1, q1', q2, q3, qt⟩ := HC.out.reads
  obtain ⟨lbe, lk0, lk1, lk2, lk3, lkt⟩ := HC.out.lts
  have lbeA : ∀ k, be < w4.heap.size + k := fun k => by omega
  have lbeB : ∀ k j, be < w4.heap.size + k + j := fun k j => by omega
  have lk0A : ∀ k, k0 < w4.heap.size + k := fun k => by omega
  have lk0B : ∀ k j, k0 < w4.heap.size + k + j := fun k j => by omega
  have lk1A : ∀ k, k1 < w4.heap.size + k := fun k => by omega
  have lk1B : ∀ k j, k1 < w4.heap.size + k + j := fun k j => by omega
  have lk2A : ∀ k, k2 < w4.heap.size + k := fun k => by omega
  have lk2B : ∀ k j, k2 < w4.heap.size + k + j := fun k j => by omega
  have lk3A : ∀ k, k3 < w4.heap.size + k := fun k => by omega
  have lk3B : ∀ k j, k3 < w4.heap.size + k + j := fun k j => by omega
  have lktA : ∀ k, kt < w4.heap.size + k := fun k => by omega
  have lktB : ∀ k j, kt < w4.heap.size + k + j := fun k j => by omega
  have hBU : ∀ i, w4.cell? ⟨bu, i, none⟩ = (#[.string ⟨#[]⟩, .slice (some ⟨bn, 0, none⟩) 4 4, .slice (some ⟨bl, 0, none⟩) 1 1, .slice none 0 0, .slice none 0 0, .slice none 0 0, .slice none 0 0, .slice none 0 0, .slice none 0 0, .slice none 0 0] : Array Value)[i]? := fun i => blk_cell BU.out i
  have ltBU := blk_lt BU.out
  have ltBUA : ∀ k, bu < w4.heap.size + k := fun k => by omega
  have ltBUB : ∀ k j, bu < w4.heap.size + k + j := fun k j => by omega
  have hBC : ∀ i, w4.cell? ⟨(bu + 1), i, none⟩ = (#[.slice (some ⟨be, 0, none⟩) 4 4, .slice (some ⟨kt, 0, none⟩) 1 1] : Array Value)[i]? := fun i => blk_cell BC.out i
  have ltBC := blk_lt BC.out
  have ltBCA : ∀ k, (bu + 1) < w4.heap.size + k := fun k => by omega
  have ltBCB : ∀ k j, (bu + 1) < w4.heap.size + k + j := fun k j => by omega
  have HPB : 0 ≤ mx * (x2 + x3) ∧ mx * (x2 + x3) ≤ 16320 := by
    have h1 : 0 ≤ x2 + x3 := by omega
    have h2 : x2 + x3 ≤ 510 := by omega
    exact ⟨Int.mul_nonneg gmx h1, Int.le_trans (Int.mul_le_mul gmx' h2 h1 (by decide)) (by decide)⟩
  obtain ⟨hq0, hq1⟩ := HPB
  have hd1 : x1 + (x0 + (x6 + mx * (x2 + x3))) + x4 = x0 + x6 + x1 + x4 + mx * (x2 + x3) := by omega
  have hd2 : x1 + (x0 + x6) + x4 = x0 + x6 + x1 + x4 := by omega
  go_wp2_with fail
  clear hN hL h0 h1 h1' h2 hln hln' lbn lbl ln0 ln1 ln2 lln lbnA lbnB lblA lblB ln0A ln0B ln1A ln1B ln2A ln2B llnA llnB hE q0 q1 q1' q2 q3 qt lbe lk0 lk1 lk2 lk3 lkt lbeA lbeB lk0A lk0B lk1A lk1B lk2A lk2B lk3A lk3B lktA lktB hBU ltBU ltBUA ltBUB hBC ltBC ltBCA ltBCB
  refine (awake_calls _).mono ?_
  rintro e w5 ⟨rfl, hb⟩
  replace HB := Aside0.mk (below_step HB.out hb)
  replace HU := Aside0.mk (HU.out.below hb)
  replace HC := Aside0.mk (HC.out.below hb)
  replace BU := Aside0.mk (blk_below BU.out hb)
  replace BC := Aside0.mk (blk_below BC.out hb)
  clear hb
  go_wp2_with fail
  go_ret
  exact ⟨rfl, HB.out⟩
end Go.Proofs.Ytbeochkimihglaa.PHl
