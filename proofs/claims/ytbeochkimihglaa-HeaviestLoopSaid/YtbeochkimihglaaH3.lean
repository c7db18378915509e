/- heaviest.loop over the unit. -/
import Derived.Test.YtbeochkimihglaaH2
import Derived.Outline
namespace Go.Proofs.Ytbeochkimihglaa.PHl
open Go.RowKit Go.Proofs.YtbeochkimihglaaW.PrintWords Go.Proofs.YtbeochkimihglaaW.PrintLast Go.Proofs.YtbeochkimihglaaW.PrintMore
set_option linter.unusedVariables false
set_option linter.unusedSimpArgs false
set_option maxHeartbeats 8000000 in
set_option maxRecDepth 100000 in
theorem node_calls (bn bl bu : Nat) (m : Int) (w : World) (h : Blk w bu (unitC bn bl) 32) (h0 : 0 ≤ m) (h1 : m < 4) :
    Calls Try.prog 33 #[.int .i64 m, .pointer (some ⟨bu, 0, none⟩)] w fun e w' => e = .returned (.bool true) ∧ w' = w := by
  have hb : w.cell? ⟨bu, 1, none⟩ = some (.slice (some ⟨bn, 0, none⟩) 4 4) := blk_cell h 1
  clear h
  go_enter Try.func33, Try.ntmps33
  go_wp2_with fail
  go_ret
  exact ⟨rfl, rfl⟩
set_option maxHeartbeats 8000000 in
set_option maxRecDepth 100000 in
theorem loop1_calls (bn bl n0 n1 n2 ln : Nat) (mx : Int) (w : World) (hU : UnitW w bn bl n0 n1 n2 ln mx) (B : Nat) (hR : Blk w B #[.bool true, .bool true, .bool true, .bool true] 4) (hm0 : 0 ≤ mx) (hm1 : mx ≤ 32) :
    Calls Try.prog 18 #[UV bn bl, .int .i64 0, .slice (some ⟨B, 0, none⟩) 4 4] w fun e w' => e = .returned (.bool true) ∧ Below w.heap.size w w' := by
  have hu32 := Try.underlying32
  have hu38 := Try.underlying38
  have hu46 := Try.underlying46
  have HU := Aside0.mk hU
  have HR := Aside0.mk hR
  clear hU hR
  obtain ⟨hN, hL, h0, h1, h1', h2, hln, hln'⟩ := HU.out.reads
  obtain ⟨lbn, lbl, ln0, ln1, ln2, lln⟩ := HU.out.lts
  have lbnA : ∀ k, bn < w.heap.size + k := fun k => by omega
  have lbnB : ∀ k j, bn < w.heap.size + k + j := fun k j => by omega
  have lblA : ∀ k, bl < w.heap.size + k := fun k => by omega
  have lblB : ∀ k j, bl < w.heap.size + k + j := fun k j => by omega
  have ln0A : ∀ k, n0 < w.heap.size + k := fun k => by omega
  have ln0B : ∀ k j, n0 < w.heap.size + k + j := fun k j => by omega
  have ln1A : ∀ k, n1 < w.heap.size + k := fun k => by omega
  have ln1B : ∀ k j, n1 < w.heap.size + k + j := fun k j => by omega
  have ln2A : ∀ k, n2 < w.heap.size + k := fun k => by omega
  have ln2B : ∀ k j, n2 < w.heap.size + k + j := fun k j => by omega
  have llnA : ∀ k, ln < w.heap.size + k := fun k => by omega
  have llnB : ∀ k j, ln < w.heap.size + k + j := fun k j => by omega
  go_enter Try.func18, Try.ntmps18
  go_wp2_with fail
  iterate 3 (first | (rw [rounds_succ]; go_wp2_with (go_in)) | (refine wp_loop_rounds 5 ?_; rw [rounds_succ]; go_wp2_with (go_in)))
  clear hN hL h0 h1 h1' h2 hln hln' lbn lbl ln0 ln1 ln2 lln lbnA lbnB lblA lblB ln0A ln0B ln1A ln1B ln2A ln2B llnA llnB
  have hb0 := below_alloc (below_alloc (Below.refl w.heap.size w) (.cells #[.string ⟨#[]⟩, .slice (some ⟨bn, 0, none⟩) 4 4, .slice (some ⟨bl, 0, none⟩) 1 1, .slice none 0 0, .slice none 0 0, .slice none 0 0, .slice none 0 0, .slice none 0 0, .slice none 0 0, .slice none 0 0] 32)) (.cells #[.int .i64 1, .int .i64 0, .slice (some ⟨ln, 0, none⟩) 2 2, .int .i64 (-1), .int .i64 mx] 38)
  have HB := Aside0.mk hb0
  have HU1 := Aside0.mk (HU.out.below hb0)
  have BU : Aside0 (Blk ((w.alloc (.cells #[.string ⟨#[]⟩, .slice (some ⟨bn, 0, none⟩) 4 4, .slice (some ⟨bl, 0, none⟩) 1 1, .slice none 0 0, .slice none 0 0, .slice none 0 0, .slice none 0 0, .slice none 0 0, .slice none 0 0, .slice none 0 0] 32)).alloc (.cells #[.int .i64 1, .int .i64 0, .slice (some ⟨ln, 0, none⟩) 2 2, .int .i64 (-1), .int .i64 mx] 38)) w.heap.size (unitC bn bl) 32) := ⟨blk_alloc (heap_alloc_new w (.cells #[.string ⟨#[]⟩, .slice (some ⟨bn, 0, none⟩) 4 4, .slice (some ⟨bl, 0, none⟩) 1 1, .slice none 0 0, .slice none 0 0, .slice none 0 0, .slice none 0 0, .slice none 0 0, .slice none 0 0, .slice none 0 0] 32)) _⟩
  have BL : Aside0 (Blk ((w.alloc (.cells #[.string ⟨#[]⟩, .slice (some ⟨bn, 0, none⟩) 4 4, .slice (some ⟨bl, 0, none⟩) 1 1, .slice none 0 0, .slice none 0 0, .slice none 0 0, .slice none 0 0, .slice none 0 0, .slice none 0 0, .slice none 0 0] 32)).alloc (.cells #[.int .i64 1, .int .i64 0, .slice (some ⟨ln, 0, none⟩) 2 2, .int .i64 (-1), .int .i64 mx] 38)) (w.heap.size + 1) #[.int .i64 1, .int .i64 0, .slice (some ⟨ln, 0, none⟩) 2 2, .int .i64 (-1), .int .i64 mx] 38) := ⟨heap_alloc2_new w (.cells #[.string ⟨#[]⟩, .slice (some ⟨bn, 0, none⟩) 4 4, .slice (some ⟨bl, 0, none⟩) 1 1, .slice none 0 0, .slice none 0 0, .slice none 0 0, .slice none 0 0, .slice none 0 0, .slice none 0 0, .slice none 0 0] 32) (.cells #[.int .i64 1, .int .i64 0, .slice (some ⟨ln, 0, none⟩) 2 2, .int .i64 (-1), .int .i64 mx] 38)⟩
  have BR := Aside0.mk (blk_below HR.out hb0)
  clear hb0 HU HR
  generalize (w.alloc (.cells #[.string ⟨#[]⟩, .slice (some ⟨bn, 0, none⟩) 4 4, .slice (some ⟨bl, 0, none⟩) 1 1, .slice none 0 0, .slice none 0 0, .slice none 0 0, .slice none 0 0, .slice none 0 0, .slice none 0 0, .slice none 0 0] 32)).alloc (.cells #[.int .i64 1, .int .i64 0, .slice (some ⟨ln, 0, none⟩) 2 2, .int .i64 (-1), .int .i64 mx] 38) = W at HB HU1 BU BL BR ⊢
  obtain ⟨bu, HBU⟩ : ∃ b, Aside0 (b = w.heap.size) := ⟨_, ⟨rfl⟩⟩
  rw [← HBU.out] at BU BL ⊢
  clear HBU
  obtain ⟨hN, hL, h0, h1, h1', h2, hln, hln'⟩ := HU1.out.reads
  obtain ⟨lbn, lbl, ln0, ln1, ln2, lln⟩ := HU1.out.lts
  have hLc : ∀ i, W.cell? ⟨bu + 1, i, none⟩ = (#[.int .i64 1, .int .i64 0, .slice (some ⟨ln, 0, none⟩) 2 2, .int .i64 (-1), .int .i64 mx] : Array Value)[i]? := fun i => blk_cell BL.out i
  have hUc : ∀ i, W.cell? ⟨bu, i, none⟩ = (#[.string ⟨#[]⟩, .slice (some ⟨bn, 0, none⟩) 4 4, .slice (some ⟨bl, 0, none⟩) 1 1, .slice none 0 0, .slice none 0 0, .slice none 0 0, .slice none 0 0, .slice none 0 0, .slice none 0 0, .slice none 0 0] : Array Value)[i]? := fun i => blk_cell BU.out i
  have hRc : ∀ i, W.cell? ⟨B, i, none⟩ = (#[.bool true, .bool true, .bool true, .bool true] : Array Value)[i]? := fun i => blk_cell BR.out i
  have HLN : Aside0 (Blk W ln #[.int .i64 1, .int .i64 2] 3) := ⟨HU1.out.2.2.2.2.2⟩
  have HN0 : Aside0 (Blk W n0 #[.int .i64 1] 3) := ⟨HU1.out.2.2.1⟩
  have i0 : inL 0 = false := rfl
  have i1 : inL 1 = true := rfl
  have i2 : inL 2 = true := rfl
  have i3 : inL 3 = false := rfl
  have d0 : decide (mx < 0) = false := decide_eq_false (by omega)
  have d1 : decide (32 < mx) = false := decide_eq_false (by omega)
  go_quiet (first
    | (go_at_call 33; exact Calls.quiet_of_same (node_calls bn bl bu _ _ (blk_drewN BU.out _) (by omega) (by omega)))
    | (go_at_call 34; exact Calls.quiet_of (in_calls ln _ _ (blk_drewN HLN.out _) (by omega)))
    | (go_at_call 35; exact Calls.quiet_of (has_calls n0 _ (blk_drewN HN0.out _))))
  go_wp2_with fail
  clear hN hL h0 h1 h1' h2 hln hln' lbn lbl ln0 ln1 ln2 lln hLc hUc hRc d0 d1
  have hbd := pw_below_drewN (Below.refl W.heap.size W) nq
  replace HB := Aside0.mk (pw_below_drewN HB.out nq)
  replace HU1 := Aside0.mk (HU1.out.below hbd)
  replace BU := Aside0.mk (blk_drewN BU.out nq)
  replace BL := Aside0.mk (blk_drewN BL.out nq)
  replace BR := Aside0.mk (blk_drewN BR.out nq)
  replace HLN := Aside0.mk (blk_drewN HLN.out nq)
  clear hbd HN0
  generalize W.drewN nq = W2 at HB HU1 BU BL BR HLN ⊢
  obtain ⟨hN, hL, h0, h1, h1', h2, hln, hln'⟩ := HU1.out.reads
  obtain ⟨lbn, lbl, ln0, ln1, ln2, lln⟩ := HU1.out.lts
  have lbnA : ∀ k, bn < W2.heap.size + k := fun k => by omega
  have lbnB : ∀ k j, bn < W2.heap.size + k + j := fun k j => by omega
  have lblA : ∀ k, bl < W2.heap.size + k := fun k => by omega
  have lblB : ∀ k j, bl < W2.heap.size + k + j := fun k j => by omega
  have ln0A : ∀ k, n0 < W2.heap.size + k := fun k => by omega
  have ln0B : ∀ k j, n0 < W2.heap.size + k + j := fun k j => by omega
  have ln1A : ∀ k, n1 < W2.heap.size + k := fun k => by omega
  have ln1B : ∀ k j, n1 < W2.heap.size + k + j := fun k j => by omega
  have ln2A : ∀ k, n2 < W2.heap.size + k := fun k => by omega
  have ln2B : ∀ k j, n2 < W2.heap.size + k + j := fun k j => by omega
  have llnA : ∀ k, ln < W2.heap.size + k := fun k => by omega
  have llnB : ∀ k j, ln < W2.heap.size + k + j := fun k j => by omega
  have hLc : ∀ i, W2.cell? ⟨bu + 1, i, none⟩ = (#[.int .i64 1, .int .i64 0, .slice (some ⟨ln, 0, none⟩) 2 2, .int .i64 (-1), .int .i64 mx] : Array Value)[i]? := fun i => blk_cell BL.out i
  have hUc : ∀ i, W2.cell? ⟨bu, i, none⟩ = (#[.string ⟨#[]⟩, .slice (some ⟨bn, 0, none⟩) 4 4, .slice (some ⟨bl, 0, none⟩) 1 1, .slice none 0 0, .slice none 0 0, .slice none 0 0, .slice none 0 0, .slice none 0 0, .slice none 0 0, .slice none 0 0] : Array Value)[i]? := fun i => blk_cell BU.out i
  have hRc : ∀ i, W2.cell? ⟨B, i, none⟩ = (#[.bool true, .bool true, .bool true, .bool true] : Array Value)[i]? := fun i => blk_cell BR.out i
  have lB := blk_lt BR.out
  have lU := blk_lt BU.out
  have lL := blk_lt BL.out
  have lBA : ∀ k, B < W2.heap.size + k := fun k => by omega
  have lBB : ∀ k j, B < W2.heap.size + k + j := fun k j => by omega
  have lbuA : ∀ k, bu < W2.heap.size + k := fun k => by omega
  have lbuB : ∀ k j, bu < W2.heap.size + k + j := fun k j => by omega
  have lLA : ∀ k, bu + 1 < W2.heap.size + k := fun k => by omega
  have lLB : ∀ k j, bu + 1 < W2.heap.size + k + j := fun k j => by omega
  repeat (first | (rw [rounds_succ]; go_wp2_with (go_at_call 34; refine (in_calls ln _ _ (by (repeat (first | with_reducible exact HLN.out | refine blk_alloc ?_ _ | refine blk_drewN ?_ _ | refine blk_drew ?_))) (by omega)).mono ?_; rintro e wd ⟨rfl, nd, rfl⟩)) | (refine wp_loop_rounds 5 ?_; rw [rounds_succ]; go_wp2_with (go_at_call 34; refine (in_calls ln _ _ (by (repeat (first | with_reducible exact HLN.out | refine blk_alloc ?_ _ | refine blk_drewN ?_ _ | refine blk_drew ?_))) (by omega)).mono ?_; rintro e wd ⟨rfl, nd, rfl⟩)))
  go_ret
  exact ⟨rfl, by repeat (first | with_reducible exact HB.out | apply below_alloc | apply pw_below_drewN | apply below_drew1)⟩
end Go.Proofs.Ytbeochkimihglaa.PHl
