/- heaviest.Back over the edges of the unit. -/
import Derived.Test.YtbeochkimihglaaH3
import Derived.Outline
namespace Go.Proofs.Ytbeochkimihglaa.PHl
open Go.RowKit Go.Proofs.YtbeochkimihglaaW.PrintWords Go.Proofs.YtbeochkimihglaaW.PrintLast Go.Proofs.YtbeochkimihglaaW.PrintMore
set_option linter.unusedVariables false
set_option linter.unusedSimpArgs false
def backV (a b : Int) : Int := if b = 1 ∧ inL a = true then 0 else -1
set_option maxHeartbeats 8000000 in
set_option maxRecDepth 100000 in
theorem back_01 (bn bl n0 n1 n2 ln : Nat) (mx : Int) (w : World) (hU : UnitW w bn bl n0 n1 n2 ln mx) :
    Calls Try.prog 40 #[UV bn bl, .int .i64 0, .int .i64 1] w fun e w' => e = .returned (.int .i64 (-1)) ∧ Below w.heap.size w w' := by
  have hu32 := Try.underlying32
  have hu38 := Try.underlying38
  obtain ⟨hN, hL, h0, h1, h1', h2, hln, hln'⟩ := hU.reads
  obtain ⟨lbn, lbl, ln0, ln1, ln2, lln⟩ := hU.lts
  have lbnA : ∀ k, bn < w.heap.size + k := fun k => by omega
  have lbnB : ∀ k j, bn < w.heap.size + k + j := fun k j => by omega
  have lblA : ∀ k, bl < w.heap.size + k := fun k => by omega
  have lblB : ∀ k j, bl < w.heap.size + k + j := fun k j => by omega
  have ln0A : ∀ k, n0 < w.heap.size + k := fun k => by omega
  have ln0B : ∀ k j, n0 < w.heap.size + k + j := fun k j => by omega
  have ln1A : ∀ k, n1 < w.heap.size + k := fun k => by omega
  have ln1B : ∀ k j, n1 < w.heap.size + k + j := fun k j => by omega
  have ln2A : ∀ k, n2 < w.heap.size + k := fun k => by omega
  have ln2B : ∀ k j, n2 < w.heap.size + k + j := fun k j => by omega
  have llnA : ∀ k, ln < w.heap.size + k := fun k => by omega
  have llnB : ∀ k j, ln < w.heap.size + k + j := fun k j => by omega
  have HLN : Aside0 (Blk w ln #[.int .i64 1, .int .i64 2] 3) := ⟨hU.2.2.2.2.2⟩
  clear hU
  have i0 : inL 0 = false := rfl
  have i1 : inL 1 = true := rfl
  have i2 : inL 2 = true := rfl
  have i3 : inL 3 = false := rfl
  go_enter Try.func40, Try.ntmps40
  go_wp2_with (first | (go_at_call 34; refine (in_calls ln _ _ (by (repeat (first | with_reducible exact HLN.out | refine blk_alloc ?_ _ | refine blk_drewN ?_ _ | refine blk_drew ?_))) (by omega)).mono ?_; rintro e wd ⟨rfl, nd, rfl⟩) | go_in)
  repeat (first | (rw [rounds_succ]; go_wp2_with (first | (go_at_call 34; refine (in_calls ln _ _ (by (repeat (first | with_reducible exact HLN.out | refine blk_alloc ?_ _ | refine blk_drewN ?_ _ | refine blk_drew ?_))) (by omega)).mono ?_; rintro e wd ⟨rfl, nd, rfl⟩) | go_in)) | (refine wp_loop_rounds 6 ?_; rw [rounds_succ]; go_wp2_with (first | (go_at_call 34; refine (in_calls ln _ _ (by (repeat (first | with_reducible exact HLN.out | refine blk_alloc ?_ _ | refine blk_drewN ?_ _ | refine blk_drew ?_))) (by omega)).mono ?_; rintro e wd ⟨rfl, nd, rfl⟩) | go_in)))
  go_ret
  exact ⟨rfl, by repeat (first | with_reducible exact Below.refl _ _ | apply below_alloc | apply pw_below_drewN | apply below_drew1)⟩
set_option maxHeartbeats 8000000 in
set_option maxRecDepth 100000 in
theorem back_12 (bn bl n0 n1 n2 ln : Nat) (mx : Int) (w : World) (hU : UnitW w bn bl n0 n1 n2 ln mx) :
    Calls Try.prog 40 #[UV bn bl, .int .i64 1, .int .i64 2] w fun e w' => e = .returned (.int .i64 (-1)) ∧ Below w.heap.size w w' := by
  have hu32 := Try.underlying32
  have hu38 := Try.underlying38
  obtain ⟨hN, hL, h0, h1, h1', h2, hln, hln'⟩ := hU.reads
  obtain ⟨lbn, lbl, ln0, ln1, ln2, lln⟩ := hU.lts
  have lbnA : ∀ k, bn < w.heap.size + k := fun k => by omega
  have lbnB : ∀ k j, bn < w.heap.size + k + j := fun k j => by omega
  have lblA : ∀ k, bl < w.heap.size + k := fun k => by omega
  have lblB : ∀ k j, bl < w.heap.size + k + j := fun k j => by omega
  have ln0A : ∀ k, n0 < w.heap.size + k := fun k => by omega
  have ln0B : ∀ k j, n0 < w.heap.size + k + j := fun k j => by omega
  have ln1A : ∀ k, n1 < w.heap.size + k := fun k => by omega
  have ln1B : ∀ k j, n1 < w.heap.size + k + j := fun k j => by omega
  have ln2A : ∀ k, n2 < w.heap.size + k := fun k => by omega
  have ln2B : ∀ k j, n2 < w.heap.size + k + j := fun k j => by omega
  have llnA : ∀ k, ln < w.heap.size + k := fun k => by omega
  have llnB : ∀ k j, ln < w.heap.size + k + j := fun k j => by omega
  have HLN : Aside0 (Blk w ln #[.int .i64 1, .int .i64 2] 3) := ⟨hU.2.2.2.2.2⟩
  clear hU
  have i0 : inL 0 = false := rfl
  have i1 : inL 1 = true := rfl
  have i2 : inL 2 = true := rfl
  have i3 : inL 3 = false := rfl
  go_enter Try.func40, Try.ntmps40
  go_wp2_with (first | (go_at_call 34; refine (in_calls ln _ _ (by (repeat (first | with_reducible exact HLN.out | refine blk_alloc ?_ _ | refine blk_drewN ?_ _ | refine blk_drew ?_))) (by omega)).mono ?_; rintro e wd ⟨rfl, nd, rfl⟩) | go_in)
  repeat (first | (rw [rounds_succ]; go_wp2_with (first | (go_at_call 34; refine (in_calls ln _ _ (by (repeat (first | with_reducible exact HLN.out | refine blk_alloc ?_ _ | refine blk_drewN ?_ _ | refine blk_drew ?_))) (by omega)).mono ?_; rintro e wd ⟨rfl, nd, rfl⟩) | go_in)) | (refine wp_loop_rounds 6 ?_; rw [rounds_succ]; go_wp2_with (first | (go_at_call 34; refine (in_calls ln _ _ (by (repeat (first | with_reducible exact HLN.out | refine blk_alloc ?_ _ | refine blk_drewN ?_ _ | refine blk_drew ?_))) (by omega)).mono ?_; rintro e wd ⟨rfl, nd, rfl⟩) | go_in)))
  go_ret
  exact ⟨rfl, by repeat (first | with_reducible exact Below.refl _ _ | apply below_alloc | apply pw_below_drewN | apply below_drew1)⟩
set_option maxHeartbeats 8000000 in
set_option maxRecDepth 100000 in
theorem back_13 (bn bl n0 n1 n2 ln : Nat) (mx : Int) (w : World) (hU : UnitW w bn bl n0 n1 n2 ln mx) :
    Calls Try.prog 40 #[UV bn bl, .int .i64 1, .int .i64 3] w fun e w' => e = .returned (.int .i64 (-1)) ∧ Below w.heap.size w w' := by
  have hu32 := Try.underlying32
  have hu38 := Try.underlying38
  obtain ⟨hN, hL, h0, h1, h1', h2, hln, hln'⟩ := hU.reads
  obtain ⟨lbn, lbl, ln0, ln1, ln2, lln⟩ := hU.lts
  have lbnA : ∀ k, bn < w.heap.size + k := fun k => by omega
  have lbnB : ∀ k j, bn < w.heap.size + k + j := fun k j => by omega
  have lblA : ∀ k, bl < w.heap.size + k := fun k => by omega
  have lblB : ∀ k j, bl < w.heap.size + k + j := fun k j => by omega
  have ln0A : ∀ k, n0 < w.heap.size + k := fun k => by omega
  have ln0B : ∀ k j, n0 < w.heap.size + k + j := fun k j => by omega
  have ln1A : ∀ k, n1 < w.heap.size + k := fun k => by omega
  have ln1B : ∀ k j, n1 < w.heap.size + k + j := fun k j => by omega
  have ln2A : ∀ k, n2 < w.heap.size + k := fun k => by omega
  have ln2B : ∀ k j, n2 < w.heap.size + k + j := fun k j => by omega
  have llnA : ∀ k, ln < w.heap.size + k := fun k => by omega
  have llnB : ∀ k j, ln < w.heap.size + k + j := fun k j => by omega
  have HLN : Aside0 (Blk w ln #[.int .i64 1, .int .i64 2] 3) := ⟨hU.2.2.2.2.2⟩
  clear hU
  have i0 : inL 0 = false := rfl
  have i1 : inL 1 = true := rfl
  have i2 : inL 2 = true := rfl
  have i3 : inL 3 = false := rfl
  go_enter Try.func40, Try.ntmps40
  go_wp2_with (first | (go_at_call 34; refine (in_calls ln _ _ (by (repeat (first | with_reducible exact HLN.out | refine blk_alloc ?_ _ | refine blk_drewN ?_ _ | refine blk_drew ?_))) (by omega)).mono ?_; rintro e wd ⟨rfl, nd, rfl⟩) | go_in)
  repeat (first | (rw [rounds_succ]; go_wp2_with (first | (go_at_call 34; refine (in_calls ln _ _ (by (repeat (first | with_reducible exact HLN.out | refine blk_alloc ?_ _ | refine blk_drewN ?_ _ | refine blk_drew ?_))) (by omega)).mono ?_; rintro e wd ⟨rfl, nd, rfl⟩) | go_in)) | (refine wp_loop_rounds 6 ?_; rw [rounds_succ]; go_wp2_with (first | (go_at_call 34; refine (in_calls ln _ _ (by (repeat (first | with_reducible exact HLN.out | refine blk_alloc ?_ _ | refine blk_drewN ?_ _ | refine blk_drew ?_))) (by omega)).mono ?_; rintro e wd ⟨rfl, nd, rfl⟩) | go_in)))
  go_ret
  exact ⟨rfl, by repeat (first | with_reducible exact Below.refl _ _ | apply below_alloc | apply pw_below_drewN | apply below_drew1)⟩
set_option maxHeartbeats 8000000 in
set_option maxRecDepth 100000 in
theorem back_21 (bn bl n0 n1 n2 ln : Nat) (mx : Int) (w : World) (hU : UnitW w bn bl n0 n1 n2 ln mx) :
    Calls Try.prog 40 #[UV bn bl, .int .i64 2, .int .i64 1] w fun e w' => e = .returned (.int .i64 (0)) ∧ Below w.heap.size w w' := by
  have hu32 := Try.underlying32
  have hu38 := Try.underlying38
  obtain ⟨hN, hL, h0, h1, h1', h2, hln, hln'⟩ := hU.reads
  obtain ⟨lbn, lbl, ln0, ln1, ln2, lln⟩ := hU.lts
  have lbnA : ∀ k, bn < w.heap.size + k := fun k => by omega
  have lbnB : ∀ k j, bn < w.heap.size + k + j := fun k j => by omega
  have lblA : ∀ k, bl < w.heap.size + k := fun k => by omega
  have lblB : ∀ k j, bl < w.heap.size + k + j := fun k j => by omega
  have ln0A : ∀ k, n0 < w.heap.size + k := fun k => by omega
  have ln0B : ∀ k j, n0 < w.heap.size + k + j := fun k j => by omega
  have ln1A : ∀ k, n1 < w.heap.size + k := fun k => by omega
  have ln1B : ∀ k j, n1 < w.heap.size + k + j := fun k j => by omega
  have ln2A : ∀ k, n2 < w.heap.size + k := fun k => by omega
  have ln2B : ∀ k j, n2 < w.heap.size + k + j := fun k j => by omega
  have llnA : ∀ k, ln < w.heap.size + k := fun k => by omega
  have llnB : ∀ k j, ln < w.heap.size + k + j := fun k j => by omega
  have HLN : Aside0 (Blk w ln #[.int .i64 1, .int .i64 2] 3) := ⟨hU.2.2.2.2.2⟩
  clear hU
  have i0 : inL 0 = false := rfl
  have i1 : inL 1 = true := rfl
  have i2 : inL 2 = true := rfl
  have i3 : inL 3 = false := rfl
  go_enter Try.func40, Try.ntmps40
  go_wp2_with (first | (go_at_call 34; refine (in_calls ln _ _ (by (repeat (first | with_reducible exact HLN.out | refine blk_alloc ?_ _ | refine blk_drewN ?_ _ | refine blk_drew ?_))) (by omega)).mono ?_; rintro e wd ⟨rfl, nd, rfl⟩) | go_in)
  repeat (first | (rw [rounds_succ]; go_wp2_with (first | (go_at_call 34; refine (in_calls ln _ _ (by (repeat (first | with_reducible exact HLN.out | refine blk_alloc ?_ _ | refine blk_drewN ?_ _ | refine blk_drew ?_))) (by omega)).mono ?_; rintro e wd ⟨rfl, nd, rfl⟩) | go_in)) | (refine wp_loop_rounds 6 ?_; rw [rounds_succ]; go_wp2_with (first | (go_at_call 34; refine (in_calls ln _ _ (by (repeat (first | with_reducible exact HLN.out | refine blk_alloc ?_ _ | refine blk_drewN ?_ _ | refine blk_drew ?_))) (by omega)).mono ?_; rintro e wd ⟨rfl, nd, rfl⟩) | go_in)))
  go_ret
  exact ⟨rfl, by repeat (first | with_reducible exact Below.refl _ _ | apply below_alloc | apply pw_below_drewN | apply below_drew1)⟩
end Go.Proofs.Ytbeochkimihglaa.PHl
