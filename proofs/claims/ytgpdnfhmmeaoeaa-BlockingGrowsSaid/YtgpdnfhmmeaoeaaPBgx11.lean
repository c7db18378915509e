-- printed by wip/tools/print2.sh (the kit's print, with given texts of this repo); not trusted: Lean checks it
import Derived.Test.YtgpdnfhmmeaoeaaPBgx0
import Derived.Test.YtgpdnfhmmeaoeaaPBgx4
import Derived.Test.YtgpdnfhmmeaoeaaPBgx5
import Derived.Test.YtgpdnfhmmeaoeaaPBgx8
import Derived.Test.YtgpdnfhmmeaoeaaPBgx9
import Derived.Test.YtgpdnfhmmeaoeaaPBgx10
namespace Go.Proofs.Ytgpdnfhmmeaoeaa.PBg
open Go.RowKit Go.Proofs.YtgpdnfhmmeaoeaaW.PrintWords Go.Proofs.YtgpdnfhmmeaoeaaW.PrintLast Go.Proofs.YtgpdnfhmmeaoeaaW.PrintMore
attribute [local go_sem] max2_int min2_int max_two min_two max_three min_three max_four min_four   -- for this text's walks alone
set_option linter.unusedVariables false
set_option linter.unusedSimpArgs false

set_option maxHeartbeats 2000000 in
set_option maxRecDepth 100000 in
theorem timeboundlaw40_awake.calls0 (w : World) :
    Calls Try.prog 14 #[] w fun e w' => e = .returned (.bool true) ∧ Below w.heap.size w w' := by
  have hu48 := Try.underlying48
  go_enter Try.func14, Try.ntmps14
  go_wp2_with fail
  refine (pair.calls w).mono ?_
  rintro e w1 ⟨A, rfl, hC, hb⟩
  have HC1 := Aside0.mk hC
  have HB1 := Aside0.mk hb
  clear hC hb
  go_wp2_with fail
  refine (blocking_Ceiling.calls A 2 pairL 0 0 true w1 HC1.out (by decide) (by decide +kernel)).mono ?_
  rintro e w2 ⟨rfl, hb⟩
  have HC2 := Aside0.mk (Kd.C_below HC1.out hb)
  have HB2 := Aside0.mk (below_step HB1.out hb)
  clear hb HC1 HB1
  go_wp2_with fail
  refine (blocking_Valid.calls A 2 pairL true w2 HC2.out (by decide) (by decide +kernel)).mono ?_
  rintro e w3 ⟨rfl, hb⟩
  have HC3 := Aside0.mk (Kd.C_below HC2.out hb)
  have HB3 := Aside0.mk (below_step HB2.out hb)
  clear hb HC2 HB2
  go_wp2_with fail
  refine (blocking_Blocking.calls 20 A 2 pairL 0 21 50 w3 HC3.out (by decide) (by decide +kernel)).mono ?_
  rintro e w4 ⟨rfl, hb⟩
  have HC4 := Aside0.mk (Kd.C_below HC3.out hb)
  have HB4 := Aside0.mk (below_step HB3.out hb)
  clear hb HC3 HB3
  go_wp2_with fail
  refine (blocking_Blocking.calls 20 A 2 pairL 1 21 0 w4 HC4.out (by decide) (by decide +kernel)).mono ?_
  rintro e w5 ⟨rfl, hb⟩
  have HC5 := Aside0.mk (Kd.C_below HC4.out hb)
  have HB5 := Aside0.mk (below_step HB4.out hb)
  clear hb HC4 HB4
  go_wp2_with fail
  refine (blocking_Before.calls A 2 pairL 0 1 true w5 HC5.out (by decide) (by decide +kernel)).mono ?_
  rintro e w6 ⟨rfl, hd⟩
  have HB6 := Aside0.mk (below_step HB5.out hd.below)
  clear hd HC5 HB5
  go_wp2_with fail
  go_ret
  exact ⟨rfl, HB6.out⟩

def timeboundlaw40_awake.f : Option Bool := some true
theorem timeboundlaw40_awake.calls (r : Bool) (w : World) (h : timeboundlaw40_awake.f = some r) :
    Calls Try.prog 14 #[] w fun e w' => e = .returned (.bool r) ∧ Below w.heap.size w w' := by
  obtain rfl := Option.some.inj h
  exact timeboundlaw40_awake.calls0 w

end Go.Proofs.Ytgpdnfhmmeaoeaa.PBg
