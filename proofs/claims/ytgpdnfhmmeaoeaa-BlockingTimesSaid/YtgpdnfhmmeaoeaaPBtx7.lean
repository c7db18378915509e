-- printed by wip/tools/print2.sh (the kit's print, with given texts of this repo); not trusted: Lean checks it
import Derived.Test.YtgpdnfhmmeaoeaaPBtx0
import Derived.Test.YtgpdnfhmmeaoeaaPBtx6
namespace Go.Proofs.Ytgpdnfhmmeaoeaa.PBt
open Go.RowKit Go.Proofs.YtgpdnfhmmeaoeaaW.PrintWords Go.Proofs.YtgpdnfhmmeaoeaaW.PrintLast Go.Proofs.YtgpdnfhmmeaoeaaW.PrintMore
attribute [local go_sem] max2_int min2_int max_two min_two max_three min_three max_four min_four   -- for this text's walks alone
set_option linter.unusedVariables false
set_option linter.unusedSimpArgs false

theorem ContainsFunc35.calls {P : S50 → Bool} (g : Nat) (lb : Array Value) (eg : ∀ args w, (callFunc g args).run Try.prog w = .ok (.enter g args) w) (A : Option Addr) (c : Nat) (xs : List S50) (w : World)
    (hr : Kd.C k50 w A xs.length xs) (hm : xs.length ≤ 9223372036854775807)
    (hp : ∀ (W : World) (x : S50), Below w.heap.size w W → Calls Try.prog g (#[.agg #[.int .i64 x.f0, .int .i64 x.f1]] ++ lb) W fun e w' => e = .returned (.bool (P x)) ∧ Below W.heap.size W w') :
    Calls Try.prog 35 #[.slice A xs.length c, .func (.func g) #[] lb] w fun e w' => e = .returned (.bool (xs.any P)) ∧ Below w.heap.size w w' := by
  have HC := Aside0.mk (IndexFunc43.calls g lb eg A c xs w hr hm hp)
  have ha := idxP_any P xs
  clear hr hp
  generalize idxP P xs = q at HC ha
  have HA := Aside0.mk ha
  clear ha
  go_enter Try.func35, Try.ntmps35
  go_wp2_with fail
  refine HC.out.mono ?_
  rintro e w' ⟨rfl, hb'⟩
  have HB' := Aside0.mk hb'
  clear HC hb'
  go_wp2_with fail
  go_ret
  exact ⟨by rw [← HA.out]; rfl, HB'.out⟩


end Go.Proofs.Ytgpdnfhmmeaoeaa.PBt
