-- printed by wip/tools/print2.sh (the kit's print, with given texts of this repo); not trusted: Lean checks it
import Derived.Test.YtgpdnfhmmeaoeaaPEax0
import Derived.Test.YtgpdnfhmmeaoeaaPEax2
namespace Go.Proofs.Ytgpdnfhmmeaoeaa.PEa
open Go.RowKit Go.Proofs.YtgpdnfhmmeaoeaaW.PrintWords Go.Proofs.YtgpdnfhmmeaoeaaW.PrintLast Go.Proofs.YtgpdnfhmmeaoeaaW.PrintMore
attribute [local go_sem] max2_int min2_int max_two min_two max_three min_three max_four min_four   -- for this text's walks alone
set_option linter.unusedVariables false
set_option linter.unusedSimpArgs false

theorem ContainsFunc28.calls {P : List (List Int) → Bool} (g : Nat) (lb : Array Value) (eg : ∀ args w, (callFunc g args).run Try.prog w = .ok (.enter g args) w) (A : Option Addr) (c : Nat) (xs : List (List (List Int))) (w : World)
    (hr : Kd.C (Kd.slice 22 (Kd.slice 3 (Kd.int .i64))) w A xs.length xs) (hm : xs.length ≤ 9223372036854775807)
    (hp : ∀ (W : World) (A1 : Option Addr) (c1 : Nat) (x : List (List Int)), Below w.heap.size w W → Kd.C (Kd.slice 3 (Kd.int .i64)) W A1 x.length x → x.length ≤ c1 → Calls Try.prog g (#[.slice A1 x.length c1] ++ lb) W fun e w' => e = .returned (.bool (P x)) ∧ Below W.heap.size W w') :
    Calls Try.prog 28 #[.slice A xs.length c, .func (.func g) #[] lb] w fun e w' => e = .returned (.bool (xs.any P)) ∧ Below w.heap.size w w' := by
  have HC := Aside0.mk (IndexFunc41.calls g lb eg A c xs w hr hm hp)
  have ha := idxP_any P xs
  clear hr hp
  generalize idxP P xs = q at HC ha
  have HA := Aside0.mk ha
  clear ha
  go_enter Try.func28, Try.ntmps28
  go_wp2_with fail
  refine HC.out.mono ?_
  rintro e w' ⟨rfl, hb'⟩
  have HB' := Aside0.mk hb'
  clear HC hb'
  go_wp2_with fail
  go_ret
  exact ⟨by rw [← HA.out]; rfl, HB'.out⟩


end Go.Proofs.Ytgpdnfhmmeaoeaa.PEa
