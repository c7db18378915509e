-- printed by wip/tools/print2.sh (the kit's print, with given texts of this repo); not trusted: Lean checks it
import Derived.Test.YtgpdnfhmmeaoeaaPBtx0
import Derived.Test.YtgpdnfhmmeaoeaaPBtx2
import Derived.Test.YtgpdnfhmmeaoeaaPBtx6
namespace Go.Proofs.Ytgpdnfhmmeaoeaa.PBt
open Go.RowKit Go.Proofs.YtgpdnfhmmeaoeaaW.PrintWords Go.Proofs.YtgpdnfhmmeaoeaaW.PrintLast Go.Proofs.YtgpdnfhmmeaoeaaW.PrintMore
attribute [local go_sem] max2_int min2_int max_two min_two max_three min_three max_four min_four   -- for this text's walks alone
set_option linter.unusedVariables false
set_option linter.unusedSimpArgs false

theorem ContainsFunc32.calls {P : S48 → Bool} (g : Nat) (lb : Array Value) (eg : ∀ args w, (callFunc g args).run Try.prog w = .ok (.enter g args) w) (A : Option Addr) (c : Nat) (xs : List S48) (w : World)
    (hr : Kd.C k48 w A xs.length xs) (hm : xs.length ≤ 9223372036854775807)
    (hp : ∀ (W : World) (x : S48) (A5 : Option Addr) (c5 : Nat), Below w.heap.size w W → x.f5.length ≤ c5 → k50.C W A5 x.f5.length x.f5 → Calls Try.prog g (#[.agg #[.int .i64 x.f0, .int .i64 x.f1, .int .i64 x.f2, .int .i64 x.f3, .int .i64 x.f4, .slice A5 x.f5.length c5, .int .i64 x.f6]] ++ lb) W fun e w' => e = .returned (.bool (P x)) ∧ Below W.heap.size W w') :
    Calls Try.prog 32 #[.slice A xs.length c, .func (.func g) #[] lb] w fun e w' => e = .returned (.bool (xs.any P)) ∧ Below w.heap.size w w' := by
  have HC := Aside0.mk (IndexFunc42.calls g lb eg A c xs w hr hm hp)
  have ha := idxP_any P xs
  clear hr hp
  generalize idxP P xs = q at HC ha
  have HA := Aside0.mk ha
  clear ha
  go_enter Try.func32, Try.ntmps32
  go_wp2_with fail
  refine HC.out.mono ?_
  rintro e w' ⟨rfl, hb'⟩
  have HB' := Aside0.mk hb'
  clear HC hb'
  go_wp2_with fail
  go_ret
  exact ⟨by rw [← HA.out]; rfl, HB'.out⟩

end Go.Proofs.Ytgpdnfhmmeaoeaa.PBt
