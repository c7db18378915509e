/- costs.Valid over the unit. -/
import Derived.Test.YtbeochkimihglaaH8
import Derived.Outline
namespace Go.Proofs.Ytbeochkimihglaa.PHl
open Go.RowKit Go.Proofs.YtbeochkimihglaaW.PrintWords Go.Proofs.YtbeochkimihglaaW.PrintLast Go.Proofs.YtbeochkimihglaaW.PrintMore
set_option linter.unusedVariables false
set_option linter.unusedSimpArgs false
set_option maxHeartbeats 8000000 in
set_option maxRecDepth 100000 in
theorem odd_calls (v : Int) (w : World) (h0 : 0 ≤ v) (h1 : v ≤ 255) :
    Calls Try.prog 43 #[.int .i64 v] w fun e w' => e = .returned (.bool false) ∧ w' = w := by
  have d0 : decide (v < 0) = false := decide_eq_false (by omega)
  have d1 : decide (16777216 < v) = false := decide_eq_false (by omega)
  clear h0 h1
  go_enter Try.func43, Try.ntmps43
  go_wp2_with fail
  go_ret
  exact ⟨rfl, rfl⟩
set_option maxHeartbeats 8000000 in
set_option maxRecDepth 100000 in
theorem all1_calls (kk : Nat) (a : Int) (w : World) (h : Blk w kk #[.int .i64 a] 3) (ga : 0 ≤ a) (ga' : a ≤ 255) :
    Calls Try.prog 14 #[.slice (some ⟨kk, 0, none⟩) 1 1, .func (.func 43) #[] #[]] w fun e w' => e = .returned (.bool false) ∧ Below w.heap.size w w' := by
  have r0 : w.cell? ⟨kk, 0, none⟩ = some (.int .i64 a) := blk_cell h 0
  have H := Aside0.mk h
  clear h
  go_enter Try.func14, Try.ntmps14
  go_wp2_with (go_at_call 31; go_in)
  refine wp_loop_rounds 5 ?_
  rw [rounds_succ]
  go_wp2_with fail
  refine (odd_calls a _ ga ga').mono ?_
  rintro e _ ⟨rfl, rfl⟩
  go_wp2_with fail
  rw [rounds_succ]
  go_wp2_with fail
  go_ret
  exact ⟨rfl, Below.refl _ _⟩
set_option maxHeartbeats 8000000 in
set_option maxRecDepth 100000 in
theorem all2_calls (kk : Nat) (a b : Int) (w : World) (h : Blk w kk #[.int .i64 a, .int .i64 b] 3) (ga : 0 ≤ a) (ga' : a ≤ 255) (gb : 0 ≤ b) (gb' : b ≤ 255) :
    Calls Try.prog 14 #[.slice (some ⟨kk, 0, none⟩) 2 2, .func (.func 43) #[] #[]] w fun e w' => e = .returned (.bool false) ∧ Below w.heap.size w w' := by
  have r0 : w.cell? ⟨kk, 0, none⟩ = some (.int .i64 a) := blk_cell h 0
  have r1 : w.cell? ⟨kk, 1, none⟩ = some (.int .i64 b) := blk_cell h 1
  have H := Aside0.mk h
  clear h
  go_enter Try.func14, Try.ntmps14
  go_wp2_with (go_at_call 31; go_in)
  refine wp_loop_rounds 5 ?_
  rw [rounds_succ]
  go_wp2_with fail
  refine (odd_calls a _ ga ga').mono ?_
  rintro e _ ⟨rfl, rfl⟩
  go_wp2_with fail
  rw [rounds_succ]
  go_wp2_with fail
  refine (odd_calls b _ gb gb').mono ?_
  rintro e _ ⟨rfl, rfl⟩
  go_wp2_with fail
  rw [rounds_succ]
  go_wp2_with fail
  go_ret
  exact ⟨rfl, Below.refl _ _⟩
end Go.Proofs.Ytbeochkimihglaa.PHl
