-- printed by wip/tools/print2.sh (the kit's print, with given texts of this repo); not trusted: Lean checks it
import Derived.Test.YtcaanbicgpfonaaPPlx0
namespace Go.Proofs.Ytcaanbicgpfonaa.PPl
open Go.RowKit Go.Proofs.YtcaanbicgpfonaaW.PrintWords Go.Proofs.YtcaanbicgpfonaaW.PrintLast Go.Proofs.YtcaanbicgpfonaaW.PrintMore
attribute [local go_sem] max2_int min2_int max_two min_two max_three min_three max_four min_four   -- for this text's walks alone
set_option linter.unusedVariables false
set_option linter.unusedSimpArgs false

theorem entersF (g : Nat) {fn : Func} {c : Code} (hf : Try.prog.funcs[g]? = some fn) (hname : (fn.name == "runtime.NumGoroutine") = false) (hb : fn.body = some c) : ∀ args w, (callFunc g args).run Try.prog w = .ok (.enter g args) w := by
  intro args w
  have h1 : fn.name ≠ "runtime.NumGoroutine" := by simpa using hname
  simp [callFunc, hf, h1, hb, mark]

/-- Where the first element lies of which p holds; -1 if there is none. -/
def idxP {α : Type} (p : α → Bool) : List α → Int
  | [] => -1
  | x :: r => if p x = true then 0 else (if idxP p r < 0 then -1 else idxP p r + 1)
theorem idxP_ge {α : Type} (p : α → Bool) : ∀ xs : List α, -1 ≤ idxP p xs
  | [] => by simp [idxP]
  | x :: r => by
    have := idxP_ge p r
    unfold idxP
    split
    · omega
    · split <;> omega
theorem idxP_any {α : Type} (p : α → Bool) : ∀ xs : List α, decide (0 ≤ idxP p xs) = xs.any p
  | [] => by simp [idxP]
  | x :: r => by
    have h := idxP_any p r
    have h1 := idxP_ge p r
    unfold idxP
    rw [List.any_cons, ← h]
    cases hx : p x
    · simp only [Bool.false_eq_true, if_false, Bool.false_or]
      split
      · rw [decide_eq_false (by omega), decide_eq_false (by omega)]
      · rw [decide_eq_true (by omega), decide_eq_true (by omega)]
    · simp
theorem idxP_hit {α : Type} (p : α → Bool) (z : α) : ∀ (xs : List α) (k : Nat), k < xs.length → (∀ j, j < k → p (xs.getD j z) = false) → p (xs.getD k z) = true → idxP p xs = k
  | [], k, h, _, _ => by simp at h
  | x :: r, 0, _, _, h => by
    have h' : p x = true := by simpa using h
    simp [idxP, h']
  | x :: r, k + 1, hl, hn, h => by
    have hx : p x = false := by simpa using hn 0 (by omega)
    have ih := idxP_hit p z r k (by simpa using hl) (fun j hj => by simpa using hn (j + 1) (by omega)) (by simpa using h)
    unfold idxP
    rw [if_neg (by simp [hx]), ih, if_neg (by omega)]
    omega
theorem idxP_miss {α : Type} (p : α → Bool) (z : α) : ∀ (xs : List α), (∀ j, j < xs.length → p (xs.getD j z) = false) → idxP p xs = -1
  | [], _ => rfl
  | x :: r, hn => by
    have hx : p x = false := by simpa using hn 0 (by simp)
    have ih := idxP_miss p z r (fun j hj => by simpa using hn (j + 1) (by simpa using hj))
    unfold idxP
    rw [if_neg (by simp [hx]), ih, if_pos (by omega)]

set_option maxHeartbeats 2000000 in
theorem IndexFunc49.calls {P : S53 → Bool} (g : Nat) (lb : Array Value) (eg : ∀ args w, (callFunc g args).run Try.prog w = .ok (.enter g args) w) (A : Option Addr) (c : Nat) (xs : List S53) (w : World)
    (hr : Kd.C k53 w A xs.length xs) (hm : xs.length ≤ 9223372036854775807)
    (hp : ∀ (W : World) (x : S53), Below w.heap.size w W → Calls Try.prog g (#[.agg #[.int .i64 x.f0, .int .i64 x.f1]] ++ lb) W fun e w' => e = .returned (.bool (P x)) ∧ Below W.heap.size W w') :
    Calls Try.prog 49 #[.slice A xs.length c, .func (.func g) #[] lb] w fun e w' => e = .returned (.int .i64 (idxP P xs)) ∧ Below w.heap.size w w' := by
  have hu53 := Try.underlying53
  have HR := Aside0.mk hr
  have HP := Aside0.mk hp
  clear hr hp
  go_enter Try.func49, Try.ntmps49
  go_wp2
  go_loopg [5, 8] xs.length (fun gg _ s8 wr => ∃ kk : Nat, kk ≤ xs.length ∧ xs.length - kk ≤ gg ∧ s8 = .int .i64 kk ∧ Aside0 (Below w.heap.size w wr) ∧ Aside0 (∀ j, j < kk → P (xs.getD j z53) = false))
  case atStart => exact ⟨0, Nat.zero_le _, by omega, rfl, ⟨Below.refl _ w⟩, ⟨fun j hj => absurd hj (Nat.not_lt_zero _)⟩⟩
  case round =>
    obtain ⟨kk, hkk, hg, rfl, BW, AA⟩ := hrel
    by_cases hlt : kk < xs.length
    · have hltz : (kk : Int) < (xs.length : Int) := by omega
      obtain ⟨ad, rfl, hx0, hx1⟩ := at_T53 HR.out (kk : Int) (by omega) hltz
      replace hx0 := (BW.out.cell (World.block_lt_of_cell? w _ hx0)).trans hx0
      replace hx1 := (BW.out.cell (World.block_lt_of_cell? w _ hx1)).trans hx1
      have hcall := HP.out wr (rd_T53 xs kk) BW.out
      have hy : xs.getD kk z53 = rd_T53 xs kk := rfl
      simp only [Int.toNat_natCast] at hx0 hx1
      generalize rd_T53 xs kk = y at hx0 hx1 hcall hy
      have B : Aside0 (xs.getD kk z53 = y) := ⟨hy⟩
      clear hy
      have HC := Aside0.mk hcall
      clear hcall HP HR
      cases hq : P y with
      | true =>
        rw [hq] at HC
        go_wp2_with fail
        refine HC.out.mono ?_
        rintro e w' ⟨rfl, hb'⟩
        have HB' := Aside0.mk hb'
        clear HC hb'
        go_wp2_with fail
        go_ret
        exact ⟨by rw [idxP_hit P z53 xs kk hlt AA.out (by rw [B.out]; exact hq)]; rfl, below_step BW.out HB'.out⟩
      | false =>
        rw [hq] at HC
        go_wp2_with fail
        refine HC.out.mono ?_
        rintro e w' ⟨rfl, hb'⟩
        have HB' := Aside0.mk hb'
        clear HC hb'
        go_wp2_with fail
        go_roundg (xs.length - (kk + 1))
        case measure => omega
        case rel =>
          refine ⟨kk + 1, by omega, by omega, by go_num, ⟨below_step BW.out HB'.out⟩, ⟨fun j hj => ?_⟩⟩
          by_cases e : j = kk
          · subst e
            rw [B.out]; exact hq
          · exact AA.out j (by omega)
    · have hltz : ¬ (kk : Int) < (xs.length : Int) := by omega
      have : kk = xs.length := by omega
      subst this
      clear HP HR
      go_wp2
      go_ret
      exact ⟨by rw [idxP_miss P z53 xs AA.out]; rfl, BW.out⟩


end Go.Proofs.Ytcaanbicgpfonaa.PPl
