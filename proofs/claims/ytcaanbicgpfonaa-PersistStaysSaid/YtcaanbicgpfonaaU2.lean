/- timeboundref22.Use walked: it writes into one block. -/
import Derived.Test.YtcaanbicgpfonaaU1
import Derived.Test.YtcaanbicgpfonaaPPlx1
import Derived.Laws.Rows
import Derived.Deep.QuietTactic
import Derived.BigQuiet
namespace Go.Proofs.Ytcaanbicgpfonaa.PPl
open Go.RowKit Go.Proofs.YtcaanbicgpfonaaW.PrintWords Go.Proofs.YtcaanbicgpfonaaW.PrintLast Go.Proofs.YtcaanbicgpfonaaW.PrintMore
set_option linter.unusedVariables false
set_option linter.unusedSimpArgs false

theorem own_cell {W : World} {base g n cap : Nat} {xs : List Int} (h : W.ownsRow base 3 1 (.slice (some ⟨g, 0, none⟩) n cap) n (xs.map (Value.int .i64))) (j : Nat) (hj : j < xs.length) : W.cell? ⟨g, j, none⟩ = some (.int .i64 (xs.getD j 0)) := by
  have := h.cells (g := g) rfl j (.int .i64 (xs.getD j 0)) (by rw [List.getElem?_map, List.getD_eq_getElem?_getD, List.getElem?_eq_getElem hj]; rfl)
  rwa [add_plain] at this

theorem grown_trans {w W W2 : World} {r : Option Nat} (h : w.grownBy W r) (k : W.grownBy W2 r) : w.grownBy W2 r :=
  ⟨k.os.trans h.os, k.tape.trans h.tape, k.output.trans h.output, Nat.le_trans h.size k.size, fun i hi hr => (k.block i (Nat.lt_of_lt_of_le hi h.size) hr).trans (h.block i hi hr)⟩
theorem at_zero (xs : List Int) (n : Int) (h : 0 < xs.length) : Value.int IntKind.i64 ((xs.length : Int) - 1) = Value.int IntKind.i64 ((atL xs n 0 : Nat) : Int) := by
  have e : ((xs.length : Int) - 1) = ((atL xs n 0 : Nat) : Int) := by unfold atL; omega
  rw [e]
set_option maxHeartbeats 4000000 in
set_option maxRecDepth 100000 in
theorem Use_row (s y n : Int) (Ao : Addr) (no co g cap base : Nat) (xs : List Int) (addr : Int) (w : World)
    (hcell : w.cell? (Ao.add (addr / n % s).toNat) = some (.slice (some ⟨g, 0, none⟩) xs.length cap)) (hno : addr / n % s < (no : Int))
    (hown : w.ownsRow base 3 1 (.slice (some ⟨g, 0, none⟩) xs.length cap) xs.length (xs.map (Value.int .i64)))
    (hs1 : 1 ≤ s) (hs2 : s ≤ 8) (hn1 : 1 ≤ n) (hn2 : n ≤ 8) (ha0 : 0 ≤ addr) (ha1 : addr ≤ 100000) (hx0 : 0 < xs.length) (hx1 : xs.length ≤ 8) :
    Calls Try.prog 19 #[.agg #[.int .i64 s, .int .i64 y, .int .i64 n], .agg #[.slice (some Ao) no co], .int .i64 addr] w fun e w' =>
      e = .returned (.bool (hitL xs (addr / n) xs.length)) ∧ w'.ownsRow base 3 1 (.slice (some ⟨g, 0, none⟩) xs.length cap) xs.length ((useL xs (addr / n)).map (Value.int .i64)) ∧ w.grownBy w' (some g) := by
  have hq0 : 0 ≤ addr / n := Int.ediv_nonneg ha0 (by omega)
  have hq1 : addr / n ≤ addr := Int.ediv_le_self n ha0
  have hr0 : 0 ≤ addr / n % s := Int.emod_nonneg _ (by omega)
  have hr1 : addr / n % s < s := Int.emod_lt_of_pos _ (by omega)
  have hsne : (s == 0) = false := beq_eq_false_iff_ne.mpr (by omega)
  have hu26 := Try.underlying26
  have hu42 := Try.underlying42
  have HOWN := Aside0.mk hown
  have hlt : ∀ k, (Value.slice (some ⟨g, 0, none⟩) xs.length cap).ownBlock = some k → k < w.heap.size := fun k hk => (hown.lt k hk).2
  have hglt : g < w.heap.size := hlt g rfl
  have HCL := Aside0.mk hcell
  clear hown hlt hcell
  go_enter Try.func19, Try.ntmps19
  go_wp2_with fail
  have hb0 := below_alloc (below_alloc (Below.refl w.heap.size w) (.cells #[.int .i64 s, .int .i64 y, .int .i64 n] 26)) (.cells #[.slice (some Ao) no co] 42)
  have HG := Aside0.mk (grown_of_below hb0 (some g))
  have hc0 := blk_cell (blk_alloc (heap_alloc_new w (.cells #[.int .i64 s, .int .i64 y, .int .i64 n] 26)) (.cells #[.slice (some Ao) no co] 42)) 0
  have hc1 := blk_cell (heap_alloc2_new w (.cells #[.int .i64 s, .int .i64 y, .int .i64 n] 26) (.cells #[.slice (some Ao) no co] 42)) 0
  have hcc := (hb0.cell (World.block_lt_of_cell? w _ HCL.out)).trans HCL.out
  replace HOWN := Aside0.mk (pw_own_below HOWN.out hb0)
  clear hb0 HCL hsne
  generalize (w.alloc (.cells #[.int .i64 s, .int .i64 y, .int .i64 n] 26)).alloc (.cells #[.slice (some Ao) no co] 42) = W at HG hc0 hc1 hcc HOWN ⊢
  generalize w.heap.size = b0 at hc0 hc1 ⊢
  replace hc0 : W.cell? ⟨b0, 0, none⟩ = some (.int .i64 s) := hc0
  replace hc1 : W.cell? ⟨b0 + 1, 0, none⟩ = some (.slice (some Ao) no co) := hc1
  go_quiet (fail)
  go_wp2_with fail
  clear hcc hc0 hc1 hno hr0 hr1
  have HG1 : Aside0 (w.grownBy (W.drewN nq) (some g)) := ⟨⟨HG.out.os, HG.out.tape, HG.out.output, HG.out.size, HG.out.block⟩⟩
  replace HOWN : Aside0 ((W.drewN nq).ownsRow base 3 1 (.slice (some ⟨g, 0, none⟩) xs.length cap) xs.length (xs.map (Value.int .i64))) := ⟨HOWN.out⟩
  clear HG
  generalize W.drewN nq = W1 at HG1 HOWN ⊢
  go_loop [9, 10, 11] (fun a9 a10 a11 => ∃ k : Nat, k ≤ xs.length ∧ a11 = .int .i64 k ∧ a9 = .int .i64 (atL xs (addr / n) k : Nat) ∧ a10 = .bool (hitL xs (addr / n) k)) (fun _ _ a11 => xs.length - (intOf a11).toNat)
  case atStart => exact ⟨0, Nat.zero_le _, rfl, at_zero xs (addr / n) hx0, rfl⟩
  case round =>
    obtain ⟨k, hk, rfl, rfl, rfl⟩ := hrel
    by_cases hlt : k < xs.length
    · have hxk := own_cell HOWN.out k hlt
      have HAT : Aside0 (atL xs (addr / n) (k + 1) = if xs.getD k 0 = addr / n then k else atL xs (addr / n) k) := ⟨rfl⟩
      have HHT : Aside0 (hitL xs (addr / n) (k + 1) = if xs.getD k 0 = addr / n then true else hitL xs (addr / n) k) := ⟨rfl⟩
      generalize xs.getD k 0 = q at hxk HAT HHT
      by_cases hq : q = addr / n
      · have hqb : (q == addr / n) = true := beq_iff_eq.mpr hq
        have HQ := Aside0.mk hq
        clear hq
        go_wp2_with fail
        go_round
        case rel => exact ⟨k + 1, by omega, by go_num, by rw [HAT.out, if_pos HQ.out], by rw [HHT.out, if_pos HQ.out]⟩
        case measure => simp [intOf]; omega
      · have hqb : (q == addr / n) = false := beq_eq_false_iff_ne.mpr hq
        have HQ := Aside0.mk hq
        clear hq
        go_wp2_with fail
        go_round
        case rel => exact ⟨k + 1, by omega, by go_num, by rw [HAT.out, if_neg HQ.out], by rw [HHT.out, if_neg HQ.out]⟩
        case measure => simp [intOf]; omega
    · obtain rfl : k = xs.length := by omega
      clear hlt
      have ha := atL_lt xs (addr / n) hx0 xs.length (Nat.le_refl _)
      go_wp2_with fail
      go_loopg [12] (atL xs (addr / n) xs.length) (fun gg s12 wr => ∃ (k : Nat) (ys : List Int), k ≤ atL xs (addr / n) xs.length ∧ k ≤ gg ∧ s12 = .int .i64 k ∧ Aside0 (ShiftP xs (atL xs (addr / n) xs.length) k ys) ∧ Aside0 (wr.ownsRow base 3 1 (.slice (some ⟨g, 0, none⟩) xs.length cap) xs.length (ys.map (Value.int .i64))) ∧ Aside0 (w.grownBy wr (some g)))
      case atStart => exact ⟨_, xs, Nat.le_refl _, Nat.le_refl _, rfl, ⟨shift_start _ _⟩, HOWN, HG1⟩
      case round =>
        clear HOWN HG1
        obtain ⟨k, ys, hka, hkg, rfl, HS, HOWN, HG⟩ := hrel
        have hyl : ys.length = xs.length := HS.out.1
        cases k with
        | zero =>
          have hc0 := own_cell HOWN.out 0 (by omega)
          have hf0 := HOWN.out.frozenAt 0
          have HYL := Aside0.mk hyl
          clear hyl
          go_wp2_with fail
          go_ret
          refine ⟨rfl, ?_, grown_trans HG.out (HOWN.out.stored 0 (.int .i64 (addr / n))).2⟩
          have h1 := (HOWN.out.stored 0 (.int .i64 (addr / n))).1
          rw [← List.map_set, shift_end HS.out hx0] at h1
          exact h1
        | succ m =>
          have hc0 := own_cell HOWN.out m (by omega)
          have hc1 := own_cell HOWN.out (m + 1) (by omega)
          have hf1 := HOWN.out.frozenAt (m + 1)
          have HN := Aside0.mk (shift_round HS.out ha hka)
          have HO := Aside0.mk (HOWN.out.stored (m + 1) (.int .i64 (ys.getD m 0)))
          have HYL := Aside0.mk hyl
          clear hyl HOWN
          generalize ys.getD m 0 = q at hc0 HN HO
          go_wp2_with fail
          go_roundg m
          case measure => omega
          case rel =>
            exact ⟨m, ys.set (m + 1) q, by omega, by omega, by go_num, HN, ⟨by rw [List.map_set]; exact HO.out.1⟩, ⟨grown_trans HG.out HO.out.2⟩⟩
end Go.Proofs.Ytcaanbicgpfonaa.PPl
