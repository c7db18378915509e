/- The unit of the example of chapter 30, in memory. -/
import Derived.Test.YtbeochkimihglaaProg
import Derived.Test.YtbeochkimihglaaWInv
import Derived.Test.YtbeochkimihglaaWGuard
import Derived.Test.YtbeochkimihglaaWMore
import Derived.Test.YtbeochkimihglaaWRepsOne
import Derived.BigQuiet
import Derived.BigRegion
import Derived.Deep.QuietTactic
import Derived.Deep.DeepCutAuto
import Derived.Deep.RegionHeld3
import Derived.IntWalk
import Derived.Laws.Tables
namespace Go.Proofs.Ytbeochkimihglaa.PHl
open Go.RowKit Go.Proofs.YtbeochkimihglaaW.PrintWords Go.Proofs.YtbeochkimihglaaW.PrintLast Go.Proofs.YtbeochkimihglaaW.PrintMore
set_option linter.unusedVariables false
set_option linter.unusedSimpArgs false

/-- A block of cells. -/
abbrev Blk (W : World) (b : Nat) (cs : Array Value) (t : TypeId) : Prop := W.heap[b]? = some (.cells cs t (0, 0))
def nodesC (n0 n1 n2 : Nat) : Array Value := #[.int .i64 0, .int .i64 0, .slice (some ⟨n0, 0, none⟩) 1 1, .slice none 0 0, .int .i64 0, .int .i64 0, .slice (some ⟨n1, 0, none⟩) 2 2, .slice none 0 0,
  .int .i64 0, .int .i64 0, .slice (some ⟨n2, 0, none⟩) 1 1, .slice none 0 0, .int .i64 0, .int .i64 0, .slice none 0 0, .slice none 0 0]
def loopC (ln : Nat) (mx : Int) : Array Value := #[.int .i64 1, .int .i64 0, .slice (some ⟨ln, 0, none⟩) 2 2, .int .i64 (-1), .int .i64 mx]
def UnitW (W : World) (bn bl n0 n1 n2 ln : Nat) (mx : Int) : Prop :=
  Blk W bn (nodesC n0 n1 n2) 46 ∧ Blk W bl (loopC ln mx) 38 ∧ Blk W n0 #[.int .i64 1] 3 ∧ Blk W n1 #[.int .i64 2, .int .i64 3] 3 ∧ Blk W n2 #[.int .i64 1] 3 ∧ Blk W ln #[.int .i64 1, .int .i64 2] 3
abbrev UV (bn bl : Nat) : Value := .agg #[.string ⟨#[]⟩, .slice (some ⟨bn, 0, none⟩) 4 4, .slice (some ⟨bl, 0, none⟩) 1 1, .slice none 0 0, .slice none 0 0, .slice none 0 0, .slice none 0 0, .slice none 0 0, .slice none 0 0, .slice none 0 0]
theorem UnitW.below {W W' : World} {bn bl n0 n1 n2 ln : Nat} {mx : Int} (h : UnitW W bn bl n0 n1 n2 ln mx) (hb : Below W.heap.size W W') : UnitW W' bn bl n0 n1 n2 ln mx :=
  ⟨blk_below h.1 hb, blk_below h.2.1 hb, blk_below h.2.2.1 hb, blk_below h.2.2.2.1 hb, blk_below h.2.2.2.2.1 hb, blk_below h.2.2.2.2.2 hb⟩
theorem UnitW.base {W W' : World} {N bn bl n0 n1 n2 ln : Nat} {mx : Int} (h : UnitW W bn bl n0 n1 n2 ln mx) (hb : Below N W W') (h0 : bn < N ∧ bl < N ∧ n0 < N ∧ n1 < N ∧ n2 < N ∧ ln < N) : UnitW W' bn bl n0 n1 n2 ln mx :=
  ⟨(hb.block _ h0.1).trans h.1, (hb.block _ h0.2.1).trans h.2.1, (hb.block _ h0.2.2.1).trans h.2.2.1, (hb.block _ h0.2.2.2.1).trans h.2.2.2.1, (hb.block _ h0.2.2.2.2.1).trans h.2.2.2.2.1, (hb.block _ h0.2.2.2.2.2).trans h.2.2.2.2.2⟩
theorem UnitW.lts {W : World} {bn bl n0 n1 n2 ln : Nat} {mx : Int} (h : UnitW W bn bl n0 n1 n2 ln mx) : bn < W.heap.size ∧ bl < W.heap.size ∧ n0 < W.heap.size ∧ n1 < W.heap.size ∧ n2 < W.heap.size ∧ ln < W.heap.size :=
  ⟨blk_lt h.1, blk_lt h.2.1, blk_lt h.2.2.1, blk_lt h.2.2.2.1, blk_lt h.2.2.2.2.1, blk_lt h.2.2.2.2.2⟩
/-- What is read of the unit. -/
theorem UnitW.reads {W : World} {bn bl n0 n1 n2 ln : Nat} {mx : Int} (h : UnitW W bn bl n0 n1 n2 ln mx) :
    (∀ i, W.cell? ⟨bn, i, none⟩ = (#[.int .i64 0, .int .i64 0, .slice (some ⟨n0, 0, none⟩) 1 1, .slice none 0 0, .int .i64 0, .int .i64 0, .slice (some ⟨n1, 0, none⟩) 2 2, .slice none 0 0,
      .int .i64 0, .int .i64 0, .slice (some ⟨n2, 0, none⟩) 1 1, .slice none 0 0, .int .i64 0, .int .i64 0, .slice none 0 0, .slice none 0 0] : Array Value)[i]?) ∧
    (∀ i, W.cell? ⟨bl, i, none⟩ = (#[.int .i64 1, .int .i64 0, .slice (some ⟨ln, 0, none⟩) 2 2, .int .i64 (-1), .int .i64 mx] : Array Value)[i]?) ∧
    W.cell? ⟨n0, 0, none⟩ = some (.int .i64 1) ∧ W.cell? ⟨n1, 0, none⟩ = some (.int .i64 2) ∧ W.cell? ⟨n1, 1, none⟩ = some (.int .i64 3) ∧ W.cell? ⟨n2, 0, none⟩ = some (.int .i64 1) ∧
    W.cell? ⟨ln, 0, none⟩ = some (.int .i64 1) ∧ W.cell? ⟨ln, 1, none⟩ = some (.int .i64 2) :=
  ⟨fun i => blk_cell h.1 i, fun i => blk_cell h.2.1 i, blk_cell h.2.2.1 0, blk_cell h.2.2.2.1 0, blk_cell h.2.2.2.1 1, blk_cell h.2.2.2.2.1 0, blk_cell h.2.2.2.2.2 0, blk_cell h.2.2.2.2.2 1⟩
theorem info3 : (Try.prog.info? 3).map (fun i => (i.zero, i.size, i.bytes)) = some (some (.int .i64 0), 1, 8) := by kernel_rfl
/-- A queue's head and tail. -/
theorem q_tail {W : World} {base g o n c : Nat} {x : Int} {r : List Int} (h : Kd.Q (Kd.int .i64) 3 W base (fun _ => True) (.slice (some ⟨g, o, none⟩) (n + 1) c) (x :: r)) :
    W.cell? ⟨g, o, none⟩ = some (.int .i64 x) ∧ n + 1 ≤ c ∧ (c = 1 → Kd.Q (Kd.int .i64) 3 W base (fun _ => True) (.slice (some ⟨g, o, none⟩) n 0) r) ∧ (c ≠ 1 → Kd.Q (Kd.int .i64) 3 W base (fun _ => True) (.slice (some ⟨g, o + 1, none⟩) n (c - 1)) r) := by
  have h1 := Kd.Q_drop h (k := 1) (by simp)
  have h2 := Kd.Q_cell (0 : Int) h 0 (by omega) (by omega)
  refine ⟨by simpa [rdOf] using h2.1, (Kd.Q_reads' h).2.1, fun e => ?_, fun e => ?_⟩
  · subst e
    simpa using h1
  · rw [if_neg e] at h1
    simpa [Addr.add, Kd.int, Kd.scalar] using h1
def bfsOut : Nat → Array Value
  | 0 => #[.bool true, .bool false, .bool false, .bool false]
  | 1 => #[.bool true, .bool true, .bool false, .bool false]
  | _ => #[.bool true, .bool true, .bool true, .bool true]
def bfsTodo : Nat → List Int
  | 0 => [0]
  | 1 => [1]
  | 2 => [2, 3]
  | 3 => [3]
  | _ => []
end Go.Proofs.Ytbeochkimihglaa.PHl
