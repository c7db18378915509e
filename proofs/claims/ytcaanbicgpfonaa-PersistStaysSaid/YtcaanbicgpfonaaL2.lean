/- What the law PersistLines calls, in the form in which its walk meets it. -/
import Derived.Test.YtcaanbicgpfonaaL1
import Derived.Test.YtcaanbicgpfonaaPPlx3
import Derived.Test.YtcaanbicgpfonaaPPlx7
import Derived.OrdersHeld
namespace Go.Proofs.Ytcaanbicgpfonaa.PPl
open Go.RowKit Go.Proofs.YtcaanbicgpfonaaW.PrintWords Go.Proofs.YtcaanbicgpfonaaW.PrintLast Go.Proofs.YtcaanbicgpfonaaW.PrintMore
set_option linter.unusedVariables false
set_option linter.unusedSimpArgs false

theorem same_l0 (l : List Int) (hl : l.length ≤ 9223372036854775807) : ∀ (d t : Nat), t + d = l.length → ∃ k, timeboundref01_SameInts.l0 k l l t = some true
  | 0, t, h => ⟨1, by unfold timeboundref01_SameInts.l0; rw [if_neg (by omega)]⟩
  | d + 1, t, h => by
    obtain ⟨k, e⟩ := same_l0 l hl d (t + 1) (by omega)
    refine ⟨k + 1, ?_⟩
    unfold timeboundref01_SameInts.l0
    rw [if_pos (by omega), if_pos (by omega), if_pos (by omega), if_pos rfl, show wrap64 ((t : Int) + 1) = ((t + 1 : Nat) : Int) by unfold wrap64; omega]
    exact e
theorem same_self (l : List Int) (hl : l.length ≤ 9223372036854775807) : ∃ k, timeboundref01_SameInts.f k l l = some true := by
  obtain ⟨k, e⟩ := same_l0 l hl l.length 0 (by omega)
  refine ⟨k, ?_⟩
  unfold timeboundref01_SameInts.f
  rw [if_pos rfl]
  exact e
def frB (l15 l16 : List S53) (x : Int) (b : Bool) : Bool := if b = true then l16.any (inSpan x) else l15.any (inSpan x)
theorem FreeP_calls (a0_0 a0_1 a0_2 a0_3 a0_4 a0_5 a0_6 a0_7 a0_8 a0_9 a0_10 a0_11 a0_12 a0_13 a0_14 : Int) (A0_15 : Option Addr) (c0_15 : Nat) (l0_15 : List S53) (A0_16 : Option Addr) (c0_16 : Nat) (l0_16 : List S53) (a1 : Int) (a2 : Bool) (w : World) (hr0_15 : Kd.C k53 w A0_15 l0_15.length l0_15) (hc0_15 : l0_15.length ≤ c0_15) (hr0_16 : Kd.C k53 w A0_16 l0_16.length l0_16) (hc0_16 : l0_16.length ≤ c0_16) :
    Calls Try.prog 11 #[.agg #[.int .i64 a0_0, .int .i64 a0_1, .int .i64 a0_2, .int .i64 a0_3, .int .i64 a0_4, .int .i64 a0_5, .int .i64 a0_6, .int .i64 a0_7, .int .i64 a0_8, .int .i64 a0_9, .int .i64 a0_10, .int .i64 a0_11, .int .i64 a0_12, .int .i64 a0_13, .int .i64 a0_14, .slice A0_15 l0_15.length c0_15, .slice A0_16 l0_16.length c0_16], .int .i64 a1, .bool a2] w fun e w' => e = .returned (.bool (frB l0_15 l0_16 a1 a2)) ∧ Below w.heap.size w w' :=
  persist_Free.calls a0_0 a0_1 a0_2 a0_3 a0_4 a0_5 a0_6 a0_7 a0_8 a0_9 a0_10 a0_11 a0_12 a0_13 a0_14 A0_15 c0_15 l0_15 A0_16 c0_16 l0_16 a1 a2 _ w hr0_15 hc0_15 hr0_16 hc0_16 (by unfold persist_Free.f frB timing_Scratch.f; cases a2 <;> rfl)
theorem FreeR_calls (a0_0 a0_1 a0_2 a0_3 a0_4 a0_5 a0_6 a0_7 a0_8 a0_9 a0_10 a0_11 a0_12 a0_13 a0_14 : Int) (A0_15 : Option Addr) (c0_15 : Nat) (l0_15 : List S53) (A0_16 : Option Addr) (c0_16 : Nat) (l0_16 : List S53) (a1 : Int) (a2 : Bool) (w : World) (hr0_15 : Kd.C k53 w A0_15 l0_15.length l0_15) (hc0_15 : l0_15.length ≤ c0_15) (hr0_16 : Kd.C k53 w A0_16 l0_16.length l0_16) (hc0_16 : l0_16.length ≤ c0_16) :
    Calls Try.prog 12 #[.agg #[.int .i64 a0_0, .int .i64 a0_1, .int .i64 a0_2, .int .i64 a0_3, .int .i64 a0_4, .int .i64 a0_5, .int .i64 a0_6, .int .i64 a0_7, .int .i64 a0_8, .int .i64 a0_9, .int .i64 a0_10, .int .i64 a0_11, .int .i64 a0_12, .int .i64 a0_13, .int .i64 a0_14, .slice A0_15 l0_15.length c0_15, .slice A0_16 l0_16.length c0_16], .int .i64 a1, .bool a2] w fun e w' => e = .returned (.bool (frB l0_15 l0_16 a1 a2)) ∧ Below w.heap.size w w' := by
  obtain ⟨k, e⟩ := refFree_is a0_0 a0_1 a0_2 a0_3 a0_4 a0_5 a0_6 a0_7 a0_8 a0_9 a0_10 a0_11 a0_12 a0_13 a0_14 l0_15 l0_16 a1 a2 hr0_15.2.1 hr0_16.2.1
  exact timeboundref26_Free.calls k a0_0 a0_1 a0_2 a0_3 a0_4 a0_5 a0_6 a0_7 a0_8 a0_9 a0_10 a0_11 a0_12 a0_13 a0_14 A0_15 c0_15 l0_15 A0_16 c0_16 l0_16 a1 a2 _ w hr0_15 hc0_15 hr0_16 hc0_16 e

/-- What holds all through the law's last statement. -/
def HeldL (u1 : World) (b10 b11 : Nat) (CS CA : Array Value) (W : World) : Prop :=
  Below u1.heap.size u1 W ∧ W.heap[b10]? = some (.cells CS 29 (0, 0)) ∧ W.heap[b11]? = some (.cells CA 33 (0, 0))
theorem HeldL.step {u1 : World} {b10 b11 : Nat} {CS CA : Array Value} {W W' : World} (h : HeldL u1 b10 b11 CS CA W) (hb : Below W.heap.size W W') : HeldL u1 b10 b11 CS CA W' :=
  ⟨below_step h.1 hb, blk_below h.2.1 hb, blk_below h.2.2 hb⟩
theorem HeldL.drew {u1 : World} {b10 b11 : Nat} {CS CA : Array Value} {W : World} (h : HeldL u1 b10 b11 CS CA W) : HeldL u1 b10 b11 CS CA W.drew :=
  ⟨below_drew1 h.1, h.2.1, h.2.2⟩
/-- A whole struct is read out of a block, in every world that meets S. -/
theorem yields_row {fs} {ops : Array Oper} {S : World → Prop} {op : Oper} {a : Act} (hw : Region.wanted op (yielded ops a.tmps) = true) (ty : TypeId) (x : Operand) (ho : op.op = .load ty x)
    (b : Nat) (hx : a.eval x = .pointer (some ⟨b, 0, none⟩)) (t : TypeId) (cs : Array Value) (hS : ∀ w, S w → w.heap[b]? = some (.cells cs t (0, 0)))
    (hu : Try.prog.underlying ty = some (.struct fs)) (hi : (Try.prog.info? ty).map (·.size) = some cs.size) : YieldsIf Try.prog ops S op (.agg cs) a :=
  .inl ⟨hw, fun w hw' => by
    unfold execOp
    simp only [ho, hx, Instr.loadAt, Instr.sureAddr, Sem.run_bind, Sem.run_pure, Result.andThen_ok, run_loadVar_row w b t ty cs _ _ (hS w hw') hu rfl hi]⟩
end Go.Proofs.Ytcaanbicgpfonaa.PPl
