/- heaviest.Reached over the unit: all its nodes. -/
import Derived.Test.YtbeochkimihglaaH0
import Derived.Outline
namespace Go.Proofs.Ytbeochkimihglaa.PHl
open Go.RowKit Go.Proofs.YtbeochkimihglaaW.PrintWords Go.Proofs.YtbeochkimihglaaW.PrintLast Go.Proofs.YtbeochkimihglaaW.PrintMore
set_option linter.unusedVariables false
set_option linter.unusedSimpArgs false

def unitC (bn bl : Nat) : Array Value := #[.string ⟨#[]⟩, .slice (some ⟨bn, 0, none⟩) 4 4, .slice (some ⟨bl, 0, none⟩) 1 1, .slice none 0 0, .slice none 0 0, .slice none 0 0, .slice none 0 0, .slice none 0 0, .slice none 0 0, .slice none 0 0]
def BfsSt (w : World) (bn bl n0 n1 n2 ln : Nat) (mx : Int) (bu bo : Nat) (st : Nat) (v : Value) (wr : World) : Prop :=
  Kd.Q (Kd.int .i64) 3 wr w.heap.size (fun _ => True) v (bfsTodo st) ∧ Blk wr bo (bfsOut st) 4 ∧ Blk wr bu (unitC bn bl) 32 ∧ UnitW wr bn bl n0 n1 n2 ln mx ∧ Below w.heap.size w wr
/-- A search under way: what is out, and what is to be done. -/
def BSt (w : World) (bn bl n0 n1 n2 ln : Nat) (mx : Int) (bu bo : Nat) (v : Value) (xs : List Int) (outs : Array Value) (W : World) : Prop :=
  Kd.Q (Kd.int .i64) 3 W w.heap.size (fun _ => True) v xs ∧ Blk W bo outs 4 ∧ Blk W bu (unitC bn bl) 32 ∧ UnitW W bn bl n0 n1 n2 ln mx ∧ Below w.heap.size w W
section
variable {w W W1 : World} {bn bl n0 n1 n2 ln bu bo : Nat} {mx : Int} {v v1 : Value} {xs ys : List Int} {outs : Array Value}
theorem q_lit1 (W : World) (base g : Nat) (x : Int) (hb : base ≤ W.heap.size) (hg : g = W.heap.size) : Kd.Q (Kd.int .i64) 3 (W.alloc (.cells #[.int .i64 x] 3)) base (fun _ => True) (.slice (some ⟨g, 0, none⟩) 1 1) [x] := by
  subst hg
  exact Kd.Q_of_R ⟨fun _ _ => trivial, [.int .i64 x], own_lit W base 3 .i64 [x] hb (by simp), Go.Proofs.YtbeochkimihglaaW.PrintWords.Reps.one rfl (Reps.none _ 1)⟩
theorem blk_ne {W : World} {a b : Nat} {cs ds : Array Value} {s t : TypeId} (ha : Blk W a cs s) (hb : Blk W b ds t) (h : s ≠ t) : a ≠ b := by
  rintro rfl
  have e : W.heap[a]? = some (.cells cs s (0, 0)) := ha
  have e2 : W.heap[a]? = some (.cells ds t (0, 0)) := hb
  rw [e] at e2
  injection e2 with e2
  injection e2 with _ e2
  exact h e2
theorem BSt.set (h : BSt w bn bl n0 n1 n2 ln mx bu bo v xs outs W) (h0 : bn < w.heap.size ∧ bl < w.heap.size ∧ n0 < w.heap.size ∧ n1 < w.heap.size ∧ n2 < w.heap.size ∧ ln < w.heap.size) (hbo : w.heap.size ≤ bo) (j : Nat) (u : Value) : BSt w bn bl n0 n1 n2 ln mx bu bo v xs (outs.setIfInBounds j u) (W.setCell ⟨bo, j, none⟩ u) := by
  obtain ⟨h1, h2, h3, h4, h5⟩ := h
  have hb : Below w.heap.size W (W.setCell ⟨bo, j, none⟩ u) := Below.setCell (Below.refl _ _) hbo _
  exact ⟨Kd.Q_set h1 h2 (by intro q hq; simp [Kd.int, Kd.scalar] at hq; omega) j u, blk_set h2 j u, blk_far h3 (Ne.symm (blk_ne h2 h3 (by decide))) u, h4.base hb h0, below_set h5 hbo⟩
theorem BSt.app (h : BSt w bn bl n0 n1 n2 ln mx bu bo v xs outs W) (h0 : bn < w.heap.size ∧ bl < w.heap.size ∧ n0 < w.heap.size ∧ n1 < w.heap.size ∧ n2 < w.heap.size ∧ ln < w.heap.size) (hq : Kd.Q (Kd.int .i64) 3 W1 w.heap.size (fun _ => True) v1 ys) (hb : Below w.heap.size w W1) (hg : W.grownBy W1 v.ownBlock) : BSt w bn bl n0 n1 n2 ln mx bu bo v1 ys outs W1 := by
  obtain ⟨h1, h2, h3, h4, h5⟩ := h
  have hB : Below w.heap.size W W1 := ⟨hg.os, hg.tape, hg.output, hg.size, fun k hk => hg.block k (Nat.lt_of_lt_of_le hk h5.size) (fun e => by have := Kd.Q_base h1 k e.symm; omega)⟩
  exact ⟨hq, blk_grown h2 hg (Kd.Q_ne h1 h2 (by decide)), blk_grown h3 hg (Kd.Q_ne h1 h3 (by decide)), h4.base hB h0, hb⟩
theorem BSt.to (h : BSt w bn bl n0 n1 n2 ln mx bu bo v xs outs W) (hq : Kd.Q (Kd.int .i64) 3 W w.heap.size (fun _ => True) v1 ys) : BSt w bn bl n0 n1 n2 ln mx bu bo v1 ys outs W := ⟨hq, h.2⟩
end

set_option maxHeartbeats 8000000 in
set_option maxRecDepth 100000 in
theorem reached_calls (bn bl n0 n1 n2 ln : Nat) (mx : Int) (w : World) (hU : UnitW w bn bl n0 n1 n2 ln mx) :
    Calls Try.prog 17 #[UV bn bl] w fun e w' => ∃ B, e = .returned (.slice (some ⟨B, 0, none⟩) 4 4) ∧ w.heap.size ≤ B ∧ Blk w' B #[.bool true, .bool true, .bool true, .bool true] 4 ∧ Below w.heap.size w w' := by
  have hu32 := Try.underlying32
  have hu46 := Try.underlying46
  obtain ⟨hN, hL, h0, h1, h1', h2, hln, hln'⟩ := hU.reads
  have HLT := Aside0.mk hU.lts
  have HUW := Aside0.mk hU
  obtain ⟨lbn, lbl, ln0, ln1, ln2, lln⟩ := hU.lts
  have lbnA : ∀ k, bn < w.heap.size + k := fun k => by omega
  have lbnB : ∀ k j, bn < w.heap.size + k + j := fun k j => by omega
  have ln0A : ∀ k, n0 < w.heap.size + k := fun k => by omega
  have ln0B : ∀ k j, n0 < w.heap.size + k + j := fun k j => by omega
  have ln1A : ∀ k, n1 < w.heap.size + k := fun k => by omega
  have ln1B : ∀ k j, n1 < w.heap.size + k + j := fun k j => by omega
  have ln2A : ∀ k, n2 < w.heap.size + k := fun k => by omega
  have ln2B : ∀ k j, n2 < w.heap.size + k + j := fun k j => by omega
  clear hU
  have hmk : ∀ W : World, (Instr.makeSlice 41 (.int .i64 4) (.int .i64 4)).run Try.prog W = .ok (.slice (some ⟨W.heap.size, 0, none⟩) 4 4) (W.alloc (.cells #[.bool false, .bool false, .bool false, .bool false] 4)) := fun W => by kernel_rfl
  go_enter Try.func17, Try.ntmps17
  go_wp2_with fail
  iterate 13 (first | (rw [rounds_succ]; go_wp2_with (go_in)) | (refine wp_loop_rounds 5 ?_; rw [rounds_succ]; go_wp2_with (go_in)))
  clear hN hL h0 h1 h1' h2 hln hln' lbnA lbnB ln0A ln0B ln1A ln1B ln2A ln2B hmk
  have hbel := (below_alloc (below_alloc (below_alloc (below_alloc (below_alloc (below_alloc (below_alloc (Below.refl w.heap.size w) (.cells #[.string ⟨#[]⟩, .slice (some ⟨bn, 0, none⟩) 4 4, .slice (some ⟨bl, 0, none⟩) 1 1, .slice none 0 0, .slice none 0 0, .slice none 0 0, .slice none 0 0, .slice none 0 0, .slice none 0 0, .slice none 0 0] 32)) (.cells #[.bool true, .bool false, .bool false, .bool false] 4)) (.cells #[.int .i64 0, .int .i64 0, .slice (some ⟨n0, 0, none⟩) 1 1, .slice none 0 0] 46)) (.cells #[.int .i64 0, .int .i64 0, .slice (some ⟨n1, 0, none⟩) 2 2, .slice none 0 0] 46)) (.cells #[.int .i64 0, .int .i64 0, .slice (some ⟨n2, 0, none⟩) 1 1, .slice none 0 0] 46)) (.cells #[.int .i64 0, .int .i64 0, .slice none 0 0, .slice none 0 0] 46)) (.cells #[.int .i64 0] 3))
  have HB := Aside0.mk hbel
  have HQ : Aside0 (Kd.Q (Kd.int .i64) 3 (((((((w.alloc (.cells #[.string ⟨#[]⟩, .slice (some ⟨bn, 0, none⟩) 4 4, .slice (some ⟨bl, 0, none⟩) 1 1, .slice none 0 0, .slice none 0 0, .slice none 0 0, .slice none 0 0, .slice none 0 0, .slice none 0 0, .slice none 0 0] 32)).alloc (.cells #[.bool true, .bool false, .bool false, .bool false] 4)).alloc (.cells #[.int .i64 0, .int .i64 0, .slice (some ⟨n0, 0, none⟩) 1 1, .slice none 0 0] 46)).alloc (.cells #[.int .i64 0, .int .i64 0, .slice (some ⟨n1, 0, none⟩) 2 2, .slice none 0 0] 46)).alloc (.cells #[.int .i64 0, .int .i64 0, .slice (some ⟨n2, 0, none⟩) 1 1, .slice none 0 0] 46)).alloc (.cells #[.int .i64 0, .int .i64 0, .slice none 0 0, .slice none 0 0] 46)).alloc (.cells #[.int .i64 0] 3)) w.heap.size (fun _ => True) (.slice (some ⟨w.heap.size + 1 + 1 + 1 + 1 + 1 + 1, 0, none⟩) 1 1) [0]) := ⟨q_lit1 ((((((w.alloc (.cells #[.string ⟨#[]⟩, .slice (some ⟨bn, 0, none⟩) 4 4, .slice (some ⟨bl, 0, none⟩) 1 1, .slice none 0 0, .slice none 0 0, .slice none 0 0, .slice none 0 0, .slice none 0 0, .slice none 0 0, .slice none 0 0] 32)).alloc (.cells #[.bool true, .bool false, .bool false, .bool false] 4)).alloc (.cells #[.int .i64 0, .int .i64 0, .slice (some ⟨n0, 0, none⟩) 1 1, .slice none 0 0] 46)).alloc (.cells #[.int .i64 0, .int .i64 0, .slice (some ⟨n1, 0, none⟩) 2 2, .slice none 0 0] 46)).alloc (.cells #[.int .i64 0, .int .i64 0, .slice (some ⟨n2, 0, none⟩) 1 1, .slice none 0 0] 46)).alloc (.cells #[.int .i64 0, .int .i64 0, .slice none 0 0, .slice none 0 0] 46)) w.heap.size _ 0 (by simp; omega) (by simp)⟩
  have HO : Aside0 (Blk (((((((w.alloc (.cells #[.string ⟨#[]⟩, .slice (some ⟨bn, 0, none⟩) 4 4, .slice (some ⟨bl, 0, none⟩) 1 1, .slice none 0 0, .slice none 0 0, .slice none 0 0, .slice none 0 0, .slice none 0 0, .slice none 0 0, .slice none 0 0] 32)).alloc (.cells #[.bool true, .bool false, .bool false, .bool false] 4)).alloc (.cells #[.int .i64 0, .int .i64 0, .slice (some ⟨n0, 0, none⟩) 1 1, .slice none 0 0] 46)).alloc (.cells #[.int .i64 0, .int .i64 0, .slice (some ⟨n1, 0, none⟩) 2 2, .slice none 0 0] 46)).alloc (.cells #[.int .i64 0, .int .i64 0, .slice (some ⟨n2, 0, none⟩) 1 1, .slice none 0 0] 46)).alloc (.cells #[.int .i64 0, .int .i64 0, .slice none 0 0, .slice none 0 0] 46)).alloc (.cells #[.int .i64 0] 3)) (w.heap.size + 1) #[.bool true, .bool false, .bool false, .bool false] 4) := ⟨by
    have h := heap_alloc2_new w (.cells #[.string ⟨#[]⟩, .slice (some ⟨bn, 0, none⟩) 4 4, .slice (some ⟨bl, 0, none⟩) 1 1, .slice none 0 0, .slice none 0 0, .slice none 0 0, .slice none 0 0, .slice none 0 0, .slice none 0 0, .slice none 0 0] 32) (.cells #[.bool true, .bool false, .bool false, .bool false] 4)
    exact blk_alloc (blk_alloc (blk_alloc (blk_alloc (blk_alloc h _) _) _) _) _⟩
  have HBU : Aside0 (Blk (((((((w.alloc (.cells #[.string ⟨#[]⟩, .slice (some ⟨bn, 0, none⟩) 4 4, .slice (some ⟨bl, 0, none⟩) 1 1, .slice none 0 0, .slice none 0 0, .slice none 0 0, .slice none 0 0, .slice none 0 0, .slice none 0 0, .slice none 0 0] 32)).alloc (.cells #[.bool true, .bool false, .bool false, .bool false] 4)).alloc (.cells #[.int .i64 0, .int .i64 0, .slice (some ⟨n0, 0, none⟩) 1 1, .slice none 0 0] 46)).alloc (.cells #[.int .i64 0, .int .i64 0, .slice (some ⟨n1, 0, none⟩) 2 2, .slice none 0 0] 46)).alloc (.cells #[.int .i64 0, .int .i64 0, .slice (some ⟨n2, 0, none⟩) 1 1, .slice none 0 0] 46)).alloc (.cells #[.int .i64 0, .int .i64 0, .slice none 0 0, .slice none 0 0] 46)).alloc (.cells #[.int .i64 0] 3)) w.heap.size (unitC bn bl) 32) := ⟨by
    have h := heap_alloc_new w (.cells #[.string ⟨#[]⟩, .slice (some ⟨bn, 0, none⟩) 4 4, .slice (some ⟨bl, 0, none⟩) 1 1, .slice none 0 0, .slice none 0 0, .slice none 0 0, .slice none 0 0, .slice none 0 0, .slice none 0 0, .slice none 0 0] 32)
    exact blk_alloc (blk_alloc (blk_alloc (blk_alloc (blk_alloc (blk_alloc h _) _) _) _) _) _⟩
  have HS : Aside0 (BSt w bn bl n0 n1 n2 ln mx w.heap.size (w.heap.size + 1) (.slice (some ⟨w.heap.size + 1 + 1 + 1 + 1 + 1 + 1, 0, none⟩) 1 1) (bfsTodo 0) (bfsOut 0) (((((((w.alloc (.cells #[.string ⟨#[]⟩, .slice (some ⟨bn, 0, none⟩) 4 4, .slice (some ⟨bl, 0, none⟩) 1 1, .slice none 0 0, .slice none 0 0, .slice none 0 0, .slice none 0 0, .slice none 0 0, .slice none 0 0, .slice none 0 0] 32)).alloc (.cells #[.bool true, .bool false, .bool false, .bool false] 4)).alloc (.cells #[.int .i64 0, .int .i64 0, .slice (some ⟨n0, 0, none⟩) 1 1, .slice none 0 0] 46)).alloc (.cells #[.int .i64 0, .int .i64 0, .slice (some ⟨n1, 0, none⟩) 2 2, .slice none 0 0] 46)).alloc (.cells #[.int .i64 0, .int .i64 0, .slice (some ⟨n2, 0, none⟩) 1 1, .slice none 0 0] 46)).alloc (.cells #[.int .i64 0, .int .i64 0, .slice none 0 0, .slice none 0 0] 46)).alloc (.cells #[.int .i64 0] 3))) := ⟨HQ.out, HO.out, HBU.out, HUW.out.below hbel, hbel⟩
  clear HB HQ HO HBU hbel
  obtain ⟨bu, HBU⟩ : ∃ bu, Aside0 (bu = w.heap.size) := ⟨_, ⟨rfl⟩⟩
  obtain ⟨bo, HBO⟩ : ∃ bo, Aside0 (bo = w.heap.size + 1) := ⟨_, ⟨rfl⟩⟩
  generalize (((((((w.alloc (.cells #[.string ⟨#[]⟩, .slice (some ⟨bn, 0, none⟩) 4 4, .slice (some ⟨bl, 0, none⟩) 1 1, .slice none 0 0, .slice none 0 0, .slice none 0 0, .slice none 0 0, .slice none 0 0, .slice none 0 0, .slice none 0 0] 32)).alloc (.cells #[.bool true, .bool false, .bool false, .bool false] 4)).alloc (.cells #[.int .i64 0, .int .i64 0, .slice (some ⟨n0, 0, none⟩) 1 1, .slice none 0 0] 46)).alloc (.cells #[.int .i64 0, .int .i64 0, .slice (some ⟨n1, 0, none⟩) 2 2, .slice none 0 0] 46)).alloc (.cells #[.int .i64 0, .int .i64 0, .slice (some ⟨n2, 0, none⟩) 1 1, .slice none 0 0] 46)).alloc (.cells #[.int .i64 0, .int .i64 0, .slice none 0 0, .slice none 0 0] 46)).alloc (.cells #[.int .i64 0] 3)) = W0 at HS ⊢
  generalize (Value.slice (some ⟨w.heap.size + 1 + 1 + 1 + 1 + 1 + 1, 0, none⟩) 1 1) = v0 at HS ⊢
  rw [← HBO.out, ← HBU.out] at HS ⊢
  have HBOW : Aside0 (w.heap.size ≤ bo) := ⟨by have := HBO.out; omega⟩
  clear hu32 hu46
  have hu32 := Try.underlying32
  have hu46 := Try.underlying46
  go_loopg [6] 4 (fun gg s6 wr => ∃ (st : Nat) (v : Value), v = s6 ∧ st ≤ 4 ∧ 4 - st ≤ gg ∧ Aside0 (BSt w bn bl n0 n1 n2 ln mx bu bo v (bfsTodo st) (bfsOut st) wr))
  case atStart => exact ⟨0, v0, rfl, by omega, by omega, HS⟩
  case round =>
    clear HS
    obtain ⟨st, v, rfl, hst, hgs, HS⟩ := hrel
    obtain ⟨hN, hL, h0, h1, h1', h2, hln, hln'⟩ := HS.out.2.2.2.1.reads
    have hlw := HS.out.2.2.2.1.lts
    clear lbn lbl ln0 ln1 ln2 lln
    obtain ⟨lbn, lbl, ln0, ln1, ln2, lln⟩ := hlw
    have hbu1 : wr.cell? ⟨bu, 1, none⟩ = some (.slice (some ⟨bn, 0, none⟩) 4 4) := blk_cell HS.out.2.2.1 1
    have hOf : ∀ i, wr.frozen? ⟨bo, i, none⟩ = false := fun i => blk_frozen HS.out.2.1 i
    have lbu : bu < wr.heap.size := blk_lt HS.out.2.2.1
    have lbo : bo < wr.heap.size := blk_lt HS.out.2.1
    rcases (show st = 0 ∨ st = 1 ∨ st = 2 ∨ st = 3 ∨ st = 4 by omega) with rfl | rfl | rfl | rfl | rfl
    · have hO : ∀ i, wr.cell? ⟨bo, i, none⟩ = (#[.bool true, .bool false, .bool false, .bool false] : Array Value)[i]? := fun i => blk_cell HS.out.2.1 i
      obtain ⟨g, o, cap, hv, _⟩ := Kd.Q_form HS.out.1 (by decide)
      replace hv : v = .slice (some ⟨g, o, none⟩) 1 cap := hv
      subst hv
      obtain ⟨hcell, hcap, hq1, hq2⟩ := q_tail (n := 0) (x := 0) (r := []) HS.out.1
      have HQ1 := Aside0.mk hq1
      have HQ2 := Aside0.mk hq2
      clear hq1 hq2
      have lg : g < wr.heap.size := World.block_lt_of_cell? wr _ hcell
      by_cases hcp : cap = 1
      · subst hcp
        have HT := Aside0.mk (BSt.to HS.out (HQ1.out rfl))
        go_wp2_with fail
        refine wp_loop_rounds 5 ?_
        rw [rounds_succ]
        have HS0 := Aside0.mk (BSt.set HT.out HLT.out HBOW.out 1 (.bool true))
        go_upto_region 20 with (fail)
        generalize World.setCell wr ⟨bo, 1, none⟩ (.bool true) = ws1 at HS0 ⊢
        go_wp2_with (first | (at_builtin; refine Kd.Q_append (Kd.int .i64) (w0 := w) w.heap.size rfl (.tmp 61) (.tmp 63) 29 3 (.int .i64 0) 8 rfl Try.underlying29 info3 rfl (by decide) (by omega) (.slice (some ⟨g, o, none⟩) 0 0) [] 1 [.int .i64 1] (fun _ => True) (fun _ => False) rfl rfl ?aP (fun _ hk => hk.elim) ?aF ?aO ?aB ?aS ?aL ?_; (case aP => exact rfl); (case aF => exact (fun _ _ => trivial)); (case aO => exact HS0.out.1); (case aB => exact HS0.out.2.2.2.2); (case aS => exact HS0.out.2.2.2.2.size); (case aL => simp); intro va0 w2 ho hb hgr hat; have HN0 := Aside0.mk (BSt.app HS0.out HLT.out ho hb hgr); clear ho hb hgr hat) | fail)
        clear hN hL h0 h1 h1' h2 hln hln' hbu1 hOf lbn lbl ln0 ln1 ln2 lln lbu lbo hO lg hcell
        obtain ⟨hN, hL, h0, h1, h1', h2, hln, hln'⟩ := HN0.out.2.2.2.1.reads
        obtain ⟨lbn, lbl, ln0, ln1, ln2, lln⟩ := HN0.out.2.2.2.1.lts
        have hbu1 : w2.cell? ⟨bu, 1, none⟩ = some (.slice (some ⟨bn, 0, none⟩) 4 4) := blk_cell HN0.out.2.2.1 1
        have hOf : ∀ i, w2.frozen? ⟨bo, i, none⟩ = false := fun i => blk_frozen HN0.out.2.1 i
        have lbu : bu < w2.heap.size := blk_lt HN0.out.2.2.1
        have lbo : bo < w2.heap.size := blk_lt HN0.out.2.1
        have hO : ∀ i, w2.cell? ⟨bo, i, none⟩ = (#[.bool true, .bool true, .bool false, .bool false] : Array Value)[i]? := fun i => blk_cell HN0.out.2.1 i
        rw [rounds_succ]
        go_wp2_with fail
        go_roundg (4 - 1)
        case measure => omega
        case rel => exact ⟨1, _, rfl, by omega, by omega, ⟨HN0.out⟩⟩
      · skip
        have HT := Aside0.mk (BSt.to HS.out (HQ2.out hcp))
        have hcp2 : ¬ cap = 1 := hcp
        have hcp3 : 1 < cap := by omega
        clear hcp
        go_wp2_with fail
        refine wp_loop_rounds 5 ?_
        rw [rounds_succ]
        have HS0 := Aside0.mk (BSt.set HT.out HLT.out HBOW.out 1 (.bool true))
        go_upto_region 20 with (fail)
        generalize World.setCell wr ⟨bo, 1, none⟩ (.bool true) = ws1 at HS0 ⊢
        go_wp2_with (first | (at_builtin; refine Kd.Q_append (Kd.int .i64) (w0 := w) w.heap.size rfl (.tmp 61) (.tmp 63) 29 3 (.int .i64 0) 8 rfl Try.underlying29 info3 rfl (by decide) (by omega) (.slice (some ⟨g, o + 1, none⟩) 0 (cap - 1)) [] 1 [.int .i64 1] (fun _ => True) (fun _ => False) rfl rfl ?aP (fun _ hk => hk.elim) ?aF ?aO ?aB ?aS ?aL ?_; (case aP => exact rfl); (case aF => exact (fun _ _ => trivial)); (case aO => exact HS0.out.1); (case aB => exact HS0.out.2.2.2.2); (case aS => exact HS0.out.2.2.2.2.size); (case aL => simp); intro va0 w2 ho hb hgr hat; have HN0 := Aside0.mk (BSt.app HS0.out HLT.out ho hb hgr); clear ho hb hgr hat) | fail)
        clear hN hL h0 h1 h1' h2 hln hln' hbu1 hOf lbn lbl ln0 ln1 ln2 lln lbu lbo hO lg hcell
        obtain ⟨hN, hL, h0, h1, h1', h2, hln, hln'⟩ := HN0.out.2.2.2.1.reads
        obtain ⟨lbn, lbl, ln0, ln1, ln2, lln⟩ := HN0.out.2.2.2.1.lts
        have hbu1 : w2.cell? ⟨bu, 1, none⟩ = some (.slice (some ⟨bn, 0, none⟩) 4 4) := blk_cell HN0.out.2.2.1 1
        have hOf : ∀ i, w2.frozen? ⟨bo, i, none⟩ = false := fun i => blk_frozen HN0.out.2.1 i
        have lbu : bu < w2.heap.size := blk_lt HN0.out.2.2.1
        have lbo : bo < w2.heap.size := blk_lt HN0.out.2.1
        have hO : ∀ i, w2.cell? ⟨bo, i, none⟩ = (#[.bool true, .bool true, .bool false, .bool false] : Array Value)[i]? := fun i => blk_cell HN0.out.2.1 i
        rw [rounds_succ]
        go_wp2_with fail
        go_roundg (4 - 1)
        case measure => omega
        case rel => exact ⟨1, _, rfl, by omega, by omega, ⟨HN0.out⟩⟩
    · have hO : ∀ i, wr.cell? ⟨bo, i, none⟩ = (#[.bool true, .bool true, .bool false, .bool false] : Array Value)[i]? := fun i => blk_cell HS.out.2.1 i
      obtain ⟨g, o, cap, hv, _⟩ := Kd.Q_form HS.out.1 (by decide)
      replace hv : v = .slice (some ⟨g, o, none⟩) 1 cap := hv
      subst hv
      obtain ⟨hcell, hcap, hq1, hq2⟩ := q_tail (n := 0) (x := 1) (r := []) HS.out.1
      have HQ1 := Aside0.mk hq1
      have HQ2 := Aside0.mk hq2
      clear hq1 hq2
      have lg : g < wr.heap.size := World.block_lt_of_cell? wr _ hcell
      by_cases hcp : cap = 1
      · subst hcp
        have HT := Aside0.mk (BSt.to HS.out (HQ1.out rfl))
        go_wp2_with fail
        refine wp_loop_rounds 5 ?_
        rw [rounds_succ]
        have HS0 := Aside0.mk (BSt.set HT.out HLT.out HBOW.out 2 (.bool true))
        go_upto_region 20 with (fail)
        generalize World.setCell wr ⟨bo, 2, none⟩ (.bool true) = ws1 at HS0 ⊢
        go_wp2_with (first | (at_builtin; refine Kd.Q_append (Kd.int .i64) (w0 := w) w.heap.size rfl (.tmp 61) (.tmp 63) 29 3 (.int .i64 0) 8 rfl Try.underlying29 info3 rfl (by decide) (by omega) (.slice (some ⟨g, o, none⟩) 0 0) [] 2 [.int .i64 2] (fun _ => True) (fun _ => False) rfl rfl ?aP (fun _ hk => hk.elim) ?aF ?aO ?aB ?aS ?aL ?_; (case aP => exact rfl); (case aF => exact (fun _ _ => trivial)); (case aO => exact HS0.out.1); (case aB => exact HS0.out.2.2.2.2); (case aS => exact HS0.out.2.2.2.2.size); (case aL => simp); intro va0 w2 ho hb hgr hat; have HN0 := Aside0.mk (BSt.app HS0.out HLT.out ho hb hgr); clear ho hb hgr hat) | fail)
        clear hN hL h0 h1 h1' h2 hln hln' hbu1 hOf lbn lbl ln0 ln1 ln2 lln lbu lbo hO lg hcell
        obtain ⟨hN, hL, h0, h1, h1', h2, hln, hln'⟩ := HN0.out.2.2.2.1.reads
        obtain ⟨lbn, lbl, ln0, ln1, ln2, lln⟩ := HN0.out.2.2.2.1.lts
        have hbu1 : w2.cell? ⟨bu, 1, none⟩ = some (.slice (some ⟨bn, 0, none⟩) 4 4) := blk_cell HN0.out.2.2.1 1
        have hOf : ∀ i, w2.frozen? ⟨bo, i, none⟩ = false := fun i => blk_frozen HN0.out.2.1 i
        have lbu : bu < w2.heap.size := blk_lt HN0.out.2.2.1
        have lbo : bo < w2.heap.size := blk_lt HN0.out.2.1
        have hO : ∀ i, w2.cell? ⟨bo, i, none⟩ = (#[.bool true, .bool true, .bool true, .bool false] : Array Value)[i]? := fun i => blk_cell HN0.out.2.1 i
        rw [rounds_succ]
        have HS1 := Aside0.mk (BSt.set HN0.out HLT.out HBOW.out 3 (.bool true))
        go_upto_region 20 with (fail)
        generalize World.setCell w2 ⟨bo, 3, none⟩ (.bool true) = ws2 at HS1 ⊢
        go_wp2_with (first | (at_builtin; refine Kd.Q_append (Kd.int .i64) (w0 := w) w.heap.size rfl (.tmp 61) (.tmp 63) 29 3 (.int .i64 0) 8 rfl Try.underlying29 info3 rfl (by decide) (by omega) (va0) [2] 3 [.int .i64 3] (fun _ => True) (fun _ => False) rfl rfl ?aP (fun _ hk => hk.elim) ?aF ?aO ?aB ?aS ?aL ?_; (case aP => exact rfl); (case aF => exact (fun _ _ => trivial)); (case aO => exact HS1.out.1); (case aB => exact HS1.out.2.2.2.2); (case aS => exact HS1.out.2.2.2.2.size); (case aL => simp); intro va1 w3 ho hb hgr hat; have HN1 := Aside0.mk (BSt.app HS1.out HLT.out ho hb hgr); clear ho hb hgr hat) | fail)
        clear hN hL h0 h1 h1' h2 hln hln' hbu1 hOf lbn lbl ln0 ln1 ln2 lln lbu lbo hO
        obtain ⟨hN, hL, h0, h1, h1', h2, hln, hln'⟩ := HN1.out.2.2.2.1.reads
        obtain ⟨lbn, lbl, ln0, ln1, ln2, lln⟩ := HN1.out.2.2.2.1.lts
        have hbu1 : w3.cell? ⟨bu, 1, none⟩ = some (.slice (some ⟨bn, 0, none⟩) 4 4) := blk_cell HN1.out.2.2.1 1
        have hOf : ∀ i, w3.frozen? ⟨bo, i, none⟩ = false := fun i => blk_frozen HN1.out.2.1 i
        have lbu : bu < w3.heap.size := blk_lt HN1.out.2.2.1
        have lbo : bo < w3.heap.size := blk_lt HN1.out.2.1
        have hO : ∀ i, w3.cell? ⟨bo, i, none⟩ = (#[.bool true, .bool true, .bool true, .bool true] : Array Value)[i]? := fun i => blk_cell HN1.out.2.1 i
        rw [rounds_succ]
        go_wp2_with fail
        go_roundg (4 - 2)
        case measure => omega
        case rel => exact ⟨2, _, rfl, by omega, by omega, ⟨HN1.out⟩⟩
      · skip
        have HT := Aside0.mk (BSt.to HS.out (HQ2.out hcp))
        have hcp2 : ¬ cap = 1 := hcp
        have hcp3 : 1 < cap := by omega
        clear hcp
        go_wp2_with fail
        refine wp_loop_rounds 5 ?_
        rw [rounds_succ]
        have HS0 := Aside0.mk (BSt.set HT.out HLT.out HBOW.out 2 (.bool true))
        go_upto_region 20 with (fail)
        generalize World.setCell wr ⟨bo, 2, none⟩ (.bool true) = ws1 at HS0 ⊢
        go_wp2_with (first | (at_builtin; refine Kd.Q_append (Kd.int .i64) (w0 := w) w.heap.size rfl (.tmp 61) (.tmp 63) 29 3 (.int .i64 0) 8 rfl Try.underlying29 info3 rfl (by decide) (by omega) (.slice (some ⟨g, o + 1, none⟩) 0 (cap - 1)) [] 2 [.int .i64 2] (fun _ => True) (fun _ => False) rfl rfl ?aP (fun _ hk => hk.elim) ?aF ?aO ?aB ?aS ?aL ?_; (case aP => exact rfl); (case aF => exact (fun _ _ => trivial)); (case aO => exact HS0.out.1); (case aB => exact HS0.out.2.2.2.2); (case aS => exact HS0.out.2.2.2.2.size); (case aL => simp); intro va0 w2 ho hb hgr hat; have HN0 := Aside0.mk (BSt.app HS0.out HLT.out ho hb hgr); clear ho hb hgr hat) | fail)
        clear hN hL h0 h1 h1' h2 hln hln' hbu1 hOf lbn lbl ln0 ln1 ln2 lln lbu lbo hO lg hcell
        obtain ⟨hN, hL, h0, h1, h1', h2, hln, hln'⟩ := HN0.out.2.2.2.1.reads
        obtain ⟨lbn, lbl, ln0, ln1, ln2, lln⟩ := HN0.out.2.2.2.1.lts
        have hbu1 : w2.cell? ⟨bu, 1, none⟩ = some (.slice (some ⟨bn, 0, none⟩) 4 4) := blk_cell HN0.out.2.2.1 1
        have hOf : ∀ i, w2.frozen? ⟨bo, i, none⟩ = false := fun i => blk_frozen HN0.out.2.1 i
        have lbu : bu < w2.heap.size := blk_lt HN0.out.2.2.1
        have lbo : bo < w2.heap.size := blk_lt HN0.out.2.1
        have hO : ∀ i, w2.cell? ⟨bo, i, none⟩ = (#[.bool true, .bool true, .bool true, .bool false] : Array Value)[i]? := fun i => blk_cell HN0.out.2.1 i
        rw [rounds_succ]
        have HS1 := Aside0.mk (BSt.set HN0.out HLT.out HBOW.out 3 (.bool true))
        go_upto_region 20 with (fail)
        generalize World.setCell w2 ⟨bo, 3, none⟩ (.bool true) = ws2 at HS1 ⊢
        go_wp2_with (first | (at_builtin; refine Kd.Q_append (Kd.int .i64) (w0 := w) w.heap.size rfl (.tmp 61) (.tmp 63) 29 3 (.int .i64 0) 8 rfl Try.underlying29 info3 rfl (by decide) (by omega) (va0) [2] 3 [.int .i64 3] (fun _ => True) (fun _ => False) rfl rfl ?aP (fun _ hk => hk.elim) ?aF ?aO ?aB ?aS ?aL ?_; (case aP => exact rfl); (case aF => exact (fun _ _ => trivial)); (case aO => exact HS1.out.1); (case aB => exact HS1.out.2.2.2.2); (case aS => exact HS1.out.2.2.2.2.size); (case aL => simp); intro va1 w3 ho hb hgr hat; have HN1 := Aside0.mk (BSt.app HS1.out HLT.out ho hb hgr); clear ho hb hgr hat) | fail)
        clear hN hL h0 h1 h1' h2 hln hln' hbu1 hOf lbn lbl ln0 ln1 ln2 lln lbu lbo hO
        obtain ⟨hN, hL, h0, h1, h1', h2, hln, hln'⟩ := HN1.out.2.2.2.1.reads
        obtain ⟨lbn, lbl, ln0, ln1, ln2, lln⟩ := HN1.out.2.2.2.1.lts
        have hbu1 : w3.cell? ⟨bu, 1, none⟩ = some (.slice (some ⟨bn, 0, none⟩) 4 4) := blk_cell HN1.out.2.2.1 1
        have hOf : ∀ i, w3.frozen? ⟨bo, i, none⟩ = false := fun i => blk_frozen HN1.out.2.1 i
        have lbu : bu < w3.heap.size := blk_lt HN1.out.2.2.1
        have lbo : bo < w3.heap.size := blk_lt HN1.out.2.1
        have hO : ∀ i, w3.cell? ⟨bo, i, none⟩ = (#[.bool true, .bool true, .bool true, .bool true] : Array Value)[i]? := fun i => blk_cell HN1.out.2.1 i
        rw [rounds_succ]
        go_wp2_with fail
        go_roundg (4 - 2)
        case measure => omega
        case rel => exact ⟨2, _, rfl, by omega, by omega, ⟨HN1.out⟩⟩
    · have hO : ∀ i, wr.cell? ⟨bo, i, none⟩ = (#[.bool true, .bool true, .bool true, .bool true] : Array Value)[i]? := fun i => blk_cell HS.out.2.1 i
      obtain ⟨g, o, cap, hv, _⟩ := Kd.Q_form HS.out.1 (by decide)
      replace hv : v = .slice (some ⟨g, o, none⟩) 2 cap := hv
      subst hv
      obtain ⟨hcell, hcap, hq1, hq2⟩ := q_tail (n := 1) (x := 2) (r := [3]) HS.out.1
      have HQ1 := Aside0.mk hq1
      have HQ2 := Aside0.mk hq2
      clear hq1 hq2
      have lg : g < wr.heap.size := World.block_lt_of_cell? wr _ hcell
      have hcp : cap ≠ 1 := by omega
      have HT := Aside0.mk (BSt.to HS.out (HQ2.out hcp))
      have hcp2 : ¬ cap = 1 := hcp
      have hcp3 : 1 < cap := by omega
      clear hcp
      go_wp2_with fail
      refine wp_loop_rounds 5 ?_
      rw [rounds_succ]
      go_wp2_with fail
      rw [rounds_succ]
      go_wp2_with fail
      go_roundg (4 - 3)
      case measure => omega
      case rel => exact ⟨3, _, rfl, by omega, by omega, ⟨HT.out⟩⟩
    · have hO : ∀ i, wr.cell? ⟨bo, i, none⟩ = (#[.bool true, .bool true, .bool true, .bool true] : Array Value)[i]? := fun i => blk_cell HS.out.2.1 i
      obtain ⟨g, o, cap, hv, _⟩ := Kd.Q_form HS.out.1 (by decide)
      replace hv : v = .slice (some ⟨g, o, none⟩) 1 cap := hv
      subst hv
      obtain ⟨hcell, hcap, hq1, hq2⟩ := q_tail (n := 0) (x := 3) (r := []) HS.out.1
      have HQ1 := Aside0.mk hq1
      have HQ2 := Aside0.mk hq2
      clear hq1 hq2
      have lg : g < wr.heap.size := World.block_lt_of_cell? wr _ hcell
      by_cases hcp : cap = 1
      · subst hcp
        have HT := Aside0.mk (BSt.to HS.out (HQ1.out rfl))
        go_wp2_with fail
        refine wp_loop_rounds 5 ?_
        rw [rounds_succ]
        go_wp2_with fail
        go_roundg (4 - 4)
        case measure => omega
        case rel => exact ⟨4, _, rfl, by omega, by omega, ⟨HT.out⟩⟩
      · skip
        have HT := Aside0.mk (BSt.to HS.out (HQ2.out hcp))
        have hcp2 : ¬ cap = 1 := hcp
        have hcp3 : 1 < cap := by omega
        clear hcp
        go_wp2_with fail
        refine wp_loop_rounds 5 ?_
        rw [rounds_succ]
        go_wp2_with fail
        go_roundg (4 - 4)
        case measure => omega
        case rel => exact ⟨4, _, rfl, by omega, by omega, ⟨HT.out⟩⟩
    · obtain ⟨A, c, hv, _⟩ := Kd.Q_slice HS.out.1
      replace hv : v = .slice A 0 c := hv
      subst hv
      go_wp2_with fail
      go_ret
      exact ⟨bo, rfl, HBOW.out, HS.out.2.1, HS.out.2.2.2.2⟩
end Go.Proofs.Ytbeochkimihglaa.PHl
