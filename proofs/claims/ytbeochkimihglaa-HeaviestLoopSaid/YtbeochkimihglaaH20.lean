/- spread over edges. -/
import Derived.Test.YtbeochkimihglaaH19
import Derived.Outline
import Derived.Deep.CutRange
namespace Go.Proofs.Ytbeochkimihglaa.PHl
open Go.RowKit Go.Proofs.YtbeochkimihglaaW.PrintWords Go.Proofs.YtbeochkimihglaaW.PrintLast Go.Proofs.YtbeochkimihglaaW.PrintMore
set_option linter.unusedVariables false
set_option linter.unusedSimpArgs false
theorem info71 : (Try.prog.info? 71).map (·.size) = some 3 := by kernel_rfl
theorem blk_at5 (w : World) (A B C D E : Obj) : (((((w.alloc A).alloc B).alloc C).alloc D).alloc E).heap[w.heap.size + 1 + 1 + 1 + 1]? = some E := by
  have h := heap_alloc_new ((((w.alloc A).alloc B).alloc C).alloc D) E
  rwa [show ((((w.alloc A).alloc B).alloc C).alloc D).heap.size = w.heap.size + 1 + 1 + 1 + 1 by simp] at h
theorem keepS {W : World} {x y b j : Nat} {v : Value} {A B : Array Value} (h : (∀ i, W.drew.cell? ⟨x, i, none⟩ = A[i]?) ∧ (∀ i, W.drew.cell? ⟨y, i, none⟩ = B[i]?)) (h1 : ¬ x = b) (h2 : ¬ y = b) :
    (∀ i, (W.setCell ⟨b, j, none⟩ v).drew.cell? ⟨x, i, none⟩ = A[i]?) ∧ (∀ i, (W.setCell ⟨b, j, none⟩ v).drew.cell? ⟨y, i, none⟩ = B[i]?) :=
  ⟨fun i => (World.cell?_of_block (Below.heap_setCell W ⟨b, j, none⟩ v x h1)).trans (h.1 i), fun i => (World.cell?_of_block (Below.heap_setCell W ⟨b, j, none⟩ v y h2)).trans (h.2 i)⟩
/-- What spread holds. -/
def SpW (w W : World) (b6 bw bk bs bb : Nat) (kn sm by_ : Array Value) : Prop :=
  Blk W bw #[.slice (some ⟨bk, 0, none⟩) 4 4, .slice (some ⟨bs, 0, none⟩) 4 4, .slice (some ⟨bb, 0, none⟩) 4 4] 71 ∧ Blk W bk kn 4 ∧ Blk W bs sm 3 ∧ Blk W bb by_ 74 ∧ Blk W b6 #[.slice none 0 0, .slice none 0 0, .slice none 0 0] 71 ∧ Below w.heap.size w W
def SpN (w : World) (b6 bw bk bs bb : Nat) : Prop := w.heap.size ≤ b6 ∧ w.heap.size ≤ bw ∧ w.heap.size ≤ bk ∧ w.heap.size ≤ bs ∧ w.heap.size ≤ bb ∧ b6 ≠ bw
section
variable {w W W' : World} {b6 bw bk bs bb : Nat} {kn sm by_ : Array Value}
theorem SpW.below (h : SpW w W b6 bw bk bs bb kn sm by_) (hb : Below W.heap.size W W') : SpW w W' b6 bw bk bs bb kn sm by_ :=
  ⟨blk_below h.1 hb, blk_below h.2.1 hb, blk_below h.2.2.1 hb, blk_below h.2.2.2.1 hb, blk_below h.2.2.2.2.1 hb, below_step h.2.2.2.2.2 hb⟩
theorem SpW.drew (h : SpW w W b6 bw bk bs bb kn sm by_) : SpW w W.drew b6 bw bk bs bb kn sm by_ := h.below (below_drew1 (Below.refl _ _))
theorem SpW.setK (h : SpW w W b6 bw bk bs bb kn sm by_) (hn : SpN w b6 bw bk bs bb) (j : Nat) (v : Value) {zz : Array Value} (e : kn.setIfInBounds j v = zz) : SpW w (W.setCell ⟨bk, j, none⟩ v) b6 bw bk bs bb zz sm by_ := e ▸
  ⟨blk_far h.1 (blk_ne h.1 h.2.1 (by decide)) v, blk_set h.2.1 j v, blk_far h.2.2.1 (blk_ne h.2.2.1 h.2.1 (by decide)) v, blk_far h.2.2.2.1 (blk_ne h.2.2.2.1 h.2.1 (by decide)) v, blk_far h.2.2.2.2.1 (blk_ne h.2.2.2.2.1 h.2.1 (by decide)) v, bset h.2.2.2.2.2 hn.2.2.1 j v⟩
theorem SpW.setS (h : SpW w W b6 bw bk bs bb kn sm by_) (hn : SpN w b6 bw bk bs bb) (j : Nat) (v : Value) {zz : Array Value} (e : sm.setIfInBounds j v = zz) : SpW w (W.setCell ⟨bs, j, none⟩ v) b6 bw bk bs bb kn zz by_ := e ▸
  ⟨blk_far h.1 (blk_ne h.1 h.2.2.1 (by decide)) v, blk_far h.2.1 (blk_ne h.2.1 h.2.2.1 (by decide)) v, blk_set h.2.2.1 j v, blk_far h.2.2.2.1 (blk_ne h.2.2.2.1 h.2.2.1 (by decide)) v, blk_far h.2.2.2.2.1 (blk_ne h.2.2.2.2.1 h.2.2.1 (by decide)) v, bset h.2.2.2.2.2 hn.2.2.2.1 j v⟩
theorem SpW.setB (h : SpW w W b6 bw bk bs bb kn sm by_) (hn : SpN w b6 bw bk bs bb) (j : Nat) (v : Value) : SpW w (W.setCell ⟨bb, j, none⟩ v) b6 bw bk bs bb kn sm (by_.setIfInBounds j v) :=
  ⟨blk_far h.1 (blk_ne h.1 h.2.2.2.1 (by decide)) v, blk_far h.2.1 (blk_ne h.2.1 h.2.2.2.1 (by decide)) v, blk_far h.2.2.1 (blk_ne h.2.2.1 h.2.2.2.1 (by decide)) v, blk_set h.2.2.2.1 j v, blk_far h.2.2.2.2.1 (blk_ne h.2.2.2.2.1 h.2.2.2.1 (by decide)) v, bset h.2.2.2.2.2 hn.2.2.2.2.1 j v⟩
theorem SpW.setB4 (h : SpW w W b6 bw bk bs bb kn sm by_) (hn : SpN w b6 bw bk bs bb) (j : Nat) (v0 v1 v2 v3 : Value) {zz : Array Value} (e : (((by_.setIfInBounds j v0).setIfInBounds (j + 1) v1).setIfInBounds (j + 2) v2).setIfInBounds (j + 3) v3 = zz) :
    SpW w ((((W.setCell ⟨bb, j, none⟩ v0).setCell ⟨bb, j + 1, none⟩ v1).setCell ⟨bb, j + 2, none⟩ v2).setCell ⟨bb, j + 3, none⟩ v3) b6 bw bk bs bb kn sm zz := e ▸
  ((((h.setB hn j v0).setB hn (j + 1) v1).setB hn (j + 2) v2).setB hn (j + 3) v3)
end

/-- An edge: from, by, to, weight. -/
structure Ed where
  f : Nat
  b : Nat
  t : Nat
  w : Int
def Ed.cells (e : Ed) : List Value := [.int .i64 e.f, .int .i64 e.b, .int .i64 e.t, .int .i64 e.w]
def edC (es : List Ed) : List Value := es.flatMap Ed.cells
def edOk (es : List Ed) : Prop := ∀ e ∈ es, e.f < 4 ∧ e.t < 4 ∧ -100000 ≤ e.w ∧ e.w ≤ 100000
theorem edC_len : ∀ es : List Ed, (edC es).length = es.length * 4
  | [] => rfl
  | e :: r => by
    have ih := edC_len r
    unfold edC at ih ⊢
    rw [List.flatMap_cons, List.length_append, ih]
    simp only [Ed.cells, List.length_cons, List.length_nil]
    omega
theorem edC_at : ∀ (es : List Ed) (k j : Nat) (hk : k < es.length) (hj : j < 4), (edC es)[k * 4 + j]? = (es[k]).cells[j]?
  | e :: r, 0, j, _, hj => by
    show ((e :: r).flatMap Ed.cells)[0 * 4 + j]? = _
    rw [List.flatMap_cons, List.getElem?_append_left (by simp only [Ed.cells, List.length_cons, List.length_nil]; omega), Nat.zero_mul, Nat.zero_add]
    rfl
  | e :: r, k + 1, j, hk, hj => by
    have ih := edC_at r k j (by simpa using hk) hj
    show ((e :: r).flatMap Ed.cells)[(k + 1) * 4 + j]? = _
    rw [List.flatMap_cons, List.getElem?_append_right (by simp only [Ed.cells, List.length_cons, List.length_nil]; omega)]
    rw [show (k + 1) * 4 + j - e.cells.length = k * 4 + j by simp only [Ed.cells, List.length_cons, List.length_nil]; omega]
    exact ih
/-- What spread knows: which nodes, sums, edges, whether something changed. -/
structure SS where
  kn : List Bool
  sm : List Int
  by_ : List Value
  ch : Bool
def SS.K (s : SS) : Array Value := (s.kn.map Value.bool).toArray
def SS.S (s : SS) : Array Value := (s.sm.map (Value.int .i64)).toArray
def SS.B (s : SS) : Array Value := s.by_.toArray
def SS.ok (s : SS) (c : Nat) : Prop := s.kn.length = 4 ∧ s.sm.length = 4 ∧ s.by_.length = 16 ∧ ∀ i, -(100000 * (c : Int)) ≤ s.sm.getD i 0 ∧ s.sm.getD i 0 ≤ 100000 * (c : Int)
def SS.up (s : SS) (e : Ed) : SS := ⟨s.kn.set e.t true, s.sm.set e.t (s.sm.getD e.f 0 + e.w), (((s.by_.set (e.t * 4) (.int .i64 e.f)).set (e.t * 4 + 1) (.int .i64 e.b)).set (e.t * 4 + 2) (.int .i64 e.t)).set (e.t * 4 + 3) (.int .i64 e.w), true⟩
def stepS (fr : Nat) (s : SS) (e : Ed) : SS :=
  if s.kn.getD e.f false = false ∨ e.t = fr then s
  else if s.kn.getD e.t false = false ∨ s.sm.getD e.t 0 < s.sm.getD e.f 0 + e.w then s.up e
  else s
def roundS (fr : Nat) (es : List Ed) (s : SS) : SS := es.foldl (stepS fr) { s with ch := false }
def runS (fr : Nat) (es : List Ed) : Nat → SS → SS
  | 0, s => s
  | k + 1, s => if (roundS fr es s).ch = true then runS fr es k (roundS fr es s) else roundS fr es s
def startS (fr : Nat) : SS := ⟨[false, false, false, false].set fr true, [0, 0, 0, 0], List.replicate 16 (.int .i64 0), false⟩
theorem SS.ok.up {s : SS} {c : Nat} {e : Ed} (h : s.ok c) (hw : -100000 ≤ e.w ∧ e.w ≤ 100000) (ht : e.t < 4) : (s.up e).ok (c + 1) := by
  obtain ⟨h1, h2, h3, h4⟩ := h
  refine ⟨by simp [SS.up, h1], by simp [SS.up, h2], by simp [SS.up, h3], fun i => ?_⟩
  have hf := h4 e.f
  have hi := h4 i
  simp only [SS.up]
  by_cases hit : i = e.t
  · subst hit
    rw [List.getD_eq_getElem?_getD, List.getElem?_set_self (by omega)]
    simp only [Option.getD_some]
    omega
  · rw [List.getD_eq_getElem?_getD, List.getElem?_set_ne (fun h => hit h.symm), ← List.getD_eq_getElem?_getD]
    omega
theorem SS.ok.more {s : SS} {c d : Nat} (h : s.ok c) (hd : c ≤ d) : s.ok d :=
  ⟨h.1, h.2.1, h.2.2.1, fun i => by have := h.2.2.2 i; omega⟩
theorem SS.ok.step {s : SS} {c fr : Nat} {e : Ed} (h : s.ok c) (hw : -100000 ≤ e.w ∧ e.w ≤ 100000) (ht : e.t < 4) : (stepS fr s e).ok (c + 1) := by
  unfold stepS
  split
  · exact h.more (Nat.le_succ _)
  · split
    · exact h.up hw ht
    · exact h.more (Nat.le_succ _)
theorem SS.K_at {s : SS} {c i : Nat} (h : s.ok c) (hi : i < 4) : s.K[i]? = some (.bool (s.kn.getD i false)) := by
  have : i < s.kn.length := by rw [h.1]; exact hi
  simp [SS.K, List.getD_eq_getElem?_getD, this]
theorem SS.S_at {s : SS} {c i : Nat} (h : s.ok c) (hi : i < 4) : s.S[i]? = some (.int .i64 (s.sm.getD i 0)) := by
  have : i < s.sm.length := by rw [h.2.1]; exact hi
  simp [SS.S, List.getD_eq_getElem?_getD, this]
theorem SS.B_at {s : SS} (W : World) {bb : Nat} (h : s.by_.length = 16) (i : Nat) (hi : i < 16) (hb : Blk W bb s.B 74) : ∃ x, W.cell? ⟨bb, i, none⟩ = some x := by
  have : i < s.by_.length := by rw [h]; exact hi
  exact ⟨s.by_[i], (blk_cell hb i).trans (by simp [SS.B, this])⟩
theorem SS.up_K (s : SS) (e : Ed) : s.K.setIfInBounds e.t (.bool true) = (s.up e).K := by
  simp [SS.K, SS.up, List.map_set]
theorem SS.up_S (s : SS) (e : Ed) : s.S.setIfInBounds e.t (.int .i64 (s.sm.getD e.f 0 + e.w)) = (s.up e).S := by
  simp [SS.S, SS.up, List.map_set]
theorem SS.up_B (s : SS) (e : Ed) : (((s.B.setIfInBounds (e.t * 4) (.int .i64 e.f)).setIfInBounds (e.t * 4 + 1) (.int .i64 e.b)).setIfInBounds (e.t * 4 + 2) (.int .i64 e.t)).setIfInBounds (e.t * 4 + 3) (.int .i64 e.w) = (s.up e).B := by
  simp [SS.B, SS.up]
theorem take_step (fr : Nat) (es : List Ed) (s : SS) (k : Nat) (hk : k < es.length) : (es.take (k + 1)).foldl (stepS fr) s = stepS fr ((es.take k).foldl (stepS fr) s) es[k] := by
  rw [List.take_succ_eq_append_getElem hk, List.foldl_append]
  rfl
set_option maxHeartbeats 8000000 in
set_option maxRecDepth 100000 in
theorem spread_run (bs0 ge c fr : Nat) (es : List Ed) (w : World) (hes : edOk es) (hl : es.length ≤ 4) (hfr : fr < 4) (hE : w.ownsRow bs0 74 4 (.slice (some ⟨ge, 0, none⟩) es.length c) es.length (edC es)) :
    Calls Try.prog 26 #[.int .i64 4, .int .i64 fr, .slice (some ⟨ge, 0, none⟩) es.length c] w fun e w' => ∃ bk bs bb, e = .returned (.agg #[.slice (some ⟨bk, 0, none⟩) 4 4, .slice (some ⟨bs, 0, none⟩) 4 4, .slice (some ⟨bb, 0, none⟩) 4 4]) ∧
      w.heap.size ≤ bs ∧ Blk w' bk (runS fr es 4 (startS fr)).K 4 ∧ Blk w' bs (runS fr es 4 (startS fr)).S 3 ∧ Blk w' bb (runS fr es 4 (startS fr)).B 74 ∧ Below w.heap.size w w' := by
  have hu71 := Try.underlying71
  have hu74 := Try.underlying74
  have HES := Aside0.mk hes
  have HE0 := Aside0.mk hE
  have HGE : Aside0 (ge < w.heap.size) := ⟨(hE.lt _ rfl).2⟩
  have hm4 : ∀ W, (Instr.makeSlice 41 (.int .i64 4) (.int .i64 4)).run Try.prog W = .ok (.slice (some ⟨W.heap.size, 0, none⟩) 4 4) (W.alloc (.cells #[.bool false, .bool false, .bool false, .bool false] 4)) := fun W => by kernel_rfl
  have hm3 : ∀ W, (Instr.makeSlice 29 (.int .i64 4) (.int .i64 4)).run Try.prog W = .ok (.slice (some ⟨W.heap.size, 0, none⟩) 4 4) (W.alloc (.cells #[.int .i64 0, .int .i64 0, .int .i64 0, .int .i64 0] 3)) := fun W => by kernel_rfl
  have hm7 : ∀ W, (Instr.makeSlice 58 (.int .i64 4) (.int .i64 4)).run Try.prog W = .ok (.slice (some ⟨W.heap.size, 0, none⟩) 4 4) (W.alloc (.cells #[.int .i64 0, .int .i64 0, .int .i64 0, .int .i64 0, .int .i64 0, .int .i64 0, .int .i64 0, .int .i64 0, .int .i64 0, .int .i64 0, .int .i64 0, .int .i64 0, .int .i64 0, .int .i64 0, .int .i64 0, .int .i64 0] 74)) := fun W => by kernel_rfl
  clear hE hes
  go_enter Try.func26, Try.ntmps26
  go_upto_region 1 with (fail)
  go_cut [7] from 12 to 18 (fun v7 wx => ∃ bw bk bs bb, v7 = .pointer (some ⟨bw, 0, none⟩) ∧ SpW w wx w.heap.size bw bk bs bb #[.bool false, .bool false, .bool false, .bool false] #[.int .i64 0, .int .i64 0, .int .i64 0, .int .i64 0] #[.int .i64 0, .int .i64 0, .int .i64 0, .int .i64 0, .int .i64 0, .int .i64 0, .int .i64 0, .int .i64 0, .int .i64 0, .int .i64 0, .int .i64 0, .int .i64 0, .int .i64 0, .int .i64 0, .int .i64 0, .int .i64 0] ∧ SpN w w.heap.size bw bk bs bb)
  case first =>
    go_region
    all_goals
      go_wp2_with fail
      go_meet
      exact ⟨_, _, _, _, rfl, SpW.drew ⟨by first | with_reducible exact blk_alloc (blk_alloc (blk_alloc (blk_alloc (heap_alloc_new w _) _) _) _) _ | with_reducible exact blk_alloc (blk_alloc (blk_alloc (heap_alloc2_new w _ _) _) _) _ | with_reducible exact blk_alloc (blk_alloc (blk_at3 w _ _ _) _) _ | with_reducible exact blk_alloc (blk_at4 w _ _ _ _) _ | with_reducible exact blk_at5 w _ _ _ _ _, by first | with_reducible exact blk_alloc (blk_alloc (blk_alloc (blk_alloc (heap_alloc_new w _) _) _) _) _ | with_reducible exact blk_alloc (blk_alloc (blk_alloc (heap_alloc2_new w _ _) _) _) _ | with_reducible exact blk_alloc (blk_alloc (blk_at3 w _ _ _) _) _ | with_reducible exact blk_alloc (blk_at4 w _ _ _ _) _ | with_reducible exact blk_at5 w _ _ _ _ _, by first | with_reducible exact blk_alloc (blk_alloc (blk_alloc (blk_alloc (heap_alloc_new w _) _) _) _) _ | with_reducible exact blk_alloc (blk_alloc (blk_alloc (heap_alloc2_new w _ _) _) _) _ | with_reducible exact blk_alloc (blk_alloc (blk_at3 w _ _ _) _) _ | with_reducible exact blk_alloc (blk_at4 w _ _ _ _) _ | with_reducible exact blk_at5 w _ _ _ _ _, by first | with_reducible exact blk_alloc (blk_alloc (blk_alloc (blk_alloc (heap_alloc_new w _) _) _) _) _ | with_reducible exact blk_alloc (blk_alloc (blk_alloc (heap_alloc2_new w _ _) _) _) _ | with_reducible exact blk_alloc (blk_alloc (blk_at3 w _ _ _) _) _ | with_reducible exact blk_alloc (blk_at4 w _ _ _ _) _ | with_reducible exact blk_at5 w _ _ _ _ _, by first | with_reducible exact blk_alloc (blk_alloc (blk_alloc (blk_alloc (heap_alloc_new w _) _) _) _) _ | with_reducible exact blk_alloc (blk_alloc (blk_alloc (heap_alloc2_new w _ _) _) _) _ | with_reducible exact blk_alloc (blk_alloc (blk_at3 w _ _ _) _) _ | with_reducible exact blk_alloc (blk_at4 w _ _ _ _) _ | with_reducible exact blk_at5 w _ _ _ _ _, below_alloc (below_alloc (below_alloc (below_alloc (below_alloc (Below.refl _ _) _) _) _) _) _⟩, by unfold SpN; omega⟩
  clear hm4 hm3 hm7
  obtain ⟨bw, bk, bs, bb, rfl, hs, hn⟩ := hcut
  obtain ⟨b6, hb6⟩ : ∃ b, b = w.heap.size := ⟨_, rfl⟩
  have HB6 := Aside0.mk hb6
  rw [← hb6] at hs hn ⊢
  clear hb6
  have HS := Aside0.mk hs
  have HN := Aside0.mk hn
  clear hs hn
  have hBW : ∀ i, wc.cell? ⟨bw, i, none⟩ = (#[.slice (some ⟨bk, 0, none⟩) 4 4, .slice (some ⟨bs, 0, none⟩) 4 4, .slice (some ⟨bb, 0, none⟩) 4 4] : Array Value)[i]? := fun i => blk_cell HS.out.1 i
  have hB6 : ∀ i, wc.cell? ⟨b6, i, none⟩ = (#[.slice none 0 0, .slice none 0 0, .slice none 0 0] : Array Value)[i]? := fun i => blk_cell HS.out.2.2.2.2.1 i
  have fzbk := fun j => blk_frozen HS.out.2.1 j
  have ltbk : bk < wc.heap.size := blk_lt HS.out.2.1
  have fzbs := fun j => blk_frozen HS.out.2.2.1 j
  have ltbs : bs < wc.heap.size := blk_lt HS.out.2.2.1
  have fzbb := fun j => blk_frozen HS.out.2.2.2.1 j
  have ltbb : bb < wc.heap.size := blk_lt HS.out.2.2.2.1
  have fzb6 := fun j => blk_frozen HS.out.2.2.2.2.1 j
  have ltb6 : b6 < wc.heap.size := blk_lt HS.out.2.2.2.2.1
  have fzbw := fun j => blk_frozen HS.out.1 j
  have ltbw : bw < wc.heap.size := blk_lt HS.out.1
  have nebkbs : ¬ bk = bs := blk_ne HS.out.2.1 HS.out.2.2.1 (by decide)
  have nebsbk : ¬ bs = bk := fun e => nebkbs e.symm
  have nebkbb : ¬ bk = bb := blk_ne HS.out.2.1 HS.out.2.2.2.1 (by decide)
  have nebbbk : ¬ bb = bk := fun e => nebkbb e.symm
  have nebsbb : ¬ bs = bb := blk_ne HS.out.2.2.1 HS.out.2.2.2.1 (by decide)
  have nebbbs : ¬ bb = bs := fun e => nebsbb e.symm
  have hBK : wc.cell? ⟨bk, fr, none⟩ = (#[.bool false, .bool false, .bool false, .bool false] : Array Value)[fr]? := blk_cell HS.out.2.1 fr
  have hfr2 : (fr : Int) < 4 := by omega
  go_upto_region 3 with (fail)
  clear hBK hBW hB6 fzbk ltbk fzbs ltbs fzbb ltbb fzb6 ltb6 fzbw ltbw nebkbs nebsbk nebkbb nebbbk nebsbb nebbbs
  have hs := HS.out.setK HN.out fr (.bool true) rfl
  have HS1 : Aside0 (SpW w (wc.setCell ⟨bk, fr, none⟩ (.bool true)) b6 bw bk bs bb (startS fr).K (startS fr).S (startS fr).B) := ⟨by
    have e1 : (startS fr).K = (#[.bool false, .bool false, .bool false, .bool false] : Array Value).setIfInBounds fr (.bool true) := by
      rcases (show fr = 0 ∨ fr = 1 ∨ fr = 2 ∨ fr = 3 by omega) with rfl | rfl | rfl | rfl <;> rfl
    rw [e1]
    exact hs⟩
  have HOK : Aside0 ((startS fr).ok 0) := ⟨⟨by simp [startS], rfl, rfl, fun i => by
    have : (startS fr).sm.getD i 0 = 0 := by
      show [0, 0, 0, 0].getD i (0 : Int) = 0
      rcases i with _ | _ | _ | _ | i <;> rfl
    omega⟩⟩
  clear hs HS
  generalize wc.setCell ⟨bk, fr, none⟩ (.bool true) = wy at HS1 ⊢
  obtain ⟨fin, hfo⟩ : ∃ x, x = runS fr es 4 (startS fr) := ⟨_, rfl⟩
  have HFO : Aside0 (runS fr es 4 (startS fr) = fin) := ⟨hfo.symm⟩
  have hfin := hfo.symm
  have HR : Aside0 (runS fr es 4 (startS fr) = fin) := ⟨hfin⟩
  clear hfin hfo
  have HLEN := Aside0.mk hl
  go_wp2_with fail
  go_loopg [24] 4 (fun gg s24 wr => ∃ (r : Nat) (s : SS), r ≤ 4 ∧ 4 - r ≤ gg ∧ s24 = .int .i64 r ∧ Aside0 (s.ok (4 * r)) ∧ Aside0 (runS fr es (4 - r) s = fin) ∧ Aside0 (SpW w wr b6 bw bk bs bb s.K s.S s.B))
  case atStart => exact ⟨0, startS fr, by omega, by omega, rfl, HOK, HR, HS1⟩
  case round =>
    clear HS1 HOK HR
    obtain ⟨r, s, hr4, hgg, rfl, HOK, HR, HS⟩ := hrel
    by_cases hlt : r < 4
    · have hltz : (r : Int) < 4 := by omega
      go_wp2_with fail
      have HRND : Aside0 (runS fr es (4 - r) s = if (roundS fr es s).ch = true then runS fr es (4 - (r + 1)) (roundS fr es s) else roundS fr es s) := ⟨by
        rw [show 4 - r = (4 - (r + 1)) + 1 by omega]
        rfl⟩
      go_loopg [8, 28] 4 (fun gg2 s8 s28 wr2 => ∃ (k : Nat) (t : SS), k ≤ es.length ∧ es.length - k ≤ gg2 ∧ s28 = .int .i64 k ∧ s8 = .bool t.ch ∧ Aside0 (t.ok (4 * r + k)) ∧ Aside0 (t = (es.take k).foldl (stepS fr) { s with ch := false }) ∧ Aside0 (SpW w wr2 b6 bw bk bs bb t.K t.S t.B))
      case atStart => exact ⟨0, { s with ch := false }, by omega, by omega, rfl, rfl, ⟨HOK.out⟩, ⟨rfl⟩, ⟨HS.out⟩⟩
      case round =>
        clear HS HOK
        have HRF := HR
        obtain ⟨k, t, hk, hgg2, rfl, rfl, HOK, HT, HS⟩ := hrel
        by_cases hklt : k < es.length
        · have hkltz : (k : Int) < (es.length : Int) := by omega
          have HEE := Aside0.mk (HES.out es[k] (List.getElem_mem hklt))
          have HTS := Aside0.mk (take_step fr es { s with ch := false } k hklt)
          have HTK := Aside0.mk (SS.ok.step (fr := fr) HOK.out HEE.out.2.2 HEE.out.2.1)
          rw [← HT.out] at HTS
          have HEc := own_move HE0.out (fun k hk => HS.out.2.2.2.2.2.block k (HE0.out.lt k hk).2)
          have hx0 := (HEc.cellAt (k * 4 + 0) (by omega)).trans (edC_at es k 0 hklt (by decide))
          have hx1 := (HEc.cellAt (k * 4 + 1) (by omega)).trans (edC_at es k 1 hklt (by decide))
          have hx2 := (HEc.cellAt (k * 4 + 2) (by omega)).trans (edC_at es k 2 hklt (by decide))
          have hx3 := (HEc.cellAt (k * 4 + 3) (by omega)).trans (edC_at es k 3 hklt (by decide))
          generalize es[k] = ed at HEE HTS HTK hx0 hx1 hx2 hx3
          obtain ⟨ef, eb, et, ew⟩ := ed
          replace hx0 : wr.cell? ⟨ge, k * 4, none⟩ = some (.int .i64 ef) := hx0
          replace hx1 : wr.cell? ⟨ge, k * 4 + 1, none⟩ = some (.int .i64 eb) := hx1
          replace hx2 : wr.cell? ⟨ge, k * 4 + 2, none⟩ = some (.int .i64 et) := hx2
          replace hx3 : wr.cell? ⟨ge, k * 4 + 3, none⟩ = some (.int .i64 ew) := hx3
          clear HEc
          have hBW : ∀ i, wr.cell? ⟨bw, i, none⟩ = (#[.slice (some ⟨bk, 0, none⟩) 4 4, .slice (some ⟨bs, 0, none⟩) 4 4, .slice (some ⟨bb, 0, none⟩) 4 4] : Array Value)[i]? := fun i => blk_cell HS.out.1 i
          have hB6 : ∀ i, wr.cell? ⟨b6, i, none⟩ = (#[.slice none 0 0, .slice none 0 0, .slice none 0 0] : Array Value)[i]? := fun i => blk_cell HS.out.2.2.2.2.1 i
          have fzbk := fun j => blk_frozen HS.out.2.1 j
          have ltbk : bk < wr.heap.size := blk_lt HS.out.2.1
          have fzbs := fun j => blk_frozen HS.out.2.2.1 j
          have ltbs : bs < wr.heap.size := blk_lt HS.out.2.2.1
          have fzbb := fun j => blk_frozen HS.out.2.2.2.1 j
          have ltbb : bb < wr.heap.size := blk_lt HS.out.2.2.2.1
          have fzb6 := fun j => blk_frozen HS.out.2.2.2.2.1 j
          have ltb6 : b6 < wr.heap.size := blk_lt HS.out.2.2.2.2.1
          have fzbw := fun j => blk_frozen HS.out.1 j
          have ltbw : bw < wr.heap.size := blk_lt HS.out.1
          have nebkbs : ¬ bk = bs := blk_ne HS.out.2.1 HS.out.2.2.1 (by decide)
          have nebsbk : ¬ bs = bk := fun e => nebkbs e.symm
          have nebkbb : ¬ bk = bb := blk_ne HS.out.2.1 HS.out.2.2.2.1 (by decide)
          have nebbbk : ¬ bb = bk := fun e => nebkbb e.symm
          have nebsbb : ¬ bs = bb := blk_ne HS.out.2.2.1 HS.out.2.2.2.1 (by decide)
          have nebbbs : ¬ bb = bs := fun e => nebsbb e.symm
          have ltge : ge < wr.heap.size := Nat.lt_of_lt_of_le HGE.out HS.out.2.2.2.2.2.size
          go_upto_region 9 with (fail)
          have hs := HS.out.below (below_alloc (Below.refl _ _) (.cells #[.int .i64 ef, .int .i64 eb, .int .i64 et, .int .i64 ew] 74))
          have HCP : Aside0 (Blk (wr.alloc (.cells #[.int .i64 ef, .int .i64 eb, .int .i64 et, .int .i64 ew] 74)) wr.heap.size #[.int .i64 ef, .int .i64 eb, .int .i64 et, .int .i64 ew] 74) := ⟨heap_alloc_new _ _⟩
          have HBX : Aside0 (bb < wr.heap.size) := ⟨ltbb⟩
          clear hBW hB6 fzbk ltbk fzbs ltbs fzbb ltbb fzb6 ltb6 fzbw ltbw nebkbs nebsbk nebkbb nebbbk nebsbb nebbbs ltge hx0 hx1 hx2 hx3 HS
          obtain ⟨bc, hbc⟩ : ∃ b, b = wr.heap.size := ⟨_, rfl⟩
          rw [← hbc] at HCP HBX ⊢
          clear hbc
          generalize wr.alloc (.cells #[.int .i64 ef, .int .i64 eb, .int .i64 et, .int .i64 ew] 74) = wa at hs HCP ⊢
          have HS := Aside0.mk hs
          clear hs
          obtain ⟨kf, hkf⟩ : ∃ x, x = t.kn.getD ef false := ⟨_, rfl⟩
          obtain ⟨kt, hkt⟩ : ∃ x, x = t.kn.getD et false := ⟨_, rfl⟩
          obtain ⟨sf, hsf⟩ : ∃ x, x = t.sm.getD ef 0 := ⟨_, rfl⟩
          obtain ⟨st, hst⟩ : ∃ x, x = t.sm.getD et 0 := ⟨_, rfl⟩
          have HST : Aside0 (stepS fr t ⟨ef, eb, et, ew⟩ = if kf = false ∨ et = fr then t else if kt = false ∨ st < sf + ew then t.up ⟨ef, eb, et, ew⟩ else t) := ⟨by rw [hkf, hkt, hsf, hst]; rfl⟩
          have hBKf : wa.cell? ⟨bk, ef, none⟩ = some (.bool kf) := (blk_cell HS.out.2.1 ef).trans (by rw [hkf]; exact SS.K_at HOK.out HEE.out.1)
          have hBKt : wa.cell? ⟨bk, et, none⟩ = some (.bool kt) := (blk_cell HS.out.2.1 et).trans (by rw [hkt]; exact SS.K_at HOK.out HEE.out.2.1)
          have hBSf : wa.cell? ⟨bs, ef, none⟩ = some (.int .i64 sf) := (blk_cell HS.out.2.2.1 ef).trans (by rw [hsf]; exact SS.S_at HOK.out HEE.out.1)
          have hBSt : wa.cell? ⟨bs, et, none⟩ = some (.int .i64 st) := (blk_cell HS.out.2.2.1 et).trans (by rw [hst]; exact SS.S_at HOK.out HEE.out.2.1)
          have HKT : Aside0 ((t.K)[et]? = some (.bool kt)) := ⟨by rw [hkt]; exact SS.K_at HOK.out HEE.out.2.1⟩
          have HSTT : Aside0 ((t.S)[et]? = some (.int .i64 st)) := ⟨by rw [hst]; exact SS.S_at HOK.out HEE.out.2.1⟩
          have HUS : Aside0 (t.S.setIfInBounds et (.int .i64 (sf + ew)) = (t.up ⟨ef, eb, et, ew⟩).S) := ⟨by rw [hsf]; exact SS.up_S t ⟨ef, eb, et, ew⟩⟩
          have hbnd : -100000000 ≤ sf + ew ∧ sf + ew ≤ 100000000 := by
            have h1 := HOK.out.2.2.2 ef
            have h2 := HEE.out.2.2
            have h3 := HLEN.out
            rw [← hsf] at h1
            dsimp only at h2
            omega
          obtain ⟨hbn, hbn'⟩ := hbnd
          have hef : ef < 4 := HEE.out.1
          have het : et < 4 := HEE.out.2.1
          have hefz : (ef : Int) < 4 := by omega
          have hetz : (et : Int) < 4 := by omega
          clear hkf hkt hsf hst
          have hCP : ∀ i, wa.cell? ⟨bc, i, none⟩ = (#[.int .i64 ef, .int .i64 eb, .int .i64 et, .int .i64 ew] : Array Value)[i]? := fun i => blk_cell HCP.out i
          have hBW : ∀ i, wa.cell? ⟨bw, i, none⟩ = (#[.slice (some ⟨bk, 0, none⟩) 4 4, .slice (some ⟨bs, 0, none⟩) 4 4, .slice (some ⟨bb, 0, none⟩) 4 4] : Array Value)[i]? := fun i => blk_cell HS.out.1 i
          have hB6 : ∀ i, wa.cell? ⟨b6, i, none⟩ = (#[.slice none 0 0, .slice none 0 0, .slice none 0 0] : Array Value)[i]? := fun i => blk_cell HS.out.2.2.2.2.1 i
          have fzbk := fun j => blk_frozen HS.out.2.1 j
          have ltbk : bk < wa.heap.size := blk_lt HS.out.2.1
          have fzbs := fun j => blk_frozen HS.out.2.2.1 j
          have ltbs : bs < wa.heap.size := blk_lt HS.out.2.2.1
          have fzbb := fun j => blk_frozen HS.out.2.2.2.1 j
          have ltbb : bb < wa.heap.size := blk_lt HS.out.2.2.2.1
          have fzb6 := fun j => blk_frozen HS.out.2.2.2.2.1 j
          have ltb6 : b6 < wa.heap.size := blk_lt HS.out.2.2.2.2.1
          have fzbw := fun j => blk_frozen HS.out.1 j
          have ltbw : bw < wa.heap.size := blk_lt HS.out.1
          have nebkbs : ¬ bk = bs := blk_ne HS.out.2.1 HS.out.2.2.1 (by decide)
          have nebsbk : ¬ bs = bk := fun e => nebkbs e.symm
          have nebkbb : ¬ bk = bb := blk_ne HS.out.2.1 HS.out.2.2.2.1 (by decide)
          have nebbbk : ¬ bb = bk := fun e => nebkbb e.symm
          have nebsbb : ¬ bs = bb := blk_ne HS.out.2.2.1 HS.out.2.2.2.1 (by decide)
          have nebbbs : ¬ bb = bs := fun e => nebsbb e.symm
          have NEXT : Aside0 (∀ (W : World) (t2 : SS), stepS fr t ⟨ef, eb, et, ew⟩ = t2 → SpW w W b6 bw bk bs bb t2.K t2.S t2.B → ∃ (k1 : Nat) (t1 : SS), k1 ≤ es.length ∧ es.length - k1 ≤ es.length - (k + 1) ∧ (Value.int .i64 ((k : Int) + 1)) = .int .i64 k1 ∧ (Value.bool t2.ch) = .bool t1.ch ∧ Aside0 (t1.ok (4 * r + k1)) ∧ Aside0 (t1 = (es.take k1).foldl (stepS fr) { s with ch := false }) ∧ Aside0 (SpW w W b6 bw bk bs bb t1.K t1.S t1.B)) := ⟨fun W t2 e hW => ⟨k + 1, t2, by omega, by omega, by push_cast; rfl, rfl, ⟨by rw [← e]; exact HTK.out⟩, ⟨by rw [← e]; exact HTS.out.symm⟩, ⟨hW⟩⟩⟩
          have HOKB : Aside0 (t.by_.length = 16) := ⟨HOK.out.2.2.1⟩
          clear HTK HTS HOK
          cases kf with
          | false =>
            go_wp2_with fail
            go_roundg (es.length - (k + 1))
            case measure => omega
            case rel => exact NEXT.out _ t (by rw [HST.out]; simp) HS.out
          | true =>
            by_cases hef2 : et = fr
            · have hefz2 : (et : Int) = (fr : Int) := by omega
              go_wp2_with fail
              go_roundg (es.length - (k + 1))
              case measure => omega
              case rel => exact NEXT.out _ t (by rw [HST.out]; simp [hef2]) HS.out
            · have hefz2 : ¬ (et : Int) = (fr : Int) := by omega
              go_wp2_with fail
              go_region
              have hs := HS.out.drew
              have HCPd : Aside0 (Blk wa.drew bc #[.int .i64 ef, .int .i64 eb, .int .i64 et, .int .i64 ew] 74) := ⟨blk_drew HCP.out⟩
              clear hBW hB6 fzbk ltbk fzbs ltbs fzbb ltbb fzb6 ltb6 fzbw ltbw nebkbs nebsbk nebkbb nebbbk nebsbb nebbbs hCP hBKf hBKt hBSf hBSt HS HCP
              have HBKt : Aside0 ((t.K)[et]? = some (.bool kt)) := HKT
              have HBSt : Aside0 ((t.S)[et]? = some (.int .i64 st)) := HSTT
              generalize wa.drew = wd at hs HCPd ⊢
              have HS := Aside0.mk hs
              clear hs
              have hBKt : wd.cell? ⟨bk, et, none⟩ = some (.bool kt) := (blk_cell HS.out.2.1 et).trans HBKt.out
              have hBSt : wd.cell? ⟨bs, et, none⟩ = some (.int .i64 st) := (blk_cell HS.out.2.2.1 et).trans HBSt.out
              have hCP : ∀ i, wd.cell? ⟨bc, i, none⟩ = (#[.int .i64 ef, .int .i64 eb, .int .i64 et, .int .i64 ew] : Array Value)[i]? := fun i => blk_cell HCPd.out i
              obtain ⟨x0, hB0⟩ := SS.B_at wd HOKB.out (et * 4) (by omega) HS.out.2.2.2.1
              obtain ⟨x1, hB1⟩ := SS.B_at wd HOKB.out (et * 4 + 1) (by omega) HS.out.2.2.2.1
              obtain ⟨x2, hB2⟩ := SS.B_at wd HOKB.out (et * 4 + 2) (by omega) HS.out.2.2.2.1
              obtain ⟨x3, hB3⟩ := SS.B_at wd HOKB.out (et * 4 + 3) (by omega) HS.out.2.2.2.1
              have ltbc := blk_lt HCPd.out
              have nebc : ¬ bc = bb := by have := HBX.out; omega
              have nekc : ¬ bc = bk := blk_ne HCPd.out HS.out.2.1 (by decide)
              have nesc : ¬ bc = bs := blk_ne HCPd.out HS.out.2.2.1 (by decide)
              have nekw : ¬ bw = bk := blk_ne HS.out.1 HS.out.2.1 (by decide)
              have nesw : ¬ bw = bs := blk_ne HS.out.1 HS.out.2.2.1 (by decide)
              have nebw : ¬ bw = bb := blk_ne HS.out.1 HS.out.2.2.2.1 (by decide)
              have hBW : ∀ i, wd.cell? ⟨bw, i, none⟩ = (#[.slice (some ⟨bk, 0, none⟩) 4 4, .slice (some ⟨bs, 0, none⟩) 4 4, .slice (some ⟨bb, 0, none⟩) 4 4] : Array Value)[i]? := fun i => blk_cell HS.out.1 i
              have hB6 : ∀ i, wd.cell? ⟨b6, i, none⟩ = (#[.slice none 0 0, .slice none 0 0, .slice none 0 0] : Array Value)[i]? := fun i => blk_cell HS.out.2.2.2.2.1 i
              have fzbk := fun j => blk_frozen HS.out.2.1 j
              have ltbk : bk < wd.heap.size := blk_lt HS.out.2.1
              have fzbs := fun j => blk_frozen HS.out.2.2.1 j
              have ltbs : bs < wd.heap.size := blk_lt HS.out.2.2.1
              have fzbb := fun j => blk_frozen HS.out.2.2.2.1 j
              have ltbb : bb < wd.heap.size := blk_lt HS.out.2.2.2.1
              have fzb6 := fun j => blk_frozen HS.out.2.2.2.2.1 j
              have ltb6 : b6 < wd.heap.size := blk_lt HS.out.2.2.2.2.1
              have fzbw := fun j => blk_frozen HS.out.1 j
              have ltbw : bw < wd.heap.size := blk_lt HS.out.1
              have nebkbs : ¬ bk = bs := blk_ne HS.out.2.1 HS.out.2.2.1 (by decide)
              have nebsbk : ¬ bs = bk := fun e => nebkbs e.symm
              have nebkbb : ¬ bk = bb := blk_ne HS.out.2.1 HS.out.2.2.2.1 (by decide)
              have nebbbk : ¬ bb = bk := fun e => nebkbb e.symm
              have nebsbb : ¬ bs = bb := blk_ne HS.out.2.2.1 HS.out.2.2.2.1 (by decide)
              have nebbbs : ¬ bb = bs := fun e => nebsbb e.symm
              cases kt with
              | false =>
                go_upto_region 12 with (fail)
                have HUK : Aside0 (t.K.setIfInBounds et (.bool true) = (t.up ⟨ef, eb, et, ew⟩).K) := ⟨SS.up_K t ⟨ef, eb, et, ew⟩⟩
                have HUB : Aside0 ((((t.B.setIfInBounds (et * 4) (.int .i64 ef)).setIfInBounds (et * 4 + 1) (.int .i64 eb)).setIfInBounds (et * 4 + 2) (.int .i64 et)).setIfInBounds (et * 4 + 3) (.int .i64 ew) = (t.up ⟨ef, eb, et, ew⟩).B) := ⟨SS.up_B t ⟨ef, eb, et, ew⟩⟩
                have hs0 : (∀ i, wd.drew.cell? ⟨bw, i, none⟩ = (#[.slice (some ⟨bk, 0, none⟩) 4 4, .slice (some ⟨bs, 0, none⟩) 4 4, .slice (some ⟨bb, 0, none⟩) 4 4] : Array Value)[i]?) ∧ (∀ i, wd.drew.cell? ⟨bc, i, none⟩ = (#[.int .i64 ef, .int .i64 eb, .int .i64 et, .int .i64 ew] : Array Value)[i]?) := ⟨fun i => blk_cell (blk_drew HS.out.1) i, fun i => blk_cell (blk_drew HCPd.out) i⟩
                have HO0 : Aside0 (SpW w ((((((wd.setCell ⟨bk, et, none⟩ (.bool true)).setCell ⟨bs, et, none⟩ (.int .i64 (sf + ew))).setCell ⟨bb, et * 4, none⟩ (.int .i64 ef)).setCell ⟨bb, et * 4 + 1, none⟩ (.int .i64 eb)).setCell ⟨bb, et * 4 + 2, none⟩ (.int .i64 et)).setCell ⟨bb, et * 4 + 3, none⟩ (.int .i64 ew)).drew b6 bw bk bs bb (t.up ⟨ef, eb, et, ew⟩).K (t.up ⟨ef, eb, et, ew⟩).S (t.up ⟨ef, eb, et, ew⟩).B) := ⟨SpW.drew (SpW.setB4 ((SpW.setS ((SpW.setK (HS.out) HN.out et (.bool true) HUK.out)) HN.out et (.int .i64 (sf + ew)) HUS.out)) HN.out (et * 4) (.int .i64 ef) (.int .i64 eb) (.int .i64 et) (.int .i64 ew) HUB.out)⟩
                have HO1 : Aside0 (SpW w ((((((wd.setCell ⟨bk, et, none⟩ (.bool true)).setCell ⟨bb, et * 4, none⟩ (.int .i64 ef)).setCell ⟨bb, et * 4 + 1, none⟩ (.int .i64 eb)).setCell ⟨bb, et * 4 + 2, none⟩ (.int .i64 et)).setCell ⟨bb, et * 4 + 3, none⟩ (.int .i64 ew)).setCell ⟨bs, et, none⟩ (.int .i64 (sf + ew))).drew b6 bw bk bs bb (t.up ⟨ef, eb, et, ew⟩).K (t.up ⟨ef, eb, et, ew⟩).S (t.up ⟨ef, eb, et, ew⟩).B) := ⟨SpW.drew (SpW.setS ((SpW.setB4 ((SpW.setK (HS.out) HN.out et (.bool true) HUK.out)) HN.out (et * 4) (.int .i64 ef) (.int .i64 eb) (.int .i64 et) (.int .i64 ew) HUB.out)) HN.out et (.int .i64 (sf + ew)) HUS.out)⟩
                have HO2 : Aside0 (SpW w ((((((wd.setCell ⟨bs, et, none⟩ (.int .i64 (sf + ew))).setCell ⟨bk, et, none⟩ (.bool true)).setCell ⟨bb, et * 4, none⟩ (.int .i64 ef)).setCell ⟨bb, et * 4 + 1, none⟩ (.int .i64 eb)).setCell ⟨bb, et * 4 + 2, none⟩ (.int .i64 et)).setCell ⟨bb, et * 4 + 3, none⟩ (.int .i64 ew)).drew b6 bw bk bs bb (t.up ⟨ef, eb, et, ew⟩).K (t.up ⟨ef, eb, et, ew⟩).S (t.up ⟨ef, eb, et, ew⟩).B) := ⟨SpW.drew (SpW.setB4 ((SpW.setK ((SpW.setS (HS.out) HN.out et (.int .i64 (sf + ew)) HUS.out)) HN.out et (.bool true) HUK.out)) HN.out (et * 4) (.int .i64 ef) (.int .i64 eb) (.int .i64 et) (.int .i64 ew) HUB.out)⟩
                have HO3 : Aside0 (SpW w ((((((wd.setCell ⟨bs, et, none⟩ (.int .i64 (sf + ew))).setCell ⟨bb, et * 4, none⟩ (.int .i64 ef)).setCell ⟨bb, et * 4 + 1, none⟩ (.int .i64 eb)).setCell ⟨bb, et * 4 + 2, none⟩ (.int .i64 et)).setCell ⟨bb, et * 4 + 3, none⟩ (.int .i64 ew)).setCell ⟨bk, et, none⟩ (.bool true)).drew b6 bw bk bs bb (t.up ⟨ef, eb, et, ew⟩).K (t.up ⟨ef, eb, et, ew⟩).S (t.up ⟨ef, eb, et, ew⟩).B) := ⟨SpW.drew (SpW.setK ((SpW.setB4 ((SpW.setS (HS.out) HN.out et (.int .i64 (sf + ew)) HUS.out)) HN.out (et * 4) (.int .i64 ef) (.int .i64 eb) (.int .i64 et) (.int .i64 ew) HUB.out)) HN.out et (.bool true) HUK.out)⟩
                have HO4 : Aside0 (SpW w ((((((wd.setCell ⟨bb, et * 4, none⟩ (.int .i64 ef)).setCell ⟨bb, et * 4 + 1, none⟩ (.int .i64 eb)).setCell ⟨bb, et * 4 + 2, none⟩ (.int .i64 et)).setCell ⟨bb, et * 4 + 3, none⟩ (.int .i64 ew)).setCell ⟨bk, et, none⟩ (.bool true)).setCell ⟨bs, et, none⟩ (.int .i64 (sf + ew))).drew b6 bw bk bs bb (t.up ⟨ef, eb, et, ew⟩).K (t.up ⟨ef, eb, et, ew⟩).S (t.up ⟨ef, eb, et, ew⟩).B) := ⟨SpW.drew (SpW.setS ((SpW.setK ((SpW.setB4 (HS.out) HN.out (et * 4) (.int .i64 ef) (.int .i64 eb) (.int .i64 et) (.int .i64 ew) HUB.out)) HN.out et (.bool true) HUK.out)) HN.out et (.int .i64 (sf + ew)) HUS.out)⟩
                have HO5 : Aside0 (SpW w ((((((wd.setCell ⟨bb, et * 4, none⟩ (.int .i64 ef)).setCell ⟨bb, et * 4 + 1, none⟩ (.int .i64 eb)).setCell ⟨bb, et * 4 + 2, none⟩ (.int .i64 et)).setCell ⟨bb, et * 4 + 3, none⟩ (.int .i64 ew)).setCell ⟨bs, et, none⟩ (.int .i64 (sf + ew))).setCell ⟨bk, et, none⟩ (.bool true)).drew b6 bw bk bs bb (t.up ⟨ef, eb, et, ew⟩).K (t.up ⟨ef, eb, et, ew⟩).S (t.up ⟨ef, eb, et, ew⟩).B) := ⟨SpW.drew (SpW.setK ((SpW.setS ((SpW.setB4 (HS.out) HN.out (et * 4) (.int .i64 ef) (.int .i64 eb) (.int .i64 et) (.int .i64 ew) HUB.out)) HN.out et (.int .i64 (sf + ew)) HUS.out)) HN.out et (.bool true) HUK.out)⟩
                go_cut [] from 71 to 87 (fun wx => SpW w wx b6 bw bk bs bb (t.up ⟨ef, eb, et, ew⟩).K (t.up ⟨ef, eb, et, ew⟩).S (t.up ⟨ef, eb, et, ew⟩).B)
                case first =>
                  go_region_held3 (fun w' => (∀ i, w'.cell? ⟨bw, i, none⟩ = (#[.slice (some ⟨bk, 0, none⟩) 4 4, .slice (some ⟨bs, 0, none⟩) 4 4, .slice (some ⟨bb, 0, none⟩) 4 4] : Array Value)[i]?) ∧ (∀ i, w'.cell? ⟨bc, i, none⟩ = (#[.int .i64 ef, .int .i64 eb, .int .i64 et, .int .i64 ew] : Array Value)[i]?)) (first | with_reducible exact hs0 | with_reducible assumption | with_reducible exact keepS (by with_reducible assumption) (by with_reducible assumption) (by with_reducible assumption) | with_reducible exact keepS (keepS (keepS (keepS (by with_reducible assumption) (by with_reducible assumption) (by with_reducible assumption)) (by with_reducible assumption) (by with_reducible assumption)) (by with_reducible assumption) (by with_reducible assumption)) (by with_reducible assumption) (by with_reducible assumption)) (fail)
                  all_goals
                    go_wp2_with fail
                    go_meet
                    first
                      | with_reducible exact HO0.out
                      | with_reducible exact HO1.out
                      | with_reducible exact HO2.out
                      | with_reducible exact HO3.out
                      | with_reducible exact HO4.out
                      | with_reducible exact HO5.out
                go_wp2_with fail
                go_roundg (es.length - (k + 1))
                case measure => omega
                case rel => exact NEXT.out _ (t.up ⟨ef, eb, et, ew⟩) (by rw [HST.out]; simp [hef2]) hcut
              | true =>
                by_cases hgt : st < sf + ew
                · have hgtd : decide (st < sf + ew) = true := decide_eq_true hgt
                  go_upto_region 12 with (fail)
                  have HUK : Aside0 (t.K.setIfInBounds et (.bool true) = (t.up ⟨ef, eb, et, ew⟩).K) := ⟨SS.up_K t ⟨ef, eb, et, ew⟩⟩
                  have HUB : Aside0 ((((t.B.setIfInBounds (et * 4) (.int .i64 ef)).setIfInBounds (et * 4 + 1) (.int .i64 eb)).setIfInBounds (et * 4 + 2) (.int .i64 et)).setIfInBounds (et * 4 + 3) (.int .i64 ew) = (t.up ⟨ef, eb, et, ew⟩).B) := ⟨SS.up_B t ⟨ef, eb, et, ew⟩⟩
                  have hs0 : (∀ i, wd.drew.cell? ⟨bw, i, none⟩ = (#[.slice (some ⟨bk, 0, none⟩) 4 4, .slice (some ⟨bs, 0, none⟩) 4 4, .slice (some ⟨bb, 0, none⟩) 4 4] : Array Value)[i]?) ∧ (∀ i, wd.drew.cell? ⟨bc, i, none⟩ = (#[.int .i64 ef, .int .i64 eb, .int .i64 et, .int .i64 ew] : Array Value)[i]?) := ⟨fun i => blk_cell (blk_drew HS.out.1) i, fun i => blk_cell (blk_drew HCPd.out) i⟩
                  have HO0 : Aside0 (SpW w ((((((wd.setCell ⟨bk, et, none⟩ (.bool true)).setCell ⟨bs, et, none⟩ (.int .i64 (sf + ew))).setCell ⟨bb, et * 4, none⟩ (.int .i64 ef)).setCell ⟨bb, et * 4 + 1, none⟩ (.int .i64 eb)).setCell ⟨bb, et * 4 + 2, none⟩ (.int .i64 et)).setCell ⟨bb, et * 4 + 3, none⟩ (.int .i64 ew)).drew b6 bw bk bs bb (t.up ⟨ef, eb, et, ew⟩).K (t.up ⟨ef, eb, et, ew⟩).S (t.up ⟨ef, eb, et, ew⟩).B) := ⟨SpW.drew (SpW.setB4 ((SpW.setS ((SpW.setK (HS.out) HN.out et (.bool true) HUK.out)) HN.out et (.int .i64 (sf + ew)) HUS.out)) HN.out (et * 4) (.int .i64 ef) (.int .i64 eb) (.int .i64 et) (.int .i64 ew) HUB.out)⟩
                  have HO1 : Aside0 (SpW w ((((((wd.setCell ⟨bk, et, none⟩ (.bool true)).setCell ⟨bb, et * 4, none⟩ (.int .i64 ef)).setCell ⟨bb, et * 4 + 1, none⟩ (.int .i64 eb)).setCell ⟨bb, et * 4 + 2, none⟩ (.int .i64 et)).setCell ⟨bb, et * 4 + 3, none⟩ (.int .i64 ew)).setCell ⟨bs, et, none⟩ (.int .i64 (sf + ew))).drew b6 bw bk bs bb (t.up ⟨ef, eb, et, ew⟩).K (t.up ⟨ef, eb, et, ew⟩).S (t.up ⟨ef, eb, et, ew⟩).B) := ⟨SpW.drew (SpW.setS ((SpW.setB4 ((SpW.setK (HS.out) HN.out et (.bool true) HUK.out)) HN.out (et * 4) (.int .i64 ef) (.int .i64 eb) (.int .i64 et) (.int .i64 ew) HUB.out)) HN.out et (.int .i64 (sf + ew)) HUS.out)⟩
                  have HO2 : Aside0 (SpW w ((((((wd.setCell ⟨bs, et, none⟩ (.int .i64 (sf + ew))).setCell ⟨bk, et, none⟩ (.bool true)).setCell ⟨bb, et * 4, none⟩ (.int .i64 ef)).setCell ⟨bb, et * 4 + 1, none⟩ (.int .i64 eb)).setCell ⟨bb, et * 4 + 2, none⟩ (.int .i64 et)).setCell ⟨bb, et * 4 + 3, none⟩ (.int .i64 ew)).drew b6 bw bk bs bb (t.up ⟨ef, eb, et, ew⟩).K (t.up ⟨ef, eb, et, ew⟩).S (t.up ⟨ef, eb, et, ew⟩).B) := ⟨SpW.drew (SpW.setB4 ((SpW.setK ((SpW.setS (HS.out) HN.out et (.int .i64 (sf + ew)) HUS.out)) HN.out et (.bool true) HUK.out)) HN.out (et * 4) (.int .i64 ef) (.int .i64 eb) (.int .i64 et) (.int .i64 ew) HUB.out)⟩
                  have HO3 : Aside0 (SpW w ((((((wd.setCell ⟨bs, et, none⟩ (.int .i64 (sf + ew))).setCell ⟨bb, et * 4, none⟩ (.int .i64 ef)).setCell ⟨bb, et * 4 + 1, none⟩ (.int .i64 eb)).setCell ⟨bb, et * 4 + 2, none⟩ (.int .i64 et)).setCell ⟨bb, et * 4 + 3, none⟩ (.int .i64 ew)).setCell ⟨bk, et, none⟩ (.bool true)).drew b6 bw bk bs bb (t.up ⟨ef, eb, et, ew⟩).K (t.up ⟨ef, eb, et, ew⟩).S (t.up ⟨ef, eb, et, ew⟩).B) := ⟨SpW.drew (SpW.setK ((SpW.setB4 ((SpW.setS (HS.out) HN.out et (.int .i64 (sf + ew)) HUS.out)) HN.out (et * 4) (.int .i64 ef) (.int .i64 eb) (.int .i64 et) (.int .i64 ew) HUB.out)) HN.out et (.bool true) HUK.out)⟩
                  have HO4 : Aside0 (SpW w ((((((wd.setCell ⟨bb, et * 4, none⟩ (.int .i64 ef)).setCell ⟨bb, et * 4 + 1, none⟩ (.int .i64 eb)).setCell ⟨bb, et * 4 + 2, none⟩ (.int .i64 et)).setCell ⟨bb, et * 4 + 3, none⟩ (.int .i64 ew)).setCell ⟨bk, et, none⟩ (.bool true)).setCell ⟨bs, et, none⟩ (.int .i64 (sf + ew))).drew b6 bw bk bs bb (t.up ⟨ef, eb, et, ew⟩).K (t.up ⟨ef, eb, et, ew⟩).S (t.up ⟨ef, eb, et, ew⟩).B) := ⟨SpW.drew (SpW.setS ((SpW.setK ((SpW.setB4 (HS.out) HN.out (et * 4) (.int .i64 ef) (.int .i64 eb) (.int .i64 et) (.int .i64 ew) HUB.out)) HN.out et (.bool true) HUK.out)) HN.out et (.int .i64 (sf + ew)) HUS.out)⟩
                  have HO5 : Aside0 (SpW w ((((((wd.setCell ⟨bb, et * 4, none⟩ (.int .i64 ef)).setCell ⟨bb, et * 4 + 1, none⟩ (.int .i64 eb)).setCell ⟨bb, et * 4 + 2, none⟩ (.int .i64 et)).setCell ⟨bb, et * 4 + 3, none⟩ (.int .i64 ew)).setCell ⟨bs, et, none⟩ (.int .i64 (sf + ew))).setCell ⟨bk, et, none⟩ (.bool true)).drew b6 bw bk bs bb (t.up ⟨ef, eb, et, ew⟩).K (t.up ⟨ef, eb, et, ew⟩).S (t.up ⟨ef, eb, et, ew⟩).B) := ⟨SpW.drew (SpW.setK ((SpW.setS ((SpW.setB4 (HS.out) HN.out (et * 4) (.int .i64 ef) (.int .i64 eb) (.int .i64 et) (.int .i64 ew) HUB.out)) HN.out et (.int .i64 (sf + ew)) HUS.out)) HN.out et (.bool true) HUK.out)⟩
                  go_cut [] from 71 to 87 (fun wx => SpW w wx b6 bw bk bs bb (t.up ⟨ef, eb, et, ew⟩).K (t.up ⟨ef, eb, et, ew⟩).S (t.up ⟨ef, eb, et, ew⟩).B)
                  case first =>
                    go_region_held3 (fun w' => (∀ i, w'.cell? ⟨bw, i, none⟩ = (#[.slice (some ⟨bk, 0, none⟩) 4 4, .slice (some ⟨bs, 0, none⟩) 4 4, .slice (some ⟨bb, 0, none⟩) 4 4] : Array Value)[i]?) ∧ (∀ i, w'.cell? ⟨bc, i, none⟩ = (#[.int .i64 ef, .int .i64 eb, .int .i64 et, .int .i64 ew] : Array Value)[i]?)) (first | with_reducible exact hs0 | with_reducible assumption | with_reducible exact keepS (by with_reducible assumption) (by with_reducible assumption) (by with_reducible assumption) | with_reducible exact keepS (keepS (keepS (keepS (by with_reducible assumption) (by with_reducible assumption) (by with_reducible assumption)) (by with_reducible assumption) (by with_reducible assumption)) (by with_reducible assumption) (by with_reducible assumption)) (by with_reducible assumption) (by with_reducible assumption)) (fail)
                    all_goals
                      go_wp2_with fail
                      go_meet
                      first
                        | with_reducible exact HO0.out
                        | with_reducible exact HO1.out
                        | with_reducible exact HO2.out
                        | with_reducible exact HO3.out
                        | with_reducible exact HO4.out
                        | with_reducible exact HO5.out
                  go_wp2_with fail
                  go_roundg (es.length - (k + 1))
                  case measure => omega
                  case rel => exact NEXT.out _ (t.up ⟨ef, eb, et, ew⟩) (by rw [HST.out]; simp [hef2, hgt]) hcut
                · have hgtd : decide (st < sf + ew) = false := decide_eq_false hgt
                  go_wp2_with fail
                  go_roundg (es.length - (k + 1))
                  case measure => omega
                  case rel => exact NEXT.out _ t (by rw [HST.out, if_neg (by simp [hef2]), if_neg (by simp only [reduceCtorEq, false_or]; omega)]) HS.out
        · have hkltz : ¬ (k : Int) < (es.length : Int) := by omega
          have hke : k = es.length := by omega
          subst hke
          rw [List.take_length] at HT
          have HT2 : Aside0 (t = roundS fr es s) := ⟨HT.out⟩
          clear HT
          rw [← HT2.out] at HRND
          clear HR
          have hBW : ∀ i, wr.cell? ⟨bw, i, none⟩ = (#[.slice (some ⟨bk, 0, none⟩) 4 4, .slice (some ⟨bs, 0, none⟩) 4 4, .slice (some ⟨bb, 0, none⟩) 4 4] : Array Value)[i]? := fun i => blk_cell HS.out.1 i
          have hB6 : ∀ i, wr.cell? ⟨b6, i, none⟩ = (#[.slice none 0 0, .slice none 0 0, .slice none 0 0] : Array Value)[i]? := fun i => blk_cell HS.out.2.2.2.2.1 i
          have fzbk := fun j => blk_frozen HS.out.2.1 j
          have ltbk : bk < wr.heap.size := blk_lt HS.out.2.1
          have fzbs := fun j => blk_frozen HS.out.2.2.1 j
          have ltbs : bs < wr.heap.size := blk_lt HS.out.2.2.1
          have fzbb := fun j => blk_frozen HS.out.2.2.2.1 j
          have ltbb : bb < wr.heap.size := blk_lt HS.out.2.2.2.1
          have fzb6 := fun j => blk_frozen HS.out.2.2.2.2.1 j
          have ltb6 : b6 < wr.heap.size := blk_lt HS.out.2.2.2.2.1
          have fzbw := fun j => blk_frozen HS.out.1 j
          have ltbw : bw < wr.heap.size := blk_lt HS.out.1
          have nebkbs : ¬ bk = bs := blk_ne HS.out.2.1 HS.out.2.2.1 (by decide)
          have nebsbk : ¬ bs = bk := fun e => nebkbs e.symm
          have nebkbb : ¬ bk = bb := blk_ne HS.out.2.1 HS.out.2.2.2.1 (by decide)
          have nebbbk : ¬ bb = bk := fun e => nebkbb e.symm
          have nebsbb : ¬ bs = bb := blk_ne HS.out.2.2.1 HS.out.2.2.2.1 (by decide)
          have nebbbs : ¬ bb = bs := fun e => nebsbb e.symm
          cases hch : t.ch with
          | true =>
            go_wp2_with fail
            go_roundg (4 - (r + 1))
            case measure => omega
            case rel => exact ⟨r + 1, t, by omega, by omega, by go_num, ⟨HOK.out.more (by omega)⟩, ⟨by rw [← HRF.out, HRND.out, if_pos hch]⟩, ⟨HS.out⟩⟩
          | false =>
            have HFIN : Aside0 (t = fin) := ⟨by rw [← HRF.out, HRND.out, if_neg (by rw [hch]; decide)]⟩
            go_wp2_with fail
            have hfe := HFIN.out
            clear hBW hB6 fzbk ltbk fzbs ltbs fzbb ltbb fzb6 ltb6 fzbw ltbw nebkbs nebsbk nebkbb nebbbk nebsbb nebbbs
            rw [hfe] at HS
            refine bodyPost_ret (results_cell_row rfl _ _ b6 71 #[.slice (some ⟨bk, 0, none⟩) 4 4, .slice (some ⟨bs, 0, none⟩) 4 4, .slice (some ⟨bb, 0, none⟩) 4 4] (0, 0) _ rfl (blk_set (blk_set (blk_set HS.out.2.2.2.2.1 0 (.slice (some ⟨bk, 0, none⟩) 4 4)) 1 (.slice (some ⟨bs, 0, none⟩) 4 4)) 2 (.slice (some ⟨bb, 0, none⟩) 4 4)) Try.underlying71 rfl info71) rfl ?_
            rw [HFO.out]
            exact ⟨bk, bs, bb, rfl, HN.out.2.2.2.1, blk_far (blk_far (blk_far HS.out.2.1 (blk_ne HS.out.2.1 HS.out.2.2.2.2.1 (by decide)) _) (blk_ne HS.out.2.1 HS.out.2.2.2.2.1 (by decide)) _) (blk_ne HS.out.2.1 HS.out.2.2.2.2.1 (by decide)) _, blk_far (blk_far (blk_far HS.out.2.2.1 (blk_ne HS.out.2.2.1 HS.out.2.2.2.2.1 (by decide)) _) (blk_ne HS.out.2.2.1 HS.out.2.2.2.2.1 (by decide)) _) (blk_ne HS.out.2.2.1 HS.out.2.2.2.2.1 (by decide)) _, blk_far (blk_far (blk_far HS.out.2.2.2.1 (blk_ne HS.out.2.2.2.1 HS.out.2.2.2.2.1 (by decide)) _) (blk_ne HS.out.2.2.2.1 HS.out.2.2.2.2.1 (by decide)) _) (blk_ne HS.out.2.2.2.1 HS.out.2.2.2.2.1 (by decide)) _, bset (bset (bset HS.out.2.2.2.2.2 HN.out.1 _ _) HN.out.1 _ _) HN.out.1 _ _⟩
    · have hltz : ¬ (r : Int) < 4 := by omega
      have hre : r = 4 := by omega
      subst hre
      have HFIN : Aside0 (s = fin) := ⟨HR.out⟩
      clear HR
      have hBW : ∀ i, wr.cell? ⟨bw, i, none⟩ = (#[.slice (some ⟨bk, 0, none⟩) 4 4, .slice (some ⟨bs, 0, none⟩) 4 4, .slice (some ⟨bb, 0, none⟩) 4 4] : Array Value)[i]? := fun i => blk_cell HS.out.1 i
      have hB6 : ∀ i, wr.cell? ⟨b6, i, none⟩ = (#[.slice none 0 0, .slice none 0 0, .slice none 0 0] : Array Value)[i]? := fun i => blk_cell HS.out.2.2.2.2.1 i
      have fzbk := fun j => blk_frozen HS.out.2.1 j
      have ltbk : bk < wr.heap.size := blk_lt HS.out.2.1
      have fzbs := fun j => blk_frozen HS.out.2.2.1 j
      have ltbs : bs < wr.heap.size := blk_lt HS.out.2.2.1
      have fzbb := fun j => blk_frozen HS.out.2.2.2.1 j
      have ltbb : bb < wr.heap.size := blk_lt HS.out.2.2.2.1
      have fzb6 := fun j => blk_frozen HS.out.2.2.2.2.1 j
      have ltb6 : b6 < wr.heap.size := blk_lt HS.out.2.2.2.2.1
      have fzbw := fun j => blk_frozen HS.out.1 j
      have ltbw : bw < wr.heap.size := blk_lt HS.out.1
      have nebkbs : ¬ bk = bs := blk_ne HS.out.2.1 HS.out.2.2.1 (by decide)
      have nebsbk : ¬ bs = bk := fun e => nebkbs e.symm
      have nebkbb : ¬ bk = bb := blk_ne HS.out.2.1 HS.out.2.2.2.1 (by decide)
      have nebbbk : ¬ bb = bk := fun e => nebkbb e.symm
      have nebsbb : ¬ bs = bb := blk_ne HS.out.2.2.1 HS.out.2.2.2.1 (by decide)
      have nebbbs : ¬ bb = bs := fun e => nebsbb e.symm
      go_wp2_with fail
      have hfe := HFIN.out
      clear hBW hB6 fzbk ltbk fzbs ltbs fzbb ltbb fzb6 ltb6 fzbw ltbw nebkbs nebsbk nebkbb nebbbk nebsbb nebbbs
      rw [hfe] at HS
      refine bodyPost_ret (results_cell_row rfl _ _ b6 71 #[.slice (some ⟨bk, 0, none⟩) 4 4, .slice (some ⟨bs, 0, none⟩) 4 4, .slice (some ⟨bb, 0, none⟩) 4 4] (0, 0) _ rfl (blk_set (blk_set (blk_set HS.out.2.2.2.2.1 0 (.slice (some ⟨bk, 0, none⟩) 4 4)) 1 (.slice (some ⟨bs, 0, none⟩) 4 4)) 2 (.slice (some ⟨bb, 0, none⟩) 4 4)) Try.underlying71 rfl info71) rfl ?_
      rw [HFO.out]
      exact ⟨bk, bs, bb, rfl, HN.out.2.2.2.1, blk_far (blk_far (blk_far HS.out.2.1 (blk_ne HS.out.2.1 HS.out.2.2.2.2.1 (by decide)) _) (blk_ne HS.out.2.1 HS.out.2.2.2.2.1 (by decide)) _) (blk_ne HS.out.2.1 HS.out.2.2.2.2.1 (by decide)) _, blk_far (blk_far (blk_far HS.out.2.2.1 (blk_ne HS.out.2.2.1 HS.out.2.2.2.2.1 (by decide)) _) (blk_ne HS.out.2.2.1 HS.out.2.2.2.2.1 (by decide)) _) (blk_ne HS.out.2.2.1 HS.out.2.2.2.2.1 (by decide)) _, blk_far (blk_far (blk_far HS.out.2.2.2.1 (blk_ne HS.out.2.2.2.1 HS.out.2.2.2.2.1 (by decide)) _) (blk_ne HS.out.2.2.2.1 HS.out.2.2.2.2.1 (by decide)) _) (blk_ne HS.out.2.2.2.1 HS.out.2.2.2.2.1 (by decide)) _, bset (bset (bset HS.out.2.2.2.2.2 HN.out.1 _ _) HN.out.1 _ _) HN.out.1 _ _⟩
inductive SpV : Int → Nat → List Value → Array Value → Array Value → Array Value → Prop
  | v_in (a1 a3 : Int) (ga1 : 0 ≤ a1) (ga1' : a1 ≤ 255) (ga3 : -510 ≤ a3) (ga3' : a3 ≤ 255)  : SpV 1 2 [.int .i64 1, .int .i64 0, .int .i64 2, .int .i64 a1, .int .i64 2, .int .i64 0, .int .i64 1, .int .i64 a3] #[.bool false, .bool true, .bool true, .bool false] #[.int .i64 0, .int .i64 0, .int .i64 a1, .int .i64 0] #[.int .i64 0, .int .i64 0, .int .i64 0, .int .i64 0, .int .i64 0, .int .i64 0, .int .i64 0, .int .i64 0, .int .i64 1, .int .i64 0, .int .i64 2, .int .i64 a1, .int .i64 0, .int .i64 0, .int .i64 0, .int .i64 0]
  | v_one   : SpV 1 0 [] #[.bool false, .bool true, .bool false, .bool false] #[.int .i64 0, .int .i64 0, .int .i64 0, .int .i64 0] #[.int .i64 0, .int .i64 0, .int .i64 0, .int .i64 0, .int .i64 0, .int .i64 0, .int .i64 0, .int .i64 0, .int .i64 0, .int .i64 0, .int .i64 0, .int .i64 0, .int .i64 0, .int .i64 0, .int .i64 0, .int .i64 0]
  | v_last   : SpV 3 0 [] #[.bool false, .bool false, .bool false, .bool true] #[.int .i64 0, .int .i64 0, .int .i64 0, .int .i64 0] #[.int .i64 0, .int .i64 0, .int .i64 0, .int .i64 0, .int .i64 0, .int .i64 0, .int .i64 0, .int .i64 0, .int .i64 0, .int .i64 0, .int .i64 0, .int .i64 0, .int .i64 0, .int .i64 0, .int .i64 0, .int .i64 0]
  | v_two (a0 a2 : Int) (ga0 : 0 ≤ a0) (ga0' : a0 ≤ 20000) (ga2 : 0 ≤ a2) (ga2' : a2 ≤ 255)  : SpV 3 2 [.int .i64 1, .int .i64 0, .int .i64 0, .int .i64 a0, .int .i64 3, .int .i64 1, .int .i64 1, .int .i64 a2] #[.bool true, .bool true, .bool false, .bool true] #[.int .i64 (a2 + a0), .int .i64 a2, .int .i64 0, .int .i64 0] #[.int .i64 1, .int .i64 0, .int .i64 0, .int .i64 a0, .int .i64 3, .int .i64 1, .int .i64 1, .int .i64 a2, .int .i64 0, .int .i64 0, .int .i64 0, .int .i64 0, .int .i64 0, .int .i64 0, .int .i64 0, .int .i64 0]
  | v_four (a0 a1 a2 a3 : Int) (ga0 : 0 ≤ a0) (ga0' : a0 ≤ 20000) (ga1 : 0 ≤ a1) (ga1' : a1 ≤ 255) (ga2 : 0 ≤ a2) (ga2' : a2 ≤ 255) (ga3 : -510 ≤ a3) (ga3' : a3 ≤ 255) (hle : a1 + a3 ≤ 0) : SpV 3 4 [.int .i64 1, .int .i64 0, .int .i64 0, .int .i64 a0, .int .i64 2, .int .i64 0, .int .i64 1, .int .i64 a1, .int .i64 3, .int .i64 1, .int .i64 1, .int .i64 a2, .int .i64 1, .int .i64 0, .int .i64 2, .int .i64 a3] #[.bool true, .bool true, .bool true, .bool true] #[.int .i64 (a2 + a0), .int .i64 a2, .int .i64 (a2 + a3), .int .i64 0] #[.int .i64 1, .int .i64 0, .int .i64 0, .int .i64 a0, .int .i64 3, .int .i64 1, .int .i64 1, .int .i64 a2, .int .i64 1, .int .i64 0, .int .i64 2, .int .i64 a3, .int .i64 0, .int .i64 0, .int .i64 0, .int .i64 0]
theorem spread_calls (bs0 ge c : Nat) (fr : Int) (n : Nat) (xs : List Value) (kn sm by_ : Array Value) (w : World) (hv : SpV fr n xs kn sm by_) (hE : w.ownsRow bs0 74 4 (.slice (some ⟨ge, 0, none⟩) n c) n xs) :
    Calls Try.prog 26 #[.int .i64 4, .int .i64 fr, .slice (some ⟨ge, 0, none⟩) n c] w fun e w' => ∃ bk bs bb, e = .returned (.agg #[.slice (some ⟨bk, 0, none⟩) 4 4, .slice (some ⟨bs, 0, none⟩) 4 4, .slice (some ⟨bb, 0, none⟩) 4 4]) ∧
      w.heap.size ≤ bs ∧ Blk w' bk kn 4 ∧ Blk w' bs sm 3 ∧ Blk w' bb by_ 74 ∧ Below w.heap.size w w' := by
  cases hv with
  | v_in a1 a3 ga1 ga1' ga3 ga3' =>
    have hr : runS 1 [⟨1, 0, 2, a1⟩, ⟨2, 0, 1, a3⟩] 4 (startS 1) = ⟨[false, true, true, false], [0, 0, a1, 0], [.int .i64 0, .int .i64 0, .int .i64 0, .int .i64 0, .int .i64 0, .int .i64 0, .int .i64 0, .int .i64 0, .int .i64 1, .int .i64 0, .int .i64 2, .int .i64 a1, .int .i64 0, .int .i64 0, .int .i64 0, .int .i64 0], false⟩ := by
      simp [runS, roundS, stepS, startS, SS.up, List.replicate]
    have h := spread_run bs0 ge c 1 [⟨1, 0, 2, a1⟩, ⟨2, 0, 1, a3⟩] w (by intro e he; simp only [List.mem_cons, List.not_mem_nil, or_false] at he; rcases he with rfl | rfl <;> dsimp only <;> omega) (by simp) (by decide) hE
    rw [hr] at h
    exact h
  | v_one  =>
    have hr : runS 1 [] 4 (startS 1) = ⟨[false, true, false, false], [0, 0, 0, 0], [.int .i64 0, .int .i64 0, .int .i64 0, .int .i64 0, .int .i64 0, .int .i64 0, .int .i64 0, .int .i64 0, .int .i64 0, .int .i64 0, .int .i64 0, .int .i64 0, .int .i64 0, .int .i64 0, .int .i64 0, .int .i64 0], false⟩ := by
      simp [runS, roundS, stepS, startS, SS.up, List.replicate]
    have h := spread_run bs0 ge c 1 [] w (by intro e he; cases he) (by simp) (by decide) hE
    rw [hr] at h
    exact h
  | v_last  =>
    have hr : runS 3 [] 4 (startS 3) = ⟨[false, false, false, true], [0, 0, 0, 0], [.int .i64 0, .int .i64 0, .int .i64 0, .int .i64 0, .int .i64 0, .int .i64 0, .int .i64 0, .int .i64 0, .int .i64 0, .int .i64 0, .int .i64 0, .int .i64 0, .int .i64 0, .int .i64 0, .int .i64 0, .int .i64 0], false⟩ := by
      simp [runS, roundS, stepS, startS, SS.up, List.replicate]
    have h := spread_run bs0 ge c 3 [] w (by intro e he; cases he) (by simp) (by decide) hE
    rw [hr] at h
    exact h
  | v_two a0 a2 ga0 ga0' ga2 ga2' =>
    have hr : runS 3 [⟨1, 0, 0, a0⟩, ⟨3, 1, 1, a2⟩] 4 (startS 3) = ⟨[true, true, false, true], [a2 + a0, a2, 0, 0], [.int .i64 1, .int .i64 0, .int .i64 0, .int .i64 a0, .int .i64 3, .int .i64 1, .int .i64 1, .int .i64 a2, .int .i64 0, .int .i64 0, .int .i64 0, .int .i64 0, .int .i64 0, .int .i64 0, .int .i64 0, .int .i64 0], false⟩ := by
      simp [runS, roundS, stepS, startS, SS.up, List.replicate]
    have h := spread_run bs0 ge c 3 [⟨1, 0, 0, a0⟩, ⟨3, 1, 1, a2⟩] w (by intro e he; simp only [List.mem_cons, List.not_mem_nil, or_false] at he; rcases he with rfl | rfl <;> dsimp only <;> omega) (by simp) (by decide) hE
    rw [hr] at h
    exact h
  | v_four a0 a1 a2 a3 ga0 ga0' ga1 ga1' ga2 ga2' ga3 ga3' hle =>
    have hd0 : ¬ (a2 < a2 + a3 + a1) := by omega
    have hr : runS 3 [⟨1, 0, 0, a0⟩, ⟨2, 0, 1, a1⟩, ⟨3, 1, 1, a2⟩, ⟨1, 0, 2, a3⟩] 4 (startS 3) = ⟨[true, true, true, true], [a2 + a0, a2, a2 + a3, 0], [.int .i64 1, .int .i64 0, .int .i64 0, .int .i64 a0, .int .i64 3, .int .i64 1, .int .i64 1, .int .i64 a2, .int .i64 1, .int .i64 0, .int .i64 2, .int .i64 a3, .int .i64 0, .int .i64 0, .int .i64 0, .int .i64 0], false⟩ := by
      simp [runS, roundS, stepS, startS, SS.up, List.replicate, hd0]
    have h := spread_run bs0 ge c 3 [⟨1, 0, 0, a0⟩, ⟨2, 0, 1, a1⟩, ⟨3, 1, 1, a2⟩, ⟨1, 0, 2, a3⟩] w (by intro e he; simp only [List.mem_cons, List.not_mem_nil, or_false] at he; rcases he with rfl | rfl | rfl | rfl <;> dsimp only <;> omega) (by simp) (by decide) hE
    rw [hr] at h
    exact h
end Go.Proofs.Ytbeochkimihglaa.PHl
