/- Small facts for the law PersistStays: a copy of contents; what a round of uses leaves. -/
import Derived.Test.YtcaanbicgpfonaaV1
import Derived.Maps.RangeWalk
import Derived.Maps.OwnOps
namespace Go.Proofs.Ytcaanbicgpfonaa.PPl
open Go.RowKit Go.Proofs.YtcaanbicgpfonaaW.PrintWords Go.Proofs.YtcaanbicgpfonaaW.PrintLast Go.Proofs.YtcaanbicgpfonaaW.PrintMore
set_option linter.unusedVariables false
set_option linter.unusedSimpArgs false

theorem copy_l0 (x : List (List Int)) (hx : x.length ≤ 8) (hr : ∀ r ∈ x, r.length ≤ 8) : ∀ (d t : Nat), t + d = x.length → ∃ k, timeboundref22_Copy.l0 k t x (x.take t) = some x
  | 0, t, h => ⟨1, by unfold timeboundref22_Copy.l0; rw [if_neg (by omega), List.take_of_length_le (by omega)]⟩
  | d + 1, t, h => by
    have ht : t < x.length := by omega
    obtain ⟨k, e⟩ := copy_l0 x hx hr d (t + 1) (by omega)
    refine ⟨k + 1, ?_⟩
    have hrd : rd_L7 x (t : Int) = x[t] := by
      unfold rd_L7
      rw [Int.toNat_natCast, List.getD_eq_getElem?_getD, List.getElem?_eq_getElem ht]; rfl
    have hl := hr _ (List.getElem_mem ht)
    unfold timeboundref22_Copy.l0
    simp only [Option.bind_some]
    rw [if_pos (by omega), if_pos (by omega), hrd, if_pos (by simp; omega), if_pos (by rw [List.length_take]; omega), show wrap64 ((t : Int) + 1) = ((t + 1 : Nat) : Int) by unfold wrap64; omega, List.nil_append]
    have : x.take t ++ [x[t]] = x.take (t + 1) := by rw [List.take_add_one, List.getElem?_eq_getElem ht]; rfl
    rw [this]
    exact e
theorem copy_is (x : List (List Int)) (hx : x.length ≤ 8) (hr : ∀ r ∈ x, r.length ≤ 8) : ∃ k, timeboundref22_Copy.f k x = some x := by
  obtain ⟨k, e⟩ := copy_l0 x hx hr x.length 0 (by omega)
  exact ⟨k, e⟩
/-- All blocks that were there stay, but three. -/
def KeepThree (W0 W : World) (g b c : Nat) : Prop := W0.heap.size ≤ W.heap.size ∧ ∀ k, k < W0.heap.size → k ≠ g → k ≠ b → k ≠ c → W.heap[k]? = W0.heap[k]?
theorem KeepThree.refl (W : World) (g b c : Nat) : KeepThree W W g b c := ⟨Nat.le_refl _, fun _ _ _ _ _ => rfl⟩
theorem KeepThree.below {W0 W W' : World} {g b c : Nat} (h : KeepThree W0 W g b c) (hb : Below W.heap.size W W') : KeepThree W0 W' g b c :=
  ⟨Nat.le_trans h.1 hb.size, fun k hk h1 h2 h3 => (hb.block k (Nat.lt_of_lt_of_le hk h.1)).trans (h.2 k hk h1 h2 h3)⟩
theorem KeepThree.deck {W0 W W' : World} {g b c : Nat} (h : KeepThree W0 W g b c) (hb : KeepBut W W' g none) : KeepThree W0 W' g b c :=
  ⟨Nat.le_trans h.1 hb.1, fun k hk h1 h2 h3 => (hb.2 k (Nat.lt_of_lt_of_le hk h.1) h1 (by simp)).trans (h.2 k hk h1 h2 h3)⟩
theorem KeepThree.wrote {W0 W W' : World} {g b c base : Nat} (h : KeepThree W0 W g b c) (hw : WroteOne base W W') (hb : W0.heap.size ≤ base) : KeepThree W0 W' g b c := by
  obtain ⟨gw, h1, _, h3⟩ := hw
  exact ⟨Nat.le_trans h.1 h3.size, fun k hk e1 e2 e3 => (h3.block k (Nat.lt_of_lt_of_le hk h.1) (fun e => by injection e with e; omega)).trans (h.2 k hk e1 e2 e3)⟩
theorem KeepThree.set {W0 W : World} {g b c j : Nat} (h : KeepThree W0 W g b c) (u : Value) : KeepThree W0 (W.setCell ⟨b, j, none⟩ u) g b c :=
  ⟨by simpa using h.1, fun k hk h1 h2 h3 => (Below.heap_setCell W ⟨b, j, none⟩ u k (by simpa using h2)).trans (h.2 k hk h1 h2 h3)⟩
theorem KeepThree.map {W0 W W' : World} {g b c : Nat} (h : KeepThree W0 W g b c) (hg : W.grownBy W' (some c)) : KeepThree W0 W' g b c :=
  ⟨Nat.le_trans h.1 hg.size, fun k hk h1 h2 h3 => (hg.block k (Nat.lt_of_lt_of_le hk h.1) (fun e => h3 (by injection e))).trans (h.2 k hk h1 h2 h3)⟩
theorem KeepThree.both {W0 W : World} {base B g b c : Nat} {xss : List (List Int)} {va : Value} {al : List Int} (h : KeepThree W0 W g b c) (hB : base ≤ B) (hO : Both W0 base B xss va al) (hg : g < base) (hb : b < base) (hc : ∀ cells t, W0.heap[c]? ≠ some (.cells cells t (0, 0))) : Both W base B xss va al :=
  hO.step hB (fun k hk hk2 ⟨cells, t, hh, _⟩ => h.2 k hk (by omega) (by omega) (fun e => hc cells t (e ▸ hh)))
theorem KeepThree.blk {W0 W : World} {g b c k : Nat} {o : Obj} (h : KeepThree W0 W g b c) (hk : W0.heap[k]? = some o) (h1 : k ≠ g) (h2 : k ≠ b) (h3 : k ≠ c) : W.heap[k]? = some o := (h.2 k (blk_lt hk) h1 h2 h3).trans hk
theorem wf_small {m : Int} (h0 : 0 ≤ m) (h1 : m ≤ 1000000) : (Lit.int .i64 m).wf = true := by
  have h2 : IntKind.min .i64 ≤ m := by show (-9223372036854775808 : Int) ≤ m; omega
  have h3 : m ≤ IntKind.max .i64 := by show m ≤ (9223372036854775807 : Int); omega
  show (decide (IntKind.min .i64 ≤ m) && decide (m ≤ IntKind.max .i64)) = true
  rw [decide_eq_true h2, decide_eq_true h3]; rfl
/-- A map of counts. -/
def Counts (W : World) (bm n : Nat) (miss : Int → Int) : Prop := ∃ D : DataW Unit, W.ownsMap Try.prog 3 (plainElem Try.prog 3) bm n D ∧ Maps.IsMap D ∧ ∀ m : Int, (Lit.int .i64 m).wf = true → D.atKey (.int .i64 m) (.lit (.int .i64 0)) = .lit (.int .i64 (miss m))
theorem Counts.move {W W' : World} {bm n : Nat} {miss : Int → Int} (h : Counts W bm n miss) (hm : W'.heap[bm]? = W.heap[bm]?) : Counts W' bm n miss := by
  obtain ⟨D, ⟨es, clock, hb, F, hs, hD⟩, h2⟩ := h
  exact ⟨D, ⟨es, clock, hm.trans hb, F, hs, hD⟩, h2⟩
theorem Counts.lt {W : World} {bm n : Nat} {miss : Int → Int} (h : Counts W bm n miss) : bm < W.heap.size := by
  obtain ⟨D, h1, _⟩ := h
  exact h1.lt
theorem Counts.block {W : World} {bm n : Nat} {miss : Int → Int} (h : Counts W bm n miss) : ∀ cells t, W.heap[bm]? ≠ some (.cells cells t (0, 0)) := by
  obtain ⟨D, ⟨es, clock, hb, _⟩, _⟩ := h
  intro cells t e
  rw [hb] at e
  cases e
theorem Counts.below {W W' : World} {bm n : Nat} {miss : Int → Int} (h : Counts W bm n miss) (hb : Below W.heap.size W W') : Counts W' bm n miss := h.move (hb.block bm h.lt)
theorem Counts.deck {W W' : World} {bm n g : Nat} {miss : Int → Int} (h : Counts W bm n miss) (hk : KeepBut W W' g none) (hg : bm ≠ g) : Counts W' bm n miss := h.move (hk.2 bm h.lt hg (by simp))
theorem Counts.wrote {W W' : World} {bm n base : Nat} {miss : Int → Int} (h : Counts W bm n miss) (hw : WroteOne base W W') : Counts W' bm n miss := by
  obtain ⟨g, h1, ⟨cg, h2⟩, h3⟩ := hw
  refine h.move (h3.block bm h.lt (fun e => ?_))
  injection e with e
  subst e
  exact h.block _ _ h2
theorem Counts.more {W : World} {bm n n' : Nat} {miss : Int → Int} (h : Counts W bm n miss) (hn : n ≤ n') : Counts W bm n' miss := by
  obtain ⟨D, h1, h2⟩ := h
  exact ⟨D, h1.mono hn, h2⟩
theorem Counts.start (W : World) : Counts (W.alloc (.map #[] 0)) W.heap.size 0 (fun _ => 0) :=
  ⟨.map [], World.ownsMap_made _ _ _ _, Maps.isMap_empty, fun m hm => rfl⟩
theorem counts_put {W : World} {bm n : Nat} {miss : Int → Int} {D : DataW Unit} {k c : Int} (hk : (Lit.int .i64 k).wf = true) (h1 : W.ownsMap Try.prog 3 (plainElem Try.prog 3) bm n (D.put (.int .i64 k) (.lit (.int .i64 c)))) (h2 : Maps.IsMap D)
    (h3 : ∀ m : Int, (Lit.int .i64 m).wf = true → D.atKey (.int .i64 m) (.lit (.int .i64 0)) = .lit (.int .i64 (miss m))) : Counts W bm n (fun m => if m = k then c else miss m) := by
  refine ⟨_, h1, h2.put _ _, fun m hm => ?_⟩
  show _ = DataW.lit (Lit.int .i64 (if m = k then c else miss m))
  by_cases e : m = k
  · subst e
    rw [if_pos rfl]
    exact Maps.atKey_put_same (k := .int .i64 m) h2 (show WideAt.IsKeyLit (.int .i64 m) from trivial) _ _
  · rw [if_neg e, Maps.atKey_put_other (fun e2 => e (by injection e2))]
    exact h3 m hm
theorem S_set42 {W : World} {bs b j : Nat} {v : Value} {x : List (List Int)} {cs : Array Value} (h : Kd.S (Kd.slice 3 (Kd.int .i64)) 22 W bs (fun _ => True) v x) (hb : W.heap[b]? = some (.cells cs 42 (0, 0))) (u : Value) : Kd.S (Kd.slice 3 (Kd.int .i64)) 22 (W.setCell ⟨b, j, none⟩ u) bs (fun _ => True) v x :=
  Kd.S_set h hb (by intro q hq; simp [Kd.slice, Kd.int, Kd.scalar] at hq; omega) j u
theorem S_map {W W' : World} {bs bm : Nat} {v : Value} {x : List (List Int)} (h : Kd.S (Kd.slice 3 (Kd.int .i64)) 22 W bs (fun _ => True) v x) (hm : ∀ cells t, W.heap[bm]? ≠ some (.cells cells t (0, 0))) (hg : W.grownBy W' (some bm)) : Kd.S (Kd.slice 3 (Kd.int .i64)) 22 W' bs (fun _ => True) v x :=
  Kd.S_mono (Kd.S_grown (Kd.S_bound h) hg (fun k hk e => by
    obtain ⟨_, _, _, q, _, cells, hc⟩ := hk
    injection e with e
    subst e
    exact hm _ _ hc)) (fun _ _ => trivial)
theorem S_deck {w0 W W' : World} {bs g : Nat} {v : Value} {x : List (List Int)} {L : List Int} {q : Int} (h : Kd.S (Kd.slice 3 (Kd.int .i64)) 22 W bs (fun _ => True) v x) (hI : IsS51 w0 W g L q) (hk : KeepBut W W' g none) : Kd.S (Kd.slice 3 (Kd.int .i64)) 22 W' bs (fun _ => True) v x := by
  obtain ⟨A0, c0, hb, _⟩ := hI
  exact Kd.S_mono (Kd.S_keep (Kd.S_types h hb (by intro q hq; simp [Kd.slice, Kd.int, Kd.scalar] at hq; omega)) hk (fun k hk => hk.2)) (fun _ _ => trivial)
theorem wrote_below {w W W' : World} {base : Nat} (h : Below w.heap.size w W) (hw : WroteOne base W W') (hb : w.heap.size ≤ base) : Below w.heap.size w W' := hw.below h hb
end Go.Proofs.Ytcaanbicgpfonaa.PPl
