/- Rows of numbers that grow one by one, and a list beside them, no two of them in one block. -/
import Derived.Test.YtcaanbicgpfonaaU5
import Derived.Test.YtcaanbicgpfonaaA1
namespace Go.Proofs.Ytcaanbicgpfonaa.PPl
open Go.RowKit Go.Proofs.YtcaanbicgpfonaaW.PrintWords Go.Proofs.YtcaanbicgpfonaaW.PrintLast Go.Proofs.YtcaanbicgpfonaaW.PrintMore
set_option linter.unusedVariables false
set_option linter.unusedSimpArgs false

abbrev RI (W : World) (base : Nat) (v : Value) (xs : List Int) : Prop := Kd.R (Kd.int .i64) 3 W base (fun _ => True) v xs
def Both (W : World) (base B : Nat) (xss : List (List Int)) (va : Value) (al : List Int) : Prop :=
  ∃ (hs : List Value) (f : Nat → Nat), W.heap[B]? = some (.cells hs.toArray 22 (0, 0)) ∧ hs.length = xss.length ∧
    (∀ i, i < xss.length → RI W base (hs.getD i undef) (xss.getD i []) ∧ ∀ k, (hs.getD i undef).ownBlock = some k → f k = i) ∧
    RI W base va al ∧ ∀ k, va.ownBlock = some k → f k = xss.length
theorem RI.typed {W : World} {base : Nat} {v : Value} {xs : List Int} (h : RI W base v xs) (k : Nat) (hk : v.ownBlock = some k) : (∃ cells, W.heap[k]? = some (.cells cells 3 (0, 0))) ∧ base ≤ k ∧ k < W.heap.size := by
  obtain ⟨_, inner, ho, _⟩ := h
  exact ⟨own_typed ho k hk, own_base ho k hk, own_lt ho k hk⟩
theorem RI.move {W W' : World} {base : Nat} {v : Value} {xs : List Int} (h : RI W base v xs) (hm : ∀ k, v.ownBlock = some k → W'.heap[k]? = W.heap[k]?) : RI W' base v xs := by
  obtain ⟨h0, inner, ho, hr⟩ := h
  exact ⟨h0, inner, own_move ho hm, hr.imp_ (fun _ _ hp => hp)⟩
theorem Both.step {W W' : World} {base B : Nat} {xss : List (List Int)} {va : Value} {al : List Int} (h : Both W base B xss va al) (hB : base ≤ B)
    (hm : ∀ k, k < W.heap.size → base ≤ k → (∃ cells t, W.heap[k]? = some (.cells cells t (0, 0)) ∧ (t = 3 ∨ t = 22)) → W'.heap[k]? = W.heap[k]?) : Both W' base B xss va al := by
  obtain ⟨hs, f, h1, h2, h3, h4, h5⟩ := h
  have mv : ∀ {v : Value} {xs : List Int}, RI W base v xs → RI W' base v xs := fun {v xs} hR => hR.move (fun k hk => by
    obtain ⟨⟨c, hc⟩, hb, hl⟩ := hR.typed k hk
    exact hm k hl hb ⟨c, 3, hc, .inl rfl⟩)
  exact ⟨hs, f, (hm B (blk_lt h1) hB ⟨_, 22, h1, .inr rfl⟩).trans h1, h2, fun i hi => ⟨mv (h3 i hi).1, (h3 i hi).2⟩, mv h4, h5⟩
theorem Both.below {W W' : World} {base B : Nat} {xss : List (List Int)} {va : Value} {al : List Int} (h : Both W base B xss va al) (hB : base ≤ B) (hb : Below W.heap.size W W') : Both W' base B xss va al :=
  h.step hB (fun k hk _ _ => hb.block k hk)
theorem Both.keep {W W' : World} {base B g : Nat} {xss : List (List Int)} {va : Value} {al : List Int} (h : Both W base B xss va al) (hB : base ≤ B) (hk : KeepBut W W' g none) (hg : g < base) : Both W' base B xss va al :=
  h.step hB (fun k hk' hb _ => hk.2 k hk' (by omega) (by simp))
theorem Both.made (W : World) (n : Nat) (hn : n ≤ 1000) : Both (W.alloc (.cells (madeCells #[.slice none 0 0] n) 22)) W.heap.size W.heap.size (List.replicate n []) (.slice none 0 0) [] := by
  refine ⟨(madeCells #[.slice none 0 0] n).toList, fun _ => 0, by simpa using heap_alloc_new W _, by simp [madeCells], fun i hi => ?_, Kd.R_nil _ _ _ _ _, fun k hk => by simp [Value.ownBlock] at hk⟩
  have hi' : i < n := by simpa using hi
  have e1 : (madeCells #[Value.slice none 0 0] n).toList.getD i undef = .slice none 0 0 := by simp [madeCells, List.getD_eq_getElem?_getD, hi', Nat.mod_one]
  have e2 : (List.replicate n ([] : List Int)).getD i [] = [] := by simp [List.getD_eq_getElem?_getD, hi']
  rw [e1, e2]
  exact ⟨Kd.R_nil _ _ _ _ _, fun k hk => by simp [Value.ownBlock] at hk⟩
theorem getD_set_v (hs : List Value) (i j : Nat) (v : Value) (hj : j < hs.length) : (hs.set i v).getD j undef = if i = j then v else hs.getD j undef := by
  rw [List.getD_eq_getElem?_getD, List.getElem?_set]
  split
  · subst_vars; rw [if_pos hj]; rfl
  · rw [← List.getD_eq_getElem?_getD]
theorem getD_set_r (xss : List (List Int)) (i j : Nat) (r : List Int) (hj : j < xss.length) : (xss.set i r).getD j [] = if i = j then r else xss.getD j [] := by
  rw [List.getD_eq_getElem?_getD, List.getElem?_set]
  split
  · subst_vars; rw [if_pos hj]; rfl
  · rw [← List.getD_eq_getElem?_getD]
/-- The list has grown. -/
theorem Both.all {W w1 : World} {base B : Nat} {xss : List (List Int)} {va v1 : Value} {al al' : List Int} (h : Both W base B xss va al) (hB : base ≤ B) (hR : RI w1 base v1 al') (hg : W.grownBy w1 va.ownBlock)
    (hat : v1.ownBlock = va.ownBlock ∨ ∃ b, v1.ownBlock = some b ∧ W.heap.size ≤ b) : Both w1 base B xss v1 al' := by
  obtain ⟨hs, f, h1, h2, h3, h4, h5⟩ := h
  refine ⟨hs, fun k => if W.heap.size ≤ k then xss.length else f k, ?_, h2, fun i hi => ⟨?_, fun k hk => ?_⟩, hR, fun k hk => ?_⟩
  · refine (hg.block B (blk_lt h1) (fun e => ?_)).trans h1
    obtain ⟨⟨c, hc⟩, _, _⟩ := h4.typed B e.symm
    rw [h1] at hc
    injection hc with hc
    injection hc with _ hc
    cases hc
  · obtain ⟨a, b⟩ := h3 i hi
    refine a.move (fun k hk => hg.block k (a.typed k hk).2.2 (fun e => ?_))
    have e1 := b k hk
    have e2 := h5 k e.symm
    omega
  · obtain ⟨a, b⟩ := h3 i hi
    have hl := (a.typed k hk).2.2
    show (if W.heap.size ≤ k then xss.length else f k) = i
    rw [if_neg (by omega)]
    exact b k hk
  · show (if W.heap.size ≤ k then xss.length else f k) = xss.length
    split
    · rfl
    · rename_i hlt
      rcases hat with hat | ⟨b, hb, hle⟩
      · exact h5 k (hat ▸ hk)
      · rw [hb] at hk
        injection hk with hk
        omega
/-- One row has grown, and its head is stored. -/
theorem Both.row {W w1 : World} {base B : Nat} {xss : List (List Int)} {va vj v1 : Value} {al r' : List Int} (h : Both W base B xss va al) (hB : base ≤ B) (j : Nat) (hj : j < xss.length)
    (hvj : W.cell? ⟨B, j, none⟩ = some vj) (hR : RI w1 base v1 r') (hg : W.grownBy w1 vj.ownBlock)
    (hat : v1.ownBlock = vj.ownBlock ∨ ∃ b, v1.ownBlock = some b ∧ W.heap.size ≤ b) : Both (w1.setCell ⟨B, j, none⟩ v1) base B (xss.set j r') va al := by
  obtain ⟨hs, f, h1, h2, h3, h4, h5⟩ := h
  have hvj' : hs.getD j undef = vj := by
    rw [blk_cell h1] at hvj
    rw [List.getD_eq_getElem?_getD]
    have : hs[j]? = some vj := by simpa using hvj
    rw [this]; rfl
  subst hvj'
  obtain ⟨a, b⟩ := h3 j hj
  have hB1 : w1.heap[B]? = some (.cells hs.toArray 22 (0, 0)) := by
    refine (hg.block B (blk_lt h1) (fun e => ?_)).trans h1
    obtain ⟨⟨c, hc⟩, _, _⟩ := a.typed B e.symm
    rw [h1] at hc
    injection hc with hc
    injection hc with _ hc
    cases hc
  have nB : ∀ {v : Value} {xs : List Int}, RI w1 base v xs → RI (w1.setCell ⟨B, j, none⟩ v1) base v xs := fun {v xs} hR => hR.move (fun k hk => by
    obtain ⟨⟨c, hc⟩, _, _⟩ := hR.typed k hk
    refine Below.heap_setCell w1 ⟨B, j, none⟩ v1 k (fun e => ?_)
    simp at e
    subst e
    rw [hB1] at hc
    injection hc with hc
    injection hc with _ hc
    cases hc)
  refine ⟨hs.set j v1, fun k => if W.heap.size ≤ k then j else f k, by simpa using blk_set hB1 j v1, by simpa using h2, fun i hi => ?_, ?_, fun k hk => ?_⟩
  · have hi' : i < xss.length := by simpa using hi
    rw [getD_set_v _ _ _ _ (by omega), getD_set_r _ _ _ _ hi']
    by_cases e : j = i
    · subst e
      rw [if_pos rfl, if_pos rfl]
      refine ⟨nB hR, fun k hk => ?_⟩
      show (if W.heap.size ≤ k then j else f k) = j
      split
      · rfl
      · rename_i hlt
        rcases hat with hat | ⟨b', hb, hle⟩
        · exact b k (hat ▸ hk)
        · rw [hb] at hk
          injection hk with hk
          omega
    · rw [if_neg e, if_neg e]
      obtain ⟨a2, b2⟩ := h3 i hi'
      refine ⟨nB (a2.move (fun k hk => hg.block k (a2.typed k hk).2.2 (fun e3 => ?_))), fun k hk => ?_⟩
      · have e1 := b2 k hk
        have e2 := b k e3.symm
        omega
      · have hl := (a2.typed k hk).2.2
        show (if W.heap.size ≤ k then j else f k) = i
        rw [if_neg (by omega)]
        exact b2 k hk
  · refine nB (h4.move (fun k hk => hg.block k (h4.typed k hk).2.2 (fun e3 => ?_)))
    have e1 := h5 k hk
    have e2 := b k e3.symm
    omega
  · have hl := (h4.typed k hk).2.2
    show (if W.heap.size ≤ k then j else f k) = (xss.set j r').length
    rw [if_neg (by omega), List.length_set]
    exact h5 k hk
/-- A row's head lies in the block. -/
theorem Both.cell {W : World} {base B : Nat} {xss : List (List Int)} {va : Value} {al : List Int} (h : Both W base B xss va al) (j : Nat) (hj : j < xss.length) :
    ∃ A c, W.cell? ⟨B, j, none⟩ = some (.slice A (xss.getD j []).length c) ∧ RI W base (.slice A (xss.getD j []).length c) (xss.getD j []) ∧ W.frozen? ⟨B, j, none⟩ = false := by
  obtain ⟨hs, f, h1, h2, h3, h4, h5⟩ := h
  obtain ⟨a, b⟩ := h3 j hj
  obtain ⟨A, c, hv⟩ := Kd.R_slice a
  refine ⟨A, c, ?_, by rw [← hv]; exact a, blk_frozen h1 j⟩
  rw [blk_cell h1, ← hv, List.getD_eq_getElem?_getD]
  simp [show j < hs.length by omega]
theorem Both.list {W : World} {base B : Nat} {xss : List (List Int)} {va : Value} {al : List Int} (h : Both W base B xss va al) : RI W base va al := by
  obtain ⟨hs, f, h1, h2, h3, h4, h5⟩ := h
  exact h4
theorem Both.C {W : World} {base B : Nat} {xss : List (List Int)} {va : Value} {al : List Int} (h : Both W base B xss va al) (hl : xss.length ≤ 1000) : Kd.C (Kd.slice 3 (Kd.int .i64)) W (some ⟨B, 0, none⟩) xss.length xss := by
  obtain ⟨hs, f, h1, h2, h3, h4, h5⟩ := h
  refine C_block h1 ⟨by rw [h2]; exact (Nat.mul_one _).symm, fun j p hj => ?_⟩ (by decide) (by omega)
  have hjl : j < xss.length := (List.getElem?_eq_some_iff.1 hj).1
  have hp : xss.getD j [] = p := by rw [List.getD_eq_getElem?_getD, hj]; rfl
  have := (h3 j hjl).1
  rw [hp] at this
  obtain ⟨A, c, hv, hc, hC⟩ := Kd.R_reads this
  have e : (hs.drop (j * (Kd.slice 3 (Kd.int .i64)).sz)).take (Kd.slice 3 (Kd.int .i64)).sz = [hs.getD j undef] := by
    show (hs.drop (j * 1)).take 1 = _
    rw [Nat.mul_one, List.getD_eq_getElem?_getD, List.getElem?_eq_getElem (by omega), List.drop_eq_getElem_cons (by omega)]
    rfl
  rw [e, hv]
  exact ⟨A, c, rfl, hc, hC⟩
theorem RI.elem {W : World} {base : Nat} {A : Option Addr} {c : Nat} {xs : List Int} (h : RI W base (.slice A xs.length c) xs) (j : Nat) (hj : j < xs.length) : ∃ g, A = some ⟨g, 0, none⟩ ∧ W.cell? ⟨g, j, none⟩ = some (.int .i64 (xs.getD j 0)) := by
  obtain ⟨g, cap, hv, _⟩ := Kd.R_form h (by omega)
  injection hv with hA _ hc
  subst hA hc
  refine ⟨g, rfl, ?_⟩
  obtain ⟨_, _, hC⟩ := Kd.R_reads' h
  obtain ⟨_, _, hC⟩ := hC
  obtain ⟨ad, had, hC⟩ := hC (by omega)
  obtain rfl := Option.some.inj had
  obtain ⟨q, _, k, f⟩ := hC j (xs.getD j 0) (by rw [List.getD_eq_getElem?_getD, List.getElem?_eq_getElem hj]; rfl)
  have k' : q = [.int .i64 (xs.getD j 0)] := k
  subst k'
  have := f 0 _ rfl
  rw [add_plain] at this
  simpa [Kd.int, Kd.scalar] using this
end Go.Proofs.Ytcaanbicgpfonaa.PPl
