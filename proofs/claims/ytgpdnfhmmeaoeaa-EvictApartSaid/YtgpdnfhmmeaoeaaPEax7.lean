-- printed by wip/tools/print2.sh (the kit's print, with given texts of this repo); not trusted: Lean checks it
import Derived.Test.YtgpdnfhmmeaoeaaPEax0
import Derived.Test.YtgpdnfhmmeaoeaaPEax1
import Derived.Test.YtgpdnfhmmeaoeaaPEax4
import Derived.Test.YtgpdnfhmmeaoeaaPEax6
namespace Go.Proofs.Ytgpdnfhmmeaoeaa.PEa
open Go.RowKit Go.Proofs.YtgpdnfhmmeaoeaaW.PrintWords Go.Proofs.YtgpdnfhmmeaoeaaW.PrintLast Go.Proofs.YtgpdnfhmmeaoeaaW.PrintMore
attribute [local go_sem] max2_int min2_int max_two min_two max_three min_three max_four min_four   -- for this text's walks alone
set_option linter.unusedVariables false
set_option linter.unusedSimpArgs false

theorem apart_info22 : (Try.prog.info? 22).map (fun i => (i.zero, i.size, i.bytes)) = some (some (.slice none 0 0), 1, 24) := by kernel_rfl
/-! ### rows of rows that the call itself has made, told block by block -/
/-- A slice of whole numbers: nil and empty, or the whole of a block. -/
def RowAt (W : World) (v : Value) (xs : List Int) : Prop :=
  (v = .slice none 0 0 ∧ xs = []) ∨ ∃ b, v = .slice (some ⟨b, 0, none⟩) xs.length xs.length ∧ W.heap[b]? = some (.cells (xs.map (Value.int .i64)).toArray 3 (0, 0)) ∧ xs.length ≤ 1000
/-- Block B holds such slices. -/
def RowsAt (W : World) (B : Nat) (xss : List (List Int)) : Prop :=
  ∃ cs : List Value, W.heap[B]? = some (.cells cs.toArray 22 (0, 0)) ∧ cs.length = xss.length ∧ ∀ i, i < xss.length → RowAt W (cs.getD i undef) (xss.getD i [])
theorem RowAt.move {W W' : World} {v : Value} {xs : List Int} (h : RowAt W v xs) (hk : ∀ (b : Nat) (cs : Array Value), W.heap[b]? = some (.cells cs 3 (0, 0)) → W'.heap[b]? = some (.cells cs 3 (0, 0))) : RowAt W' v xs := by
  rcases h with h | ⟨b, rfl, hb, hl⟩
  · exact .inl h
  · exact .inr ⟨b, rfl, hk b _ hb, hl⟩
theorem RowsAt.move {W W' : World} {B : Nat} {xss : List (List Int)} (h : RowsAt W B xss) (hB : ∀ cs : Array Value, W.heap[B]? = some (.cells cs 22 (0, 0)) → W'.heap[B]? = some (.cells cs 22 (0, 0))) (hk : ∀ (b : Nat) (cs : Array Value), W.heap[b]? = some (.cells cs 3 (0, 0)) → W'.heap[b]? = some (.cells cs 3 (0, 0))) : RowsAt W' B xss := by
  obtain ⟨cs, h1, h2, h3⟩ := h
  exact ⟨cs, hB _ h1, h2, fun i hi => (h3 i hi).move hk⟩
theorem RowsAt.alloc {W : World} {B : Nat} {xss : List (List Int)} (h : RowsAt W B xss) (o : Obj) : RowsAt (W.alloc o) B xss := h.move (fun _ h => blk_alloc h o) (fun _ _ h => blk_alloc h o)
theorem RowsAt.drew {W : World} {B : Nat} {xss : List (List Int)} (h : RowsAt W B xss) : RowsAt W.drew B xss := h
theorem RowsAt.below {W W' : World} {B : Nat} {xss : List (List Int)} (h : RowsAt W B xss) (hb : Below W.heap.size W W') : RowsAt W' B xss := h.move (fun _ h => blk_below h hb) (fun _ _ h => blk_below h hb)
theorem blk_other {W : World} {b g : Nat} {cs cg : Array Value} {t t' : TypeId} (h : W.heap[b]? = some (.cells cs t (0, 0))) (hg : W.heap[g]? = some (.cells cg t' (0, 0))) (ht : t ≠ t') : b ≠ g := by
  rintro rfl
  rw [h] at hg
  injection hg with hg
  injection hg with _ hg
  exact ht hg
theorem RowsAt.keep {W W' : World} {B g : Nat} {cg : Array Value} {t : TypeId} {xss : List (List Int)} (h : RowsAt W B xss) (hg : W.heap[g]? = some (.cells cg t (0, 0))) (h22 : 22 ≠ t) (h3 : 3 ≠ t) (hk : KeepBut W W' g none) : RowsAt W' B xss :=
  h.move (fun _ h => hk.blk h (blk_other h hg h22) (by simp)) (fun _ _ h => hk.blk h (blk_other h hg h3) (by simp))
theorem RowsAt.far {W : World} {B B' : Nat} {cs' : Array Value} {xss : List (List Int)} (h : RowsAt W B xss) (hB' : W.heap[B']? = some (.cells cs' 22 (0, 0))) (hne : B ≠ B') (j : Nat) (u : Value) : RowsAt (W.setCell ⟨B', j, none⟩ u) B xss :=
  h.move (fun _ h => blk_far h hne u) (fun _ _ h => blk_far h (blk_other h hB' (by decide)) u)
theorem RowsAt.set {W : World} {B : Nat} {xss : List (List Int)} (h : RowsAt W B xss) (j : Nat) (u : Value) (x : List Int) (hu : RowAt W u x) : RowsAt (W.setCell ⟨B, j, none⟩ u) B (xss.set j x) := by
  obtain ⟨cs, h1, h2, h3⟩ := h
  have hm : ∀ (b : Nat) (cs' : Array Value), W.heap[b]? = some (.cells cs' 3 (0, 0)) → (W.setCell ⟨B, j, none⟩ u).heap[b]? = some (.cells cs' 3 (0, 0)) := fun b cs' h => blk_far h (blk_other h h1 (by decide)) u
  refine ⟨cs.set j u, by simpa using blk_set h1 j u, by simpa using h2, fun i hi => ?_⟩
  have hi' : i < xss.length := by simpa using hi
  have hic : i < cs.length := by omega
  simp only [List.getD_eq_getElem?_getD, List.getElem?_set]
  by_cases e : j = i
  · subst e
    rw [if_pos rfl, if_pos hic, if_pos rfl, if_pos hi']
    exact hu.move hm
  · rw [if_neg e, if_neg e]
    have := (h3 i hi').move hm
    simpa [List.getD_eq_getElem?_getD] using this
theorem RowsAt.blk {W : World} {B : Nat} {xss : List (List Int)} (h : RowsAt W B xss) : ∃ cs : Array Value, W.heap[B]? = some (.cells cs 22 (0, 0)) ∧ ∀ i, i < xss.length → ∃ v, cs[i]? = some v := by
  obtain ⟨cs, h1, h2, h3⟩ := h
  exact ⟨_, h1, fun i hi => ⟨cs[i]'(by omega), by simp [show i < cs.length by omega]⟩⟩
theorem RowAt.K {W : World} {v : Value} {xs : List Int} (h : RowAt W v xs) : (Kd.slice 3 (Kd.int .i64)).K W xs [v] := by
  rcases h with ⟨rfl, rfl⟩ | ⟨b, rfl, hb, hl⟩
  · exact ⟨none, 0, rfl, Nat.le_refl _, C_nil _ _⟩
  · exact ⟨_, _, rfl, Nat.le_refl _, C_ints _ hb (by omega)⟩
theorem RowsAt.C {W : World} {B : Nat} {xss : List (List Int)} (h : RowsAt W B xss) (hl : xss.length ≤ 1000) : Kd.C (Kd.slice 3 (Kd.int .i64)) W (some ⟨B, 0, none⟩) xss.length xss := by
  obtain ⟨cs, h1, h2, h3⟩ := h
  refine C_block h1 ⟨by rw [h2]; exact (Nat.mul_one _).symm, fun j p hj => ?_⟩ (by decide) (by omega)
  have hjl : j < xss.length := (List.getElem?_eq_some_iff.1 hj).1
  have hp : xss.getD j [] = p := by rw [List.getD_eq_getElem?_getD, hj]; rfl
  have := (h3 j hjl).K
  rw [hp] at this
  have e : (cs.drop (j * (Kd.slice 3 (Kd.int .i64)).sz)).take (Kd.slice 3 (Kd.int .i64)).sz = [cs.getD j undef] := by
    show (cs.drop (j * 1)).take 1 = _
    rw [Nat.mul_one, List.getD_eq_getElem?_getD, List.getElem?_eq_getElem (by omega), List.drop_eq_getElem_cons (by omega)]
    rfl
  rw [e]
  exact this
theorem RowsAt.made (W : World) (n : Nat) : RowsAt (W.alloc (.cells (madeCells #[.slice none 0 0] n) 22)) W.heap.size (List.replicate n []) := by
  refine ⟨(madeCells #[.slice none 0 0] n).toList, by simpa using heap_alloc_new W _, by simp [madeCells], fun i hi => .inl ⟨?_, ?_⟩⟩
  · have hi' : i < n := by simpa using hi
    simp [madeCells, List.getD_eq_getElem?_getD, hi', Nat.mod_one]
  · have hi' : i < n := by simpa using hi
    simp [List.getD_eq_getElem?_getD, hi']

theorem RowsAt.put {W X : World} {B : Nat} {xss : List (List Int)} (h : RowsAt W B xss) (j : Nat) (u : Value) (x : List Int) (hB : ∀ cs : Array Value, W.heap[B]? = some (.cells cs 22 (0, 0)) → X.heap[B]? = some (.cells (cs.setIfInBounds j u) 22 (0, 0)))
    (hk : ∀ (b : Nat) (cs : Array Value), W.heap[b]? = some (.cells cs 3 (0, 0)) → X.heap[b]? = some (.cells cs 3 (0, 0))) (hu : RowAt X u x) : RowsAt X B (xss.set j x) := by
  obtain ⟨cs, h1, h2, h3⟩ := h
  refine ⟨cs.set j u, by simpa using hB _ h1, by simpa using h2, fun i hi => ?_⟩
  have hi' : i < xss.length := by simpa using hi
  have hic : i < cs.length := by omega
  simp only [List.getD_eq_getElem?_getD, List.getElem?_set]
  by_cases e : j = i
  · subst e
    rw [if_pos rfl, if_pos hic, if_pos rfl, if_pos hi']
    exact hu
  · rw [if_neg e, if_neg e]
    have := (h3 i hi').move hk
    simpa [List.getD_eq_getElem?_getD] using this
theorem two_blocks (Y : World) (A B : Obj) (n : Nat) (hn : Y.heap.size = n) : ((Y.alloc A).alloc B).heap[n]? = some A ∧ ((Y.alloc A).alloc B).heap[n + 1]? = some B := by
  subst hn
  refine ⟨blk_alloc (heap_alloc_new Y A) B, ?_⟩
  have := heap_alloc_new (Y.alloc A) B
  rwa [show (Y.alloc A).heap.size = Y.heap.size + 1 by simp] at this

/-! ### what the loop computes -/
theorem different_nil : different [] = 0 := rfl
theorem different_one (a : Int) : different [a] = 1 := rfl
theorem sameKey_int (a b : Int) : (Lit.int .i64 a).sameKey (.int .i64 b) = decide (a = b) := by
  by_cases h : a = b
  · subst h
    rw [decide_eq_true rfl]
    exact WideAt.sameKey_self trivial
  · rw [decide_eq_false h]
    exact Maps.sameKey_ne (fun e => h (by injection e))
theorem different_two (a b : Int) (h : a ≠ b) : different [a, b] = 2 := by
  simp [different, Maps.addKey, sameKey_int, h]
theorem sumC_set (ways : Int) (mine other : List (List Int)) (k : Nat) (x y : List Int) : ∀ i, i ≤ k → sumC ways (mine.set k x) [other.set k y] i = sumC ways mine [other] i
  | 0, _ => rfl
  | i + 1, h => by
    have ih := sumC_set ways mine other k x y i (by omega)
    have e1 : (mine.set k x).getD i [] = mine.getD i [] := by
      rw [List.getD_eq_getElem?_getD, List.getD_eq_getElem?_getD, List.getElem?_set, if_neg (by omega)]
    have e2 : linesAt [other.set k y] i = linesAt [other] i := by
      simp only [linesAt, List.flatMap_cons, List.flatMap_nil, List.append_nil]
      rw [List.getD_eq_getElem?_getD, List.getD_eq_getElem?_getD, List.getElem?_set, if_neg (by omega)]
    unfold sumC
    rw [ih, e1, e2]
theorem sumC_none (ways : Int) (h : 0 ≤ ways) (mine : List (List Int)) : ∀ i, sumC ways mine [] i = 0
  | 0 => rfl
  | i + 1 => by
    unfold sumC
    rw [sumC_none ways h mine i]
    split
    · rfl
    · have : different (linesAt [] i) = 0 := rfl
      rw [this]
      omega
/-- What holds after k rounds. -/
def ApartSt (sets : Nat) (ways : Int) (k : Nat) (mine other : List (List Int)) (both : Int) : Prop :=
  mine.length = sets ∧ other.length = sets ∧ both = sumC ways mine [other] k ∧ (∀ l ∈ other, l.length ≤ 2 ∧ ∀ x ∈ l, 0 ≤ x ∧ x ≤ 1000) ∧ ∀ i, k ≤ i → mine.getD i [] = [] ∧ other.getD i [] = []
theorem getD_replicate (n i : Nat) : (List.replicate n ([] : List Int)).getD i [] = [] := by
  rw [List.getD_eq_getElem?_getD, List.getElem?_replicate]
  split <;> rfl
theorem ApartSt.start (sets : Nat) (ways : Int) : ApartSt sets ways 0 (List.replicate sets []) (List.replicate sets []) 0 :=
  ⟨by simp, by simp, rfl, fun l hl => by rw [List.eq_of_mem_replicate hl]; exact ⟨by simp, fun x hx => by simp at hx⟩, fun i _ => ⟨getD_replicate _ _, getD_replicate _ _⟩⟩
theorem ApartSt.round {sets : Nat} {ways : Int} {k : Nat} {mine other : List (List Int)} {both : Int} (h : ApartSt sets ways k mine other both) (hk : k < sets) (x y : List Int) (d : Int) (hd : d = if x.length = 0 then 0 else min ways (different y : Int)) (hy : y.length ≤ 2 ∧ ∀ z ∈ y, 0 ≤ z ∧ z ≤ 1000) :
    ApartSt sets ways (k + 1) (mine.set k x) (other.set k y) (both + d) := by
  obtain ⟨h1, h2, h3, h4, h5⟩ := h
  refine ⟨by simpa using h1, by simpa using h2, ?_, fun l hl => ?_, fun i hi => ?_⟩
  · unfold sumC
    rw [sumC_set ways mine other k x y k (Nat.le_refl _), h3, hd]
    have e1 : (mine.set k x).getD k [] = x := by
      rw [List.getD_eq_getElem?_getD, List.getElem?_set, if_pos rfl, if_pos (by omega)]
      rfl
    have e2 : linesAt [other.set k y] k = y := by
      simp only [linesAt, List.flatMap_cons, List.flatMap_nil, List.append_nil]
      rw [List.getD_eq_getElem?_getD, List.getElem?_set, if_pos rfl, if_pos (by omega)]
      rfl
    rw [e1, e2]
  · rcases List.mem_or_eq_of_mem_set hl with hl | rfl
    · exact h4 l hl
    · exact hy
  · have := h5 i (by omega)
    simp only [List.getD_eq_getElem?_getD, List.getElem?_set] at this ⊢
    rw [if_neg (by omega), if_neg (by omega)]
    exact this
theorem set_self (l : List (List Int)) (k : Nat) (h : l.getD k [] = []) : l.set k [] = l := by
  apply List.ext_getElem?
  intro i
  rw [List.getElem?_set]
  by_cases e : k = i
  · subst e
    rw [if_pos rfl]
    rw [List.getD_eq_getElem?_getD] at h
    by_cases hl : k < l.length
    · rw [if_pos hl, List.getElem?_eq_getElem hl]
      rw [List.getElem?_eq_getElem hl] at h
      rw [show l[k] = [] from h]
    · rw [if_neg hl, List.getElem?_eq_none (by omega)]
  · rw [if_neg e]
theorem ApartSt.mineOnly {sets : Nat} {ways : Int} {k : Nat} {mine other : List (List Int)} {both : Int} (h : ApartSt sets ways k mine other both) (hw : 0 ≤ ways) (hk : k < sets) (a : Int) : ApartSt sets ways (k + 1) (mine.set k [a]) other both := by
  have h1 := h.round hk [a] [] 0 (by rw [if_neg (by simp), different_nil]; omega) ⟨by simp, fun z hz => by simp at hz⟩
  rwa [set_self other k (h.2.2.2.2 k (Nat.le_refl _)).2, Int.add_zero] at h1
theorem ApartSt.otherOnly {sets : Nat} {ways : Int} {k : Nat} {mine other : List (List Int)} {both : Int} (h : ApartSt sets ways k mine other both) (hk : k < sets) (a : Int) (ha : 0 ≤ a ∧ a ≤ 1000) : ApartSt sets ways (k + 1) mine (other.set k [a]) both := by
  have h1 := h.round hk [] [a] 0 rfl ⟨by simp, fun z hz => by rw [List.mem_singleton.1 hz]; exact ha⟩
  rwa [set_self mine k (h.2.2.2.2 k (Nat.le_refl _)).1, Int.add_zero] at h1
theorem ApartSt.neither {sets : Nat} {ways : Int} {k : Nat} {mine other : List (List Int)} {both : Int} (h : ApartSt sets ways k mine other both) (hk : k < sets) : ApartSt sets ways (k + 1) mine other both := by
  have h1 := h.round hk [] [] 0 rfl ⟨by simp, fun z hz => by simp at hz⟩
  rwa [set_self mine k (h.2.2.2.2 k (Nat.le_refl _)).1, set_self other k (h.2.2.2.2 k (Nat.le_refl _)).2, Int.add_zero] at h1
theorem ApartSt.both {sets : Nat} {ways : Int} {k : Nat} {mine other : List (List Int)} {both : Int} (h : ApartSt sets ways k mine other both) (hk : k < sets) (a b : Int) (hab : a ≠ b) (ha : 0 ≤ a ∧ a ≤ 1000) (hb : 0 ≤ b ∧ b ≤ 1000) (d : Int) (hd : d = min 2 ways) : ApartSt sets ways (k + 1) (mine.set k [a]) (other.set k [a, b]) (both + d) :=
  h.round hk [a] [a, b] d (by rw [if_neg (by simp), different_two a b hab, hd]; omega) ⟨by simp, fun z hz => by
    rcases List.mem_cons.1 hz with rfl | hz
    · exact ha
    · rw [List.mem_singleton.1 hz]; exact hb⟩
theorem ApartSt.bd {sets : Nat} {ways : Int} {k : Nat} {mine other : List (List Int)} {both : Int} (h : ApartSt sets ways k mine other both) (h0 : 0 ≤ ways) (h4 : ways ≤ 4) : 0 ≤ both ∧ both ≤ 4 * k := by
  rw [h.2.2.1]
  exact sumC_bd ways mine [other] h0 h4 k
theorem ApartSt.common {sets : Nat} {ways line : Int} {mine other : List (List Int)} {both : Int} (h : ApartSt sets ways sets mine other both) (hs : sets ≤ 4) (hw : 1 ≤ ways ∧ ways ≤ 3) (hl : 1 ≤ line ∧ line ≤ 4) : evict_Common.f sets ways line mine [other] = some both ∧ evict_Common.f sets ways line mine [] = some 0 := by
  obtain ⟨h1, h2, h3, h4, _⟩ := h
  have g1 : okLines [other] = true := by
    unfold okLines
    refine List.all_eq_true.2 fun o ho => List.all_eq_true.2 fun l hl => List.all_eq_true.2 fun x hx => ?_
    rw [List.mem_singleton.1 ho] at hl
    have := (h4 l hl).2 x hx
    exact WalkArith.wf_i64 (by omega)
  have g2 : fewLines [other] mine.length = true := by
    unfold fewLines
    refine List.all_eq_true.2 fun s _ => decide_eq_true ?_
    simp only [linesAt, List.flatMap_cons, List.flatMap_nil, List.append_nil]
    rw [List.getD_eq_getElem?_getD]
    cases hg : other[s]? with
    | none => simp
    | some l => have := (h4 l (List.mem_of_getElem? hg)).1; simp; omega
  have g3 : fewLines [] mine.length = true := List.all_eq_true.2 fun s _ => rfl
  have g4 : okCache sets ways line = true := decide_eq_true (by omega)
  have g5 : apartC sets mine [other] = false := by simp [apartC, h1, h2]
  have g6 : apartC sets mine [] = false := by simp [apartC, h1]
  unfold evict_Common.f
  rw [g1, g2, g3, g4, g5, g6, h1, sumC_none ways (by omega), ← h3]
  exact ⟨rfl, rfl⟩

/-! ### a deck -/
def InDeck (L : List Int) (p : Int) : Prop := 0 ≤ p ∧ p ≤ (L.length : Int) ∧ (L.length : Int) ≤ 20000000000000
theorem mod_ok (a n : Int) (h1 : 1 ≤ n) (h2 : n ≤ 1000000000) : ∃ r, timeboundmake_Mod.f a n = some r ∧ 0 ≤ r ∧ r < n := by
  unfold timeboundmake_Mod.f
  rw [if_neg (by omega)]
  have e1 : Int.tmod a n < n := Int.tmod_lt_of_pos a (by omega)
  have e2 : -n < Int.tmod a n := by
    have := Int.tmod_lt_of_pos (-a) (show (0 : Int) < n by omega)
    rw [Int.neg_tmod] at this
    omega
  refine ⟨_, rfl, ?_⟩
  rw [show wrap64 (Int.tmod a n + n) = Int.tmod a n + n by unfold wrap64; omega]
  exact ⟨Int.tmod_nonneg _ (by omega), Int.tmod_lt_of_pos _ (by omega)⟩
theorem next_ok (L : List Int) (p n : Int) (h : InDeck L p) (hn : n ≤ 1000000000) : ∃ r q, timeboundmake_Deck_Next.f L p n = some (r, q) ∧ 0 ≤ r ∧ (r < n ∨ r = 0) ∧ InDeck L q := by
  obtain ⟨h0, h1, h2⟩ := h
  unfold timeboundmake_Deck_Next.f
  by_cases c1 : p ≥ (L.length : Int)
  · rw [if_pos c1]; exact ⟨0, p, rfl, by omega, .inr rfl, h0, h1, h2⟩
  · rw [if_neg c1]
    by_cases c2 : n ≤ 1
    · rw [if_pos c2]; exact ⟨0, p, rfl, by omega, .inr rfl, h0, h1, h2⟩
    · rw [if_neg c2]
      have e1 : wrap64 (p + 1) = p + 1 := by unfold wrap64; omega
      have e2 : wrap64 (p + 1 - 1) = p := by unfold wrap64; omega
      rw [e1, e2, if_pos h0, if_pos (by omega)]
      obtain ⟨r, hr, r0, r1⟩ := mod_ok (rd L p) n (by omega) hn
      rw [hr]
      exact ⟨r, p + 1, rfl, r0, .inl r1, by omega, by omega, h2⟩
theorem cache_ok (L : List Int) (p : Int) (h : InDeck L p) : ∃ a b c q, timeboundmake2_Cache.f L p = some (a, b, c, q) ∧ 0 ≤ a ∧ a ≤ 4 ∧ 1 ≤ b ∧ b ≤ 3 ∧ 1 ≤ c ∧ c ≤ 4 ∧ InDeck L q := by
  obtain ⟨a, p1, e1, a0, a1, h1⟩ := next_ok L p 5 h (by omega)
  obtain ⟨b, p2, e2, b0, b1, h2⟩ := next_ok L p1 3 h1 (by omega)
  obtain ⟨c, p3, e3, c0, c1, h3⟩ := next_ok L p2 4 h2 (by omega)
  unfold timeboundmake2_Cache.f timeboundmake_Cache.f
  rw [e1]; simp only [Option.bind_some]
  rw [e2]; simp only [Option.bind_some]
  rw [e3]; simp only [Option.bind_some]
  refine ⟨a, _, _, p3, rfl, a0, by omega, ?_⟩
  rw [show wrap64 (1 + b) = 1 + b by unfold wrap64; omega, show wrap64 (1 + c) = 1 + c by unfold wrap64; omega]
  exact ⟨by omega, by omega, by omega, by omega, h3⟩

set_option maxHeartbeats 4000000 in
set_option maxRecDepth 100000 in
theorem apart_walk (A0 : Option Addr) (c0 : Nat) (l0 : List Int) (w : World) (hr0 : Kd.C (Kd.int .i64) w A0 l0.length l0) (hc0 : l0.length ≤ c0) (sets : Nat) (ways line q : Int) (hcache : timeboundmake2_Cache.f l0 0 = some ((sets : Int), ways, line, q)) (hs4 : sets ≤ 4) (hw : 1 ≤ ways ∧ ways ≤ 3) (hli : 1 ≤ line ∧ line ≤ 4) (hdq : InDeck l0 q) :
    Calls Try.prog 4 #[.slice A0 l0.length c0] w fun e w' => e = .returned (.bool true) ∧ Below w.heap.size w w' := by
  have hu26 := Try.underlying26
  have HR0 := Aside0.mk hr0
  have HC := Aside0.mk hcache
  have HW := Aside0.mk hw
  have HL := Aside0.mk hli
  have HDQ := Aside0.mk hdq
  clear hr0 hcache hw hli hdq
  go_enter Try.func4, Try.ntmps4
  go_wp2_with fail
  refine (timeboundmake_New.calls A0 c0 l0 l0 0 w w (Below.refl _ _) HR0.out hc0 rfl).mono ?_
  rintro e w1 ⟨g, rfl, hI1, hb1, _⟩
  have HI1 := Aside0.mk hI1
  have HB1 := Aside0.mk hb1
  clear hI1 hb1
  go_wp2_with fail
  refine (timeboundmake2_Cache.calls g l0 0 _ _ _ _ w w1 HI1.out HB1.out HC.out).mono ?_
  rintro e w2 ⟨rfl, hI2, hb2, hk2⟩
  have HI2 := Aside0.mk hI2
  have HB2 := Aside0.mk hb2
  clear hI2 hb2 hk2 HI1 HB1 HC
  go_upto_region 3 with (fail)
  have HI3 := Aside0.mk (HI2.out.alloc (.cells #[.int .i64 (sets : Int), .int .i64 ways, .int .i64 line] 26))
  have HB3 := Aside0.mk (HB2.out.alloc HB2.out.size (.cells #[.int .i64 (sets : Int), .int .i64 ways, .int .i64 line] 26))
  have hbk := heap_alloc_new w2 (.cells #[.int .i64 (sets : Int), .int .i64 ways, .int .i64 line] 26)
  have hwb : w.heap.size ≤ w2.heap.size := HB2.out.size
  generalize w2.alloc (.cells #[.int .i64 (sets : Int), .int .i64 ways, .int .i64 line] 26) = w3 at HI3 HB3 hbk ⊢
  generalize w2.heap.size = bc at hbk hwb ⊢
  clear HI2 HB2
  have hc0 : w3.cell? ⟨bc, 0, none⟩ = some (.int .i64 (sets : Int)) := (blk_cell hbk 0).trans rfl
  have hc0a : ∀ o, (w3.alloc o).cell? ⟨bc, 0, none⟩ = some (.int .i64 (sets : Int)) := fun o => (blk_cell (blk_alloc hbk o) 0).trans rfl
  have HBK := Aside0.mk hbk
  clear hbk
  have hmk : ∀ W : World, (Instr.makeSlice 28 (.int .i64 (sets : Int)) (.int .i64 (sets : Int))).run Try.prog W = .ok (.slice (some ⟨W.heap.size, 0, none⟩) sets sets) (W.alloc (.cells (madeCells #[.slice none 0 0] sets) 22)) := fun W => run_make_row' 28 22 (.slice none 0 0) 24 Try.underlying28 apart_info22 rfl .i64 .i64 sets (by omega) (by omega) W
  go_cut [5, 6] (fun s5 s6 wx => ∃ bm bo : Nat, s5 = .slice (some ⟨bm, 0, none⟩) sets sets ∧ s6 = .slice (some ⟨bo, 0, none⟩) sets sets ∧ bm ≠ bo ∧ Aside0 (w.heap.size ≤ bm ∧ w.heap.size ≤ bo) ∧ Aside0 (RowsAt wx bm (List.replicate sets [])) ∧ Aside0 (RowsAt wx bo (List.replicate sets [])) ∧ Aside0 (IsS52 w wx g l0 q) ∧ Aside0 (wx.heap[bc]? = some (.cells #[.int .i64 (sets : Int), .int .i64 ways, .int .i64 line] 26 (0, 0))) ∧ Aside0 (Below w.heap.size w wx))
  case first =>
    have R1 := Aside0.mk ((RowsAt.made w3 sets).alloc (.cells (madeCells #[.slice none 0 0] sets) 22))
    have R2 : Aside0 (RowsAt ((w3.alloc (.cells (madeCells #[.slice none 0 0] sets) 22)).alloc (.cells (madeCells #[.slice none 0 0] sets) 22)) (w3.heap.size + 1) (List.replicate sets [])) := ⟨by have := RowsAt.made (w3.alloc (.cells (madeCells #[.slice none 0 0] sets) 22)) sets; simpa using this⟩
    have I1 := Aside0.mk ((HI3.out.alloc (.cells (madeCells #[.slice none 0 0] sets) 22)).alloc (.cells (madeCells #[.slice none 0 0] sets) 22))
    have K1 := Aside0.mk (blk_alloc (blk_alloc HBK.out (.cells (madeCells #[.slice none 0 0] sets) 22)) (.cells (madeCells #[.slice none 0 0] sets) 22))
    have B1 := Aside0.mk ((HB3.out.alloc HB3.out.size (.cells (madeCells #[.slice none 0 0] sets) 22)))
    have B2 := Aside0.mk (B1.out.alloc B1.out.size (.cells (madeCells #[.slice none 0 0] sets) 22))
    have hwz : w.heap.size ≤ w3.heap.size := HB3.out.size
    go_region
    all_goals (try go_wp2_with fail)
    all_goals go_meet
    all_goals first
      | exact ⟨w3.heap.size, w3.heap.size + 1, rfl, rfl, by omega, ⟨by omega⟩, ⟨R1.out⟩, ⟨R2.out⟩, ⟨I1.out⟩, ⟨K1.out⟩, ⟨below_drew B2.out⟩⟩
      | exact ⟨w3.heap.size + 1, w3.heap.size, rfl, rfl, by omega, ⟨by omega⟩, ⟨R2.out⟩, ⟨R1.out⟩, ⟨I1.out⟩, ⟨K1.out⟩, ⟨below_drew B2.out⟩⟩
  case rest =>
    clear hc0 hc0a hmk HI3 HB3 HBK
    obtain ⟨bm, bo, rfl, rfl, hne, HGE, RM, RO, HI, HBK, HB⟩ := hcut
    have hc0 : wc.cell? ⟨bc, 0, none⟩ = some (.int .i64 (sets : Int)) := (blk_cell HBK.out 0).trans rfl
    go_wp2_with fail
    clear hc0
    go_loopg [7, 21] sets (fun gg s7 s21 wr => ∃ (kk : Nat) (both p : Int) (mine other : List (List Int)), kk ≤ sets ∧ sets - kk ≤ gg ∧ s21 = .int .i64 kk ∧ s7 = .int .i64 both ∧ Aside0 (ApartSt sets ways kk mine other both) ∧ Aside0 (InDeck l0 p) ∧ Aside0 (RowsAt wr bm mine) ∧ Aside0 (RowsAt wr bo other) ∧ Aside0 (IsS52 w wr g l0 p) ∧ Aside0 (wr.heap[bc]? = some (.cells #[.int .i64 (sets : Int), .int .i64 ways, .int .i64 line] 26 (0, 0))) ∧ Aside0 (Below w.heap.size w wr))
    case atStart => exact ⟨0, 0, q, _, _, Nat.zero_le _, by omega, rfl, rfl, ⟨ApartSt.start sets ways⟩, HDQ, RM, RO, HI, HBK, HB⟩
    case round =>
      clear RM RO HI HBK HB
      obtain ⟨kk, both, p, mine, other, hkk, hgg, rfl, rfl, HA, HD, RM, RO, HI, HBK, HB⟩ := hrel
      by_cases hlt : kk < sets
      · have hltz : (kk : Int) < (sets : Int) := by omega
        obtain ⟨r, p', hn, hr0, hr1, hd'⟩ := next_ok l0 p 4 HD.out (by omega)
        have HN := Aside0.mk hn
        have HD' := Aside0.mk hd'
        clear hn hd'
        have hr : r = 0 ∨ r = 1 ∨ r = 2 ∨ r = 3 := by omega
        clear hr0 hr1
        go_wp2_with fail
        refine (timeboundmake_Deck_Next.calls g l0 p 4 r p' w wr HI.out HB.out HN.out).mono ?_
        rintro e w5 ⟨rfl, hI5, hb5, hk5⟩
        have hDk : ∃ cg : Array Value, wr.heap[g]? = some (.cells cg 52 (0, 0)) := by obtain ⟨A_, c_, h_, _⟩ := HI.out; exact ⟨_, h_⟩
        obtain ⟨cg, hDk⟩ := hDk
        have RM5 := Aside0.mk (RM.out.keep hDk (by decide) (by decide) hk5)
        have RO5 := Aside0.mk (RO.out.keep hDk (by decide) (by decide) hk5)
        have BK5 := Aside0.mk (hk5.blk HBK.out (blk_other HBK.out hDk (by decide)) (by simp))
        have HI5 := Aside0.mk hI5
        have HB5 := Aside0.mk hb5
        have hlm : mine.length = sets := HA.out.1
        have hlo : other.length = sets := HA.out.2.1
        have hbd : 0 ≤ both ∧ both ≤ 16 := by have := HA.out.bd (by have := HW.out; omega) (by have := HW.out; omega); omega
        obtain ⟨hbd1, hbd2⟩ := hbd
        obtain ⟨hw1, hw3⟩ := HW.out
        obtain ⟨cm, hcm, hcmv⟩ := RM5.out.blk
        obtain ⟨co, hco, hcov⟩ := RO5.out.blk
        obtain ⟨vm, hvm⟩ := hcmv kk (by omega)
        obtain ⟨vo, hvo⟩ := hcov kk (by omega)
        have HCM := Aside0.mk hcm
        have HCO := Aside0.mk hco
        have gm : g ≠ bm := by obtain ⟨A_, c_, h_, _⟩ := HI5.out; exact (blk_other hcm h_ (by decide)).symm
        have go_ : g ≠ bo := by obtain ⟨A_, c_, h_, _⟩ := HI5.out; exact (blk_other hco h_ (by decide)).symm
        have cm_ : bc ≠ bm := blk_other BK5.out hcm (by decide)
        have co_ : bc ≠ bo := blk_other BK5.out hco (by decide)
        have k1 : ∀ o, (w5.alloc o).cell? ⟨bm, kk, none⟩ = some vm := fun o => (blk_cell (blk_alloc HCM.out o) kk).trans hvm
        have k2 : ∀ o, (w5.alloc o).cell? ⟨bo, kk, none⟩ = some vo := fun o => (blk_cell (blk_alloc HCO.out o) kk).trans hvo
        have f1 : ∀ o, (w5.alloc o).frozen? ⟨bm, kk, none⟩ = false := fun o => blk_frozen (blk_alloc HCM.out o) kk
        have f2 : ∀ o, (w5.alloc o).frozen? ⟨bo, kk, none⟩ = false := fun o => blk_frozen (blk_alloc HCO.out o) kk
        have hc0 : w5.cell? ⟨bc, 0, none⟩ = some (.int .i64 (sets : Int)) := (blk_cell BK5.out 0).trans rfl
        clear hI5 hb5 hk5 HI HB HBK RM RO hDk HN hcm hco hcmv hcov hvm hvo HD
        rcases hr with rfl | rfl | rfl | rfl
        · go_wp2_with fail
          go_roundg (sets - (kk + 1))
          case measure => omega
          case rel =>
            have hg := HGE.out
            exact ⟨kk + 1, both, p', mine.set kk [(kk : Int)], other, by omega, by omega, by go_num, rfl, ⟨HA.out.mineOnly (by omega) hlt kk⟩, HD', ⟨(RM5.out.alloc _).set kk _ [(kk : Int)] (.inr ⟨w5.heap.size, rfl, heap_alloc_new w5 _, by simp⟩)⟩, ⟨(RO5.out.alloc _).far (blk_alloc HCM.out _) (Ne.symm hne) kk _⟩, ⟨(HI5.out.alloc _).far gm _⟩, ⟨blk_far (blk_alloc BK5.out _) cm_ _⟩, ⟨below_set (HB5.out.alloc HB5.out.size _) hg.1⟩⟩
        · go_wp2_with fail
          go_roundg (sets - (kk + 1))
          case measure => omega
          case rel =>
            have hg := HGE.out
            exact ⟨kk + 1, both, p', mine, other.set kk [(kk : Int) + (sets : Int)], by omega, by omega, by go_num, rfl, ⟨HA.out.otherOnly hlt _ (by omega)⟩, HD', ⟨(RM5.out.alloc _).far (blk_alloc HCO.out _) hne kk _⟩, ⟨(RO5.out.alloc _).set kk _ [(kk : Int) + (sets : Int)] (.inr ⟨w5.heap.size, rfl, heap_alloc_new w5 _, by simp⟩)⟩, ⟨(HI5.out.alloc _).far go_ _⟩, ⟨blk_far (blk_alloc BK5.out _) co_ _⟩, ⟨below_set (HB5.out.alloc HB5.out.size _) hg.2⟩⟩
        · go_upto_region 14 with (fail)
          go_cut [7] (fun s7 wx => ∃ (mine' other' : List (List Int)), s7 = .int .i64 both ∧ Aside0 (∀ d : Int, d = min 2 ways → ApartSt sets ways (kk + 1) mine' other' (both + d)) ∧ Aside0 (RowsAt wx bm mine') ∧ Aside0 (RowsAt wx bo other') ∧ Aside0 (IsS52 w wx g l0 p') ∧ Aside0 (wx.heap[bc]? = some (.cells #[.int .i64 (sets : Int), .int .i64 ways, .int .i64 line] 26 (0, 0))) ∧ Aside0 (Below w.heap.size w wx))
          case first =>
            have k3 : w5.cell? ⟨bm, kk, none⟩ = some vm := by
              have h1 := k1 (.cells #[] 3)
              rwa [World.cell?_alloc_past _ _ _ (blk_lt HCM.out)] at h1
            have k4 : w5.cell? ⟨bo, kk, none⟩ = some vo := by
              have h1 := k2 (.cells #[] 3)
              rwa [World.cell?_alloc_past _ _ _ (blk_lt HCO.out)] at h1
            have f3 : w5.frozen? ⟨bm, kk, none⟩ = false := blk_frozen HCM.out kk
            have f4 : w5.frozen? ⟨bo, kk, none⟩ = false := blk_frozen HCO.out kk
            have l1 : bm < w5.heap.size := blk_lt HCM.out
            have l2 : bo < w5.heap.size := blk_lt HCO.out
            have l3 : bc < w5.heap.size := blk_lt BK5.out
            have n1 : bo ≠ bm := Ne.symm hne
            have n2 : bm ≠ bc := Ne.symm cm_
            have n3 : bo ≠ bc := Ne.symm co_
            clear k1 k2 f1 f2
            go_region
            all_goals (try go_wp2_with fail)
            all_goals go_meet
            all_goals
              have hg := HGE.out
              refine ⟨mine.set kk [(kk : Int)], other.set kk [(kk : Int), (kk : Int) + (sets : Int)], rfl, ⟨fun d hd => HA.out.both hlt _ _ (by omega) (by omega) (by omega) d hd⟩,
                ⟨RM5.out.put kk _ _ (fun cs h => blk_alloc (blk_alloc (blk_far (blk_set h kk _) hne _) _) _) (fun b cs h => blk_alloc (blk_alloc (blk_far (blk_far h (blk_other h HCM.out (by decide)) _) (blk_other h HCO.out (by decide)) _) _) _) (.inr ?_)⟩,
                ⟨RO5.out.put kk _ _ (fun cs h => blk_alloc (blk_alloc (blk_set (blk_far h n1 _) kk _) _) _) (fun b cs h => blk_alloc (blk_alloc (blk_far (blk_far h (blk_other h HCM.out (by decide)) _) (blk_other h HCO.out (by decide)) _) _) _) (.inr ?_)⟩,
                ⟨(((HI5.out.far gm _).far go_ _).alloc _).alloc _⟩, ⟨blk_alloc (blk_alloc (blk_far (blk_far BK5.out cm_ _) co_ _) _) _⟩, ⟨?_⟩⟩
              · first
                | exact ⟨w5.heap.size, rfl, (two_blocks _ _ _ _ (by simp)).1, by simp⟩
                | exact ⟨w5.heap.size + 1, rfl, (two_blocks _ _ _ _ (by simp)).2, by simp⟩
              · first
                | exact ⟨w5.heap.size, rfl, (two_blocks _ _ _ _ (by simp)).1, by simp⟩
                | exact ⟨w5.heap.size + 1, rfl, (two_blocks _ _ _ _ (by simp)).2, by simp⟩
              · have b1 := below_set (j := kk) (v := Value.bool true) HB5.out hg.1
                exact below_drew (below_alloc (below_alloc (below_set (below_set HB5.out hg.1) hg.2) _) _)
          case rest =>
            obtain ⟨mine', other', rfl, HA', RM, RO, HI, HBK, HB⟩ := hcut
            clear RM5 RO5 BK5 HI5 HB5 HCM HCO k1 k2 f1 f2 hc0 HA
            have hcw : wc.cell? ⟨bc, 1, none⟩ = some (.int .i64 ways) := (blk_cell HBK.out 1).trans rfl
            go_wp2_with fail
            all_goals
              go_roundg (sets - (kk + 1))
              case measure => omega
              case rel => exact ⟨kk + 1, _, p', mine', other', by omega, by omega, by go_num, rfl, ⟨HA'.out _ (by omega)⟩, HD', RM, RO, HI, HBK, HB⟩
        · go_wp2_with fail
          go_roundg (sets - (kk + 1))
          case measure => omega
          case rel => exact ⟨kk + 1, both, p', mine, other, by omega, by omega, by go_num, rfl, ⟨HA.out.neither hlt⟩, HD', RM5, RO5, HI5, BK5, HB5⟩
      · have : kk = sets := by omega
        subst this
        have hltz : ¬ (kk : Int) < (kk : Int) := by omega
        obtain ⟨hf1, hf2⟩ := HA.out.common hs4 HW.out HL.out
        have HF1 := Aside0.mk hf1
        have HF2 := Aside0.mk hf2
        clear hf1 hf2
        have hc0 : wr.cell? ⟨bc, 0, none⟩ = some (.int .i64 (kk : Int)) := (blk_cell HBK.out 0).trans rfl
        have hc1 : wr.cell? ⟨bc, 1, none⟩ = some (.int .i64 ways) := (blk_cell HBK.out 1).trans rfl
        have hc2 : wr.cell? ⟨bc, 2, none⟩ = some (.int .i64 line) := (blk_cell HBK.out 2).trans rfl
        go_wp2_with fail
        have hlm : mine.length = kk := HA.out.1
        have hlo : other.length = kk := HA.out.2.1
        have CM := Aside0.mk (Kd.C_below (RM.out.C (by omega)) (below_alloc (Below.refl wr.heap.size wr) (.cells #[.slice (some ⟨bo, 0, none⟩) kk kk] 28)))
        have CO := Aside0.mk ((RO.out.alloc (.cells #[.slice (some ⟨bo, 0, none⟩) kk kk] 28)).C (by omega))
        have hX := heap_alloc_new wr (.cells #[.slice (some ⟨bo, 0, none⟩) kk kk] 28)
        have HBX := Aside0.mk (HB.out.alloc HB.out.size (.cells #[.slice (some ⟨bo, 0, none⟩) kk kk] 28))
        have BKX := Aside0.mk (blk_alloc HBK.out (.cells #[.slice (some ⟨bo, 0, none⟩) kk kk] 28))
        generalize wr.alloc (.cells #[.slice (some ⟨bo, 0, none⟩) kk kk] 28) = wx at CM CO hX HBX BKX ⊢
        have CX : Kd.C (Kd.slice 22 (Kd.slice 3 (Kd.int .i64))) wx (some ⟨wr.heap.size, 0, none⟩) 1 [other] := by
          have h1 := CO.out
          refine C_block (cs := [_]) hX (Reps_cons ⟨some ⟨bo, 0, none⟩, kk, ?_, by omega, h1⟩ (Reps.none _ 1)) (by decide) (by simp)
          rw [hlo]
        have CXX := Aside0.mk CX
        clear CX hX HBK HB RM RO HI hc0 hc1 hc2
        have e1 : mine.length = kk := hlm
        clear hlm hlo
        have CM2 : Kd.C (Kd.slice 3 (Kd.int .i64)) wx (some ⟨bm, 0, none⟩) mine.length mine := CM.out
        have hcall := Aside0.mk (evict_Common.calls kk ways line (some ⟨bm, 0, none⟩) kk mine (some ⟨wr.heap.size, 0, none⟩) 1 [other] both wx CM2 (by omega) CXX.out (by simp) HF1.out)
        rw [e1] at hcall
        clear CM2
        refine (hcall.out).mono ?_
        rintro e w6 ⟨rfl, hb6⟩
        have HB6 := Aside0.mk (below_step HBX.out hb6)
        have BK6 := Aside0.mk (blk_below BKX.out hb6)
        have CM6 := Aside0.mk (Kd.C_below CM.out hb6)
        clear hb6 HBX BKX CM CO CXX hcall HF1
        have E1 := Aside0.mk e1
        clear e1
        have hc0 : w6.cell? ⟨bc, 0, none⟩ = some (.int .i64 (kk : Int)) := (blk_cell BK6.out 0).trans rfl
        have hc1 : w6.cell? ⟨bc, 1, none⟩ = some (.int .i64 ways) := (blk_cell BK6.out 1).trans rfl
        have hc2 : w6.cell? ⟨bc, 2, none⟩ = some (.int .i64 line) := (blk_cell BK6.out 2).trans rfl
        go_wp2_with fail
        have hcall := Aside0.mk (evict_Common.calls kk ways line (some ⟨bm, 0, none⟩) kk mine none 0 [] 0 w6 CM6.out (by have := E1.out; omega) (C_nil _ _) (by decide) HF2.out)
        rw [E1.out] at hcall
        refine (hcall.out).mono ?_
        rintro e w7 ⟨rfl, hb7⟩
        have HB7 := Aside0.mk (below_step HB6.out hb7)
        clear hb7 HB6 BK6 CM6 hcall HF2 hc0 hc1 hc2
        go_wp2_with fail
        refine (timeboundlaw38_awake.calls0 w7).mono ?_
        rintro e w8 ⟨rfl, hb8⟩
        have HB8 := Aside0.mk (below_step HB7.out hb8)
        clear hb8 HB7
        go_wp2_with fail
        go_ret
        exact ⟨rfl, HB8.out⟩

def timeboundlaw38_EvictApart.f (l0 : List Int) : Option Bool := some true
def timeboundlaw38_EvictApart.Pure : Prop := ∀ (l0 : List Int), l0.length ≤ maxLen → l0.length * 8 ≤ 140737488351232 → timeboundlaw38_EvictApart.f l0 = some true
theorem timeboundlaw38_EvictApart.walk (P : timeboundlaw38_EvictApart.Pure) (a0 : Option Addr) (len0 cap0 : Nat) (z0 : List Int) (w : World) (w0 : (a0 = none ∧ len0 = 0 ∧ cap0 = 0 ∧ z0 = []) ∨ ∃ x, a0 = some x ∧ len0 ≤ cap0 ∧ cap0 ≤ maxLen ∧ z0.length = cap0 ∧ (∀ i, i < z0.length → w.cell? (x.add i) = some (.int .i64 (z0.getD i 0))) ∧ ∀ n ∈ z0, (Lit.int .i64 n).wf = true) (y0 : len0 * 8 ≤ 140737488351232) :
    Calls Try.prog 4 #[.slice a0 len0 cap0] w fun e w' => e = .returned (.bool true) ∧ Below w.heap.size w w' := by
  obtain ⟨l0, rfl, hr0, hm0, hw0, hc0⟩ := ReadsInt.ofRowC w0
  have h0 : InDeck l0 0 := ⟨by omega, by omega, by omega⟩
  obtain ⟨a, b, c, q, e1, a0, a1, b0, b1, c0, c1, h1⟩ := cache_ok l0 0 h0
  obtain ⟨n, rfl⟩ := Int.eq_ofNat_of_zero_le a0
  exact apart_walk _ _ l0 w (Kd.C_of_reads (d := (0 : Int)) (h1 := fun _ => rfl) hr0) hc0 n b c q e1 (by omega) ⟨b0, b1⟩ ⟨c0, c1⟩ h1

end Go.Proofs.Ytgpdnfhmmeaoeaa.PEa
