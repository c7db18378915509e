/- Contents of a cache out of a deck. -/
import Derived.Test.YtcaanbicgpfonaaS2
import Derived.Test.YtcaanbicgpfonaaPPlx11
import Derived.Deep.RegionHeld3
import Derived.Deep.DeepCutAuto
namespace Go.Proofs.Ytcaanbicgpfonaa.PPl
open Go.RowKit Go.Proofs.YtcaanbicgpfonaaW.PrintWords Go.Proofs.YtcaanbicgpfonaaW.PrintLast Go.Proofs.YtcaanbicgpfonaaW.PrintMore
set_option linter.unusedVariables false
set_option linter.unusedSimpArgs false

theorem good_replicate (s y : Nat) : GoodC s y (List.replicate s (List.replicate y (-1))) := by
  refine ⟨by simp, fun r hr => ?_⟩
  rw [List.eq_of_mem_replicate hr]
  exact ⟨by simp, ND_empty y⟩
theorem empty_made {s y n : Int} (h : CacheIn s y n) : ∃ k x, timeboundref22_Empty.f k s y n = some x ∧ GoodC s y x := by
  obtain ⟨a, b, c, d, e, f⟩ := h
  rcases (show n = 1 ∨ n = 2 ∨ n = 3 ∨ n = 4 by omega) with rfl | rfl | rfl | rfl <;>
  rcases (show s = 0 ∨ s = 1 ∨ s = 2 ∨ s = 3 ∨ s = 4 by omega) with rfl | rfl | rfl | rfl | rfl <;>
  rcases (show y = 1 ∨ y = 2 ∨ y = 3 by omega) with rfl | rfl | rfl <;>
  first
  | exact ⟨60, List.replicate 0 (List.replicate 1 (-1)), by decide +kernel, good_replicate 0 1⟩
  | exact ⟨60, List.replicate 0 (List.replicate 2 (-1)), by decide +kernel, good_replicate 0 2⟩
  | exact ⟨60, List.replicate 0 (List.replicate 3 (-1)), by decide +kernel, good_replicate 0 3⟩
  | exact ⟨60, List.replicate 1 (List.replicate 1 (-1)), by decide +kernel, good_replicate 1 1⟩
  | exact ⟨60, List.replicate 1 (List.replicate 2 (-1)), by decide +kernel, good_replicate 1 2⟩
  | exact ⟨60, List.replicate 1 (List.replicate 3 (-1)), by decide +kernel, good_replicate 1 3⟩
  | exact ⟨60, List.replicate 2 (List.replicate 1 (-1)), by decide +kernel, good_replicate 2 1⟩
  | exact ⟨60, List.replicate 2 (List.replicate 2 (-1)), by decide +kernel, good_replicate 2 2⟩
  | exact ⟨60, List.replicate 2 (List.replicate 3 (-1)), by decide +kernel, good_replicate 2 3⟩
  | exact ⟨60, List.replicate 3 (List.replicate 1 (-1)), by decide +kernel, good_replicate 3 1⟩
  | exact ⟨60, List.replicate 3 (List.replicate 2 (-1)), by decide +kernel, good_replicate 3 2⟩
  | exact ⟨60, List.replicate 3 (List.replicate 3 (-1)), by decide +kernel, good_replicate 3 3⟩
  | exact ⟨60, List.replicate 4 (List.replicate 1 (-1)), by decide +kernel, good_replicate 4 1⟩
  | exact ⟨60, List.replicate 4 (List.replicate 2 (-1)), by decide +kernel, good_replicate 4 2⟩
  | exact ⟨60, List.replicate 4 (List.replicate 3 (-1)), by decide +kernel, good_replicate 4 3⟩

/-! ### what one written block leaves -/
theorem WroteOne.blk {base b : Nat} {w w' : World} {cs : Array Value} {t : TypeId} (h : WroteOne base w w') (hb : w.heap[b]? = some (.cells cs t (0, 0))) (ht : t ≠ 3) : w'.heap[b]? = some (.cells cs t (0, 0)) := by
  obtain ⟨g, h1, ⟨cg, h2⟩, h3⟩ := h
  refine (h3.block b (blk_lt hb) (fun e => ?_)).trans hb
  injection e with e
  subst e
  rw [hb] at h2
  injection h2 with h2
  injection h2 with _ h2
  exact ht h2
theorem WroteOne.deck {base : Nat} {w0 w w' : World} {g : Nat} {L : List Int} {q : Int} (h : WroteOne base w w') (hI : IsS51 w0 w g L q) : IsS51 w0 w' g L q := by
  obtain ⟨gw, h1, ⟨cg, h2⟩, h3⟩ := h
  refine hI.grown h3 (fun e => ?_)
  injection e with e
  subst e
  obtain ⟨A0, c0, hb, _⟩ := hI
  rw [hb] at h2
  injection h2 with h2
  injection h2 with _ h2
  cases h2
theorem WroteOne.below {base : Nat} {w0 w w' : World} (h : WroteOne base w w') (hB : Below w0.heap.size w0 w) (hb : w0.heap.size ≤ base) : Below w0.heap.size w0 w' := by
  obtain ⟨g, h1, _, h3⟩ := h
  exact Below.grown hB h3 hB.size (fun k hk => by injection hk with hk; subst hk; omega)
theorem WroteOne.keep {w w1 w2 : World} {base g : Nat} (h : WroteOne base w1 w2) (hk : KeepBut w w1 g none) (hb : w.heap.size ≤ base) : KeepBut w w2 g none := by
  obtain ⟨gw, h1, _, h3⟩ := h
  refine ⟨Nat.le_trans hk.1 h3.size, fun i hi hg hr => ?_⟩
  exact (h3.block i (Nat.lt_of_lt_of_le hi hk.1) (fun e => by injection e with e; omega)).trans (hk.2 i hi hg hr)

theorem keep_far {w w1 : World} {g b j : Nat} (h : KeepBut w w1 g none) (hb : w.heap.size ≤ b) (u : Value) : KeepBut w (w1.setCell ⟨b, j, none⟩ u) g none :=
  ⟨by simpa using h.1, fun i hi hg hr => (Below.heap_setCell w1 ⟨b, j, none⟩ u i (by intro e; simp at e; omega)).trans (h.2 i hi hg hr)⟩

def LinesOut (w0 w : World) (g : Nat) (L : List Int) (s y : Int) (e : Ending) (w' : World) : Prop :=
  ∃ (v : Value) (x : List (List Int)) (q : Int), e = .returned (.agg #[v]) ∧ Kd.S (Kd.slice 3 (Kd.int .i64)) 22 w' w.heap.size (fun k => k ≠ g) v x ∧ GoodC s y x ∧ InDeck L q ∧ IsS51 w0 w' g L q ∧ Below w0.heap.size w0 w' ∧ KeepBut w w' g none

set_option maxHeartbeats 4000000 in
set_option maxRecDepth 100000 in
theorem lines_calls (g : Nat) (L : List Int) (p : Int) (s y n : Int) (w0 w : World) (hI : IsS51 w0 w g L p) (hB : Below w0.heap.size w0 w) (hD : InDeck L p) (hc : CacheIn s y n) :
    Calls Try.prog 36 #[.pointer (some ⟨g, 0, none⟩), .agg #[.int .i64 s, .int .i64 y, .int .i64 n]] w (LinesOut w0 w g L s y) := by
  have hu26 := Try.underlying26
  have hu42 := Try.underlying42
  obtain ⟨ke, xe, he, hge⟩ := empty_made hc
  have HE := Aside0.mk he
  have HGE := Aside0.mk hge
  have HC := Aside0.mk hc
  obtain ⟨hc1, hc2, hc3, hc4, hc5, hc6⟩ := hc
  have HI := Aside0.mk hI
  have HB := Aside0.mk hB
  have HD := Aside0.mk hD
  clear he hge hI hB hD
  go_enter Try.func36, Try.ntmps36
  go_wp2_with fail
  have hb0 := below_alloc (below_alloc (Below.refl w.heap.size w) (.cells #[.int .i64 s, .int .i64 y, .int .i64 n] 26)) (.cells #[.slice none 0 0] 42)
  have HK := Aside0.mk (KeepBut.of_below hb0 g none)
  have BC := Aside0.mk (blk_alloc (heap_alloc_new w (.cells #[.int .i64 s, .int .i64 y, .int .i64 n] 26)) (.cells #[.slice none 0 0] 42))
  have BZ := Aside0.mk (heap_alloc2_new w (.cells #[.int .i64 s, .int .i64 y, .int .i64 n] 26) (.cells #[.slice none 0 0] 42))
  have HGW : Aside0 (g < w.heap.size) := ⟨HI.out.lt⟩
  have HW0 : Aside0 (w0.heap.size ≤ w.heap.size) := ⟨HB.out.size⟩
  replace HI := Aside0.mk ((HI.out.alloc (.cells #[.int .i64 s, .int .i64 y, .int .i64 n] 26)).alloc (.cells #[.slice none 0 0] 42))
  replace HB := Aside0.mk (below_alloc (below_alloc HB.out (.cells #[.int .i64 s, .int .i64 y, .int .i64 n] 26)) (.cells #[.slice none 0 0] 42))
  clear hb0
  generalize (w.alloc (.cells #[.int .i64 s, .int .i64 y, .int .i64 n] 26)).alloc (.cells #[.slice none 0 0] 42) = u0 at HK BC BZ HI HB ⊢
  obtain ⟨bw, HBW⟩ : ∃ b, Aside0 (b = w.heap.size) := ⟨_, ⟨rfl⟩⟩
  rw [← HBW.out] at BC BZ ⊢
  refine (timeboundref22_Empty.calls ke s y n xe u0 HE.out).mono ?_
  rintro e u1 ⟨v, rfl, hS, hb⟩
  obtain ⟨og, hog⟩ : ∃ o, u0.heap[g]? = some o := by obtain ⟨A0, c0, h, _⟩ := HI.out; exact ⟨_, h⟩
  have HS := Aside0.mk (Kd.S_lower (Kd.S_mono (Kd.S_newB hS hog) (fun k hk => hk.2)) HK.out.1)
  obtain ⟨A, cx, rfl⟩ := Kd.S_slice hS
  replace HK := Aside0.mk (HK.out.trans (KeepBut.of_below hb g none) (.inl rfl))
  replace BC := Aside0.mk (blk_below BC.out hb)
  replace BZ := Aside0.mk (blk_below BZ.out hb)
  replace HI := Aside0.mk (HI.out.below hb)
  replace HB := Aside0.mk (below_step HB.out hb)
  have HXL : Aside0 (xe.length = xe.length) := ⟨rfl⟩
  clear hb hS hog HE
  generalize hxl : xe.length = lx at HS ⊢
  clear hxl HXL
  go_wp2_with fail
  have HGL : Aside0 (w.heap.size ≤ u1.heap.size) := ⟨HK.out.1⟩
  have BL := Aside0.mk (heap_alloc_new u1 (.cells #[.slice A lx cx] 42))
  have hb1 := below_alloc (Below.refl u1.heap.size u1) (.cells #[.slice A lx cx] 42)
  replace HK := Aside0.mk (HK.out.trans (KeepBut.of_below hb1 g none) (.inl rfl))
  replace BC := Aside0.mk (blk_below BC.out hb1)
  replace BZ := Aside0.mk (blk_below BZ.out hb1)
  replace HI := Aside0.mk (HI.out.below hb1)
  replace HB := Aside0.mk (below_step HB.out hb1)
  replace HS := Aside0.mk (Kd.S_below HS.out hb1)
  clear hb1
  generalize u1.alloc (.cells #[.slice A lx cx] 42) = u2 at HK BC BZ BL HI HB HS ⊢
  generalize u1.heap.size = bl at BL HGL ⊢
  refine (next_step 12 HI.out HB.out HD.out (by omega)).mono ?_
  rintro e u3 ⟨i0, q0, rfl, hi0, hi1, HD1, HI1, HB1, HK1⟩
  have hglt := HGW.out
  have hneC : bw ≠ g := by rw [HBW.out]; omega
  have hneZ : bw + 1 ≠ g := by rw [HBW.out]; omega
  have hneL : bl ≠ g := by have := HGL.out; omega
  replace BC := Aside0.mk (HK1.out.blk BC.out hneC (by simp))
  replace BZ := Aside0.mk (HK1.out.blk BZ.out hneZ (by simp))
  replace BL := Aside0.mk (HK1.out.blk BL.out hneL (by simp))
  replace HS := Aside0.mk (Kd.S_keep HS.out HK1.out (fun k hk => hk))
  replace HK := Aside0.mk (HK.out.trans HK1.out (.inl rfl))
  clear HI HB HD HK1 hglt
  have HI := HI1
  have HB := HB1
  have HD := HD1
  clear HI1 HB1 HD1
  obtain ⟨i1, rfl⟩ := Int.eq_ofNat_of_zero_le hi0
  have HNC := Aside0.mk hneC
  have HNZ := Aside0.mk hneZ
  have HNL := Aside0.mk hneL
  clear hneC hneZ hneL
  go_wp2_with fail
  go_loopg [6] i1 (fun gg s6 wr => ∃ (i : Nat) (x : List (List Int)) (q : Int), i ≤ gg ∧ i ≤ 12 ∧ s6 = .int .i64 i ∧ Aside0 (Kd.S (Kd.slice 3 (Kd.int .i64)) 22 wr w.heap.size (fun k => k ≠ g) (.slice A lx cx) x) ∧ Aside0 (GoodC s y x) ∧ Aside0 (InDeck L q) ∧ Aside0 (IsS51 w0 wr g L q) ∧ Aside0 (Below w0.heap.size w0 wr) ∧ Aside0 (KeepBut w wr g none) ∧ Aside0 (wr.heap[bw]? = some (.cells #[.int .i64 s, .int .i64 y, .int .i64 n] 26 (0, 0))) ∧ Aside0 (wr.heap[bw + 1]? = some (.cells #[.slice none 0 0] 42 (0, 0))) ∧ Aside0 (wr.heap[bl]? = some (.cells #[.slice A lx cx] 42 (0, 0))))
  case atStart => exact ⟨i1, xe, q0, Nat.le_refl _, by omega, rfl, HS, HGE, HD, HI, HB, HK, BC, BZ, BL⟩
  case round =>
    clear HS HGE HD HI HB HK BC BZ BL
    obtain ⟨i, x, q, hig, hi12, rfl, HS, HG, HD, HI, HB, HK, BC, BZ, BL⟩ := hrel
    have hcs := blk_cell BC.out 0
    replace hcs : wr.cell? ⟨bw, 0, none⟩ = some (.int .i64 s) := hcs
    rcases (show i = 0 ∨ 0 < i ∧ s = 0 ∨ (0 < i ∧ 1 ≤ s) by omega) with rfl | ⟨hi, hs0⟩ | ⟨hi, hs1⟩
    · -- no more
      have hl := blk_cell BL.out 0
      have hz := blk_cell BZ.out 0
      have hzf := blk_frozen BZ.out 0
      replace hl : wr.cell? ⟨bl, 0, none⟩ = some (.slice A lx cx) := hl
      replace hz : wr.cell? ⟨bw + 1, 0, none⟩ = some (.slice none 0 0) := hz
      go_wp2_with fail
      clear hl hz hzf
      have BR := Aside0.mk (blk_set BZ.out 0 (.slice A lx cx))
      have hr := blk_cell BR.out 0
      replace hr : (wr.setCell ⟨bw + 1, 0, none⟩ (.slice A lx cx)).cell? ⟨bw + 1, 0, none⟩ = some (.slice A lx cx) := hr
      have HOUT : Aside0 (LinesOut w0 w g L s y (.returned (.agg #[.slice A lx cx])) (wr.setCell ⟨bw + 1, 0, none⟩ (.slice A lx cx))) := ⟨⟨_, x, q, rfl,
        Kd.S_mono (Kd.S_far (Kd.S_types HS.out BZ.out (by intro q hq; simp [Kd.slice, Kd.int, Kd.scalar] at hq; omega)) (fun k hk => hk.2) _) (fun k hk => hk.1), HG.out, HD.out,
        HI.out.far (Ne.symm HNZ.out) _, below_set HB.out (by rw [HBW.out]; have := HW0.out; omega), keep_far HK.out (by rw [HBW.out]; omega) _⟩⟩
      generalize wr.setCell ⟨bw + 1, 0, none⟩ (.slice A lx cx) = WR at hr HOUT ⊢
      refine bodyPost_ret (v := .agg #[.slice A lx cx]) (by simp [results, Try.results36, go_sem, hr, hu42]) rfl ?_
      exact HOUT.out
    · -- no sets
      have hsb : decide (0 < s) = false := decide_eq_false (by omega)
      have hsn : ¬ 0 < s := by omega
      clear hs0
      have hl := blk_cell BL.out 0
      have hz := blk_cell BZ.out 0
      have hzf := blk_frozen BZ.out 0
      replace hl : wr.cell? ⟨bl, 0, none⟩ = some (.slice A lx cx) := hl
      replace hz : wr.cell? ⟨bw + 1, 0, none⟩ = some (.slice none 0 0) := hz
      go_wp2_with fail
      clear hl hz hzf
      have BR := Aside0.mk (blk_set BZ.out 0 (.slice A lx cx))
      have hr := blk_cell BR.out 0
      replace hr : (wr.setCell ⟨bw + 1, 0, none⟩ (.slice A lx cx)).cell? ⟨bw + 1, 0, none⟩ = some (.slice A lx cx) := hr
      have HOUT : Aside0 (LinesOut w0 w g L s y (.returned (.agg #[.slice A lx cx])) (wr.setCell ⟨bw + 1, 0, none⟩ (.slice A lx cx))) := ⟨⟨_, x, q, rfl,
        Kd.S_mono (Kd.S_far (Kd.S_types HS.out BZ.out (by intro q hq; simp [Kd.slice, Kd.int, Kd.scalar] at hq; omega)) (fun k hk => hk.2) _) (fun k hk => hk.1), HG.out, HD.out,
        HI.out.far (Ne.symm HNZ.out) _, below_set HB.out (by rw [HBW.out]; have := HW0.out; omega), keep_far HK.out (by rw [HBW.out]; omega) _⟩⟩
      generalize wr.setCell ⟨bw + 1, 0, none⟩ (.slice A lx cx) = WR at hr HOUT ⊢
      refine bodyPost_ret (v := .agg #[.slice A lx cx]) (by simp [results, Try.results36, go_sem, hr, hu42]) rfl ?_
      exact HOUT.out
    · -- one use
      have hs0 : 0 < s := by omega
      have hc1' := blk_cell BC.out 1
      replace hc1' : wr.cell? ⟨bw, 1, none⟩ = some (.int .i64 y) := hc1'
      have hc2' := blk_cell BC.out 2
      replace hc2' : wr.cell? ⟨bw, 2, none⟩ = some (.int .i64 n) := hc2'
      have hl := blk_cell BL.out 0
      replace hl : wr.cell? ⟨bl, 0, none⟩ = some (.slice A lx cx) := hl
      have HWAY : Aside0 (∀ r ∈ x, 0 < r.length ∧ r.length ≤ 8) := ⟨fun r hr => by have := (HG.out.2 r hr).1; omega⟩
      obtain ⟨j, rfl⟩ : ∃ j, i = j + 1 := ⟨i - 1, by omega⟩
      go_wp2_with fail
      go_region_held3 (fun w' => (w'.cell? ⟨bw, 0, none⟩ = some (.int .i64 s) ∧ w'.cell? ⟨bw, 1, none⟩ = some (.int .i64 y) ∧ w'.cell? ⟨bw, 2, none⟩ = some (.int .i64 n) ∧ w'.cell? ⟨bl, 0, none⟩ = some (.slice A lx cx))) (first | exact ⟨hcs, hc1', hc2', hl⟩ | assumption) (first
        | (go_at_call 17; refine (next_step 120 (IsS51.drew HI.out) (below_drew1 HB.out) HD.out (by omega)).mono ?_; rintro e v1 ⟨a, q1, rfl, ha0, ha1, HD1, HI1, HB1, HK1⟩; have BC1 := Aside0.mk (HK1.out.blk (blk_drew BC.out) HNC.out (by simp)); have BZ1 := Aside0.mk (HK1.out.blk (blk_drew BZ.out) HNZ.out (by simp)); have BL1 := Aside0.mk (HK1.out.blk (blk_drew BL.out) HNL.out (by simp)); have HS1 := Aside0.mk (Kd.S_keep (Kd.S_drew HS.out) HK1.out (fun k hk => hk)); have HKK := Aside0.mk (HK.out.trans (KeepBut.trans (KeepBut.of_below (below_drew1 (Below.refl wr.heap.size wr)) g none) HK1.out (.inl rfl)) (.inl rfl)); have hs : (v1.cell? ⟨bw, 0, none⟩ = some (.int .i64 s) ∧ v1.cell? ⟨bw, 1, none⟩ = some (.int .i64 y) ∧ v1.cell? ⟨bw, 2, none⟩ = some (.int .i64 n) ∧ v1.cell? ⟨bl, 0, none⟩ = some (.slice A lx cx)) := ⟨(blk_cell BC1.out 0).trans rfl, (blk_cell BC1.out 1).trans rfl, (blk_cell BC1.out 2).trans rfl, (blk_cell BL1.out 0).trans rfl⟩; clear HK1)
        | (go_at_call 19; refine (Use_calls s y n (.slice A lx cx) x a _ w.heap.size (fun k => k ≠ g) HS1.out HG.out.1 HWAY.out hs1 (by omega) (by omega) (by omega) ha0 (by omega)).mono ?_; rintro e v2 ⟨rfl, hS2, hW2⟩; have HS2 := Aside0.mk hS2; have HW2 := Aside0.mk hW2; have BC2 := Aside0.mk (hW2.blk BC1.out (by decide)); have BZ2 := Aside0.mk (hW2.blk BZ1.out (by decide)); have BL2 := Aside0.mk (hW2.blk BL1.out (by decide)); have hs : (v2.cell? ⟨bw, 0, none⟩ = some (.int .i64 s) ∧ v2.cell? ⟨bw, 1, none⟩ = some (.int .i64 y) ∧ v2.cell? ⟨bw, 2, none⟩ = some (.int .i64 n) ∧ v2.cell? ⟨bl, 0, none⟩ = some (.slice A lx cx)) := ⟨(blk_cell BC2.out 0).trans rfl, (blk_cell BC2.out 1).trans rfl, (blk_cell BC2.out 2).trans rfl, (blk_cell BL2.out 0).trans rfl⟩; clear hS2 hW2))
      go_wp2_with fail
      go_roundg j
      case measure => omega
      case rel =>
        exact ⟨j, _, q1, by omega, by omega, by go_num, HS2, ⟨HG.out.use hc3 _ _ (Int.ediv_nonneg ha0 (by omega))⟩, HD1, ⟨HW2.out.deck HI1.out⟩, ⟨HW2.out.below HB1.out HW0.out⟩, ⟨HW2.out.keep HKK.out (Nat.le_refl _)⟩, BC2, BZ2, BL2⟩
end Go.Proofs.Ytcaanbicgpfonaa.PPl
