/- Contents out of a deck, through the two callers of lines. -/
import Derived.Test.YtcaanbicgpfonaaU4
namespace Go.Proofs.Ytcaanbicgpfonaa.PPl
open Go.RowKit Go.Proofs.YtcaanbicgpfonaaW.PrintWords Go.Proofs.YtcaanbicgpfonaaW.PrintLast Go.Proofs.YtcaanbicgpfonaaW.PrintMore
set_option linter.unusedVariables false
set_option linter.unusedSimpArgs false

set_option maxHeartbeats 4000000 in
set_option maxRecDepth 100000 in
theorem Lines_calls (g : Nat) (L : List Int) (p : Int) (s y n : Int) (w0 w : World) (hI : IsS51 w0 w g L p) (hB : Below w0.heap.size w0 w) (hD : InDeck L p) (hc : CacheIn s y n) :
    Calls Try.prog 28 #[.pointer (some ⟨g, 0, none⟩), .agg #[.int .i64 s, .int .i64 y, .int .i64 n]] w (LinesOut w0 w g L s y) := by
  have hu26 := Try.underlying26
  have hu42 := Try.underlying42
  have HC := Aside0.mk hc
  have HI := Aside0.mk hI
  have HB := Aside0.mk hB
  have HD := Aside0.mk hD
  clear hI hB hD hc
  go_enter Try.func28, Try.ntmps28
  go_wp2_with fail
  have hb0 := below_alloc (below_alloc (Below.refl w.heap.size w) (.cells #[.int .i64 s, .int .i64 y, .int .i64 n] 26)) (.cells #[.slice none 0 0] 42)
  have HK := Aside0.mk (KeepBut.of_below hb0 g none)
  have BZ := Aside0.mk (heap_alloc2_new w (.cells #[.int .i64 s, .int .i64 y, .int .i64 n] 26) (.cells #[.slice none 0 0] 42))
  have HGW : Aside0 (g < w.heap.size) := ⟨HI.out.lt⟩
  have HW0 : Aside0 (w0.heap.size ≤ w.heap.size) := ⟨HB.out.size⟩
  replace HI := Aside0.mk ((HI.out.alloc (.cells #[.int .i64 s, .int .i64 y, .int .i64 n] 26)).alloc (.cells #[.slice none 0 0] 42))
  replace HB := Aside0.mk (below_alloc (below_alloc HB.out (.cells #[.int .i64 s, .int .i64 y, .int .i64 n] 26)) (.cells #[.slice none 0 0] 42))
  clear hb0
  generalize (w.alloc (.cells #[.int .i64 s, .int .i64 y, .int .i64 n] 26)).alloc (.cells #[.slice none 0 0] 42) = u0 at HK BZ HI HB ⊢
  obtain ⟨bw, HBW⟩ : ∃ b, Aside0 (b = w.heap.size) := ⟨_, ⟨rfl⟩⟩
  rw [← HBW.out] at BZ ⊢
  have HNZ : Aside0 (bw + 1 ≠ g) := ⟨by rw [HBW.out]; have := HGW.out; omega⟩
  refine (lines_calls g L p s y n w0 u0 HI.out HB.out HD.out HC.out).mono ?_
  rintro e wr ⟨v, x, q, rfl, hS, hG, hD, hI, hB, hK⟩
  obtain ⟨A, cx, rfl⟩ := Kd.S_slice hS
  replace BZ := Aside0.mk (hK.blk BZ.out HNZ.out (by simp))
  have HS := Aside0.mk (Kd.S_lower hS HK.out.1)
  replace HK := Aside0.mk (HK.out.trans hK (.inl rfl))
  clear HI HB HD
  have HG := Aside0.mk hG
  have HD := Aside0.mk hD
  have HI := Aside0.mk hI
  have HB := Aside0.mk hB
  clear hS hG hD hI hB hK
  generalize x.length = lx at HS ⊢
  have hz := blk_cell BZ.out 0
  have hzf := blk_frozen BZ.out 0
  replace hz : wr.cell? ⟨bw + 1, 0, none⟩ = some (.slice none 0 0) := hz
  go_wp2_with fail
  clear hz hzf
  have BR := Aside0.mk (blk_set BZ.out 0 (.slice A lx cx))
  have hr := blk_cell BR.out 0
  replace hr : (wr.setCell ⟨bw + 1, 0, none⟩ (.slice A lx cx)).cell? ⟨bw + 1, 0, none⟩ = some (.slice A lx cx) := hr
  have HOUT : Aside0 (LinesOut w0 w g L s y (.returned (.agg #[.slice A lx cx])) (wr.setCell ⟨bw + 1, 0, none⟩ (.slice A lx cx))) := ⟨⟨_, x, q, rfl,
    Kd.S_mono (Kd.S_far (Kd.S_types HS.out BZ.out (by intro q hq; simp [Kd.slice, Kd.int, Kd.scalar] at hq; omega)) (fun k hk => hk.2) _) (fun k hk => hk.1), HG.out, HD.out,
    HI.out.far (Ne.symm HNZ.out) _, below_set HB.out (by rw [HBW.out]; have := HW0.out; omega), keep_far HK.out (by rw [HBW.out]; omega) _⟩⟩
  generalize wr.setCell ⟨bw + 1, 0, none⟩ (.slice A lx cx) = WR at hr HOUT ⊢
  refine bodyPost_ret (v := .agg #[.slice A lx cx]) (by simp [results, Try.results28, go_sem, hr, hu42]) rfl ?_
  exact HOUT.out

set_option maxHeartbeats 4000000 in
set_option maxRecDepth 100000 in
theorem Contents_calls (g : Nat) (L : List Int) (p : Int) (s y n : Int) (w0 w : World) (hI : IsS51 w0 w g L p) (hB : Below w0.heap.size w0 w) (hD : InDeck L p) (hc : CacheIn s y n) :
    Calls Try.prog 15 #[.pointer (some ⟨g, 0, none⟩), .agg #[.int .i64 s, .int .i64 y, .int .i64 n]] w (LinesOut w0 w g L s y) := by
  have hu26 := Try.underlying26
  have hu42 := Try.underlying42
  have HC := Aside0.mk hc
  have HI := Aside0.mk hI
  have HB := Aside0.mk hB
  have HD := Aside0.mk hD
  clear hI hB hD hc
  go_enter Try.func15, Try.ntmps15
  go_wp2_with fail
  have hb0 := below_alloc (below_alloc (Below.refl w.heap.size w) (.cells #[.int .i64 s, .int .i64 y, .int .i64 n] 26)) (.cells #[.slice none 0 0] 42)
  have HK := Aside0.mk (KeepBut.of_below hb0 g none)
  have BZ := Aside0.mk (heap_alloc2_new w (.cells #[.int .i64 s, .int .i64 y, .int .i64 n] 26) (.cells #[.slice none 0 0] 42))
  have HGW : Aside0 (g < w.heap.size) := ⟨HI.out.lt⟩
  have HW0 : Aside0 (w0.heap.size ≤ w.heap.size) := ⟨HB.out.size⟩
  replace HI := Aside0.mk ((HI.out.alloc (.cells #[.int .i64 s, .int .i64 y, .int .i64 n] 26)).alloc (.cells #[.slice none 0 0] 42))
  replace HB := Aside0.mk (below_alloc (below_alloc HB.out (.cells #[.int .i64 s, .int .i64 y, .int .i64 n] 26)) (.cells #[.slice none 0 0] 42))
  clear hb0
  generalize (w.alloc (.cells #[.int .i64 s, .int .i64 y, .int .i64 n] 26)).alloc (.cells #[.slice none 0 0] 42) = u0 at HK BZ HI HB ⊢
  obtain ⟨bw, HBW⟩ : ∃ b, Aside0 (b = w.heap.size) := ⟨_, ⟨rfl⟩⟩
  rw [← HBW.out] at BZ ⊢
  have HNZ : Aside0 (bw + 1 ≠ g) := ⟨by rw [HBW.out]; have := HGW.out; omega⟩
  refine (Lines_calls g L p s y n w0 u0 HI.out HB.out HD.out HC.out).mono ?_
  rintro e wr ⟨v, x, q, rfl, hS, hG, hD, hI, hB, hK⟩
  obtain ⟨A, cx, rfl⟩ := Kd.S_slice hS
  replace BZ := Aside0.mk (hK.blk BZ.out HNZ.out (by simp))
  have HS := Aside0.mk (Kd.S_lower hS HK.out.1)
  replace HK := Aside0.mk (HK.out.trans hK (.inl rfl))
  clear HI HB HD
  have HG := Aside0.mk hG
  have HD := Aside0.mk hD
  have HI := Aside0.mk hI
  have HB := Aside0.mk hB
  clear hS hG hD hI hB hK
  generalize x.length = lx at HS ⊢
  have hz := blk_cell BZ.out 0
  have hzf := blk_frozen BZ.out 0
  replace hz : wr.cell? ⟨bw + 1, 0, none⟩ = some (.slice none 0 0) := hz
  go_wp2_with fail
  clear hz hzf
  have BR := Aside0.mk (blk_set BZ.out 0 (.slice A lx cx))
  have hr := blk_cell BR.out 0
  replace hr : (wr.setCell ⟨bw + 1, 0, none⟩ (.slice A lx cx)).cell? ⟨bw + 1, 0, none⟩ = some (.slice A lx cx) := hr
  have HOUT : Aside0 (LinesOut w0 w g L s y (.returned (.agg #[.slice A lx cx])) (wr.setCell ⟨bw + 1, 0, none⟩ (.slice A lx cx))) := ⟨⟨_, x, q, rfl,
    Kd.S_mono (Kd.S_far (Kd.S_types HS.out BZ.out (by intro q hq; simp [Kd.slice, Kd.int, Kd.scalar] at hq; omega)) (fun k hk => hk.2) _) (fun k hk => hk.1), HG.out, HD.out,
    HI.out.far (Ne.symm HNZ.out) _, below_set HB.out (by rw [HBW.out]; have := HW0.out; omega), keep_far HK.out (by rw [HBW.out]; omega) _⟩⟩
  generalize wr.setCell ⟨bw + 1, 0, none⟩ (.slice A lx cx) = WR at hr HOUT ⊢
  refine bodyPost_ret (v := .agg #[.slice A lx cx]) (by simp [results, Try.results15, go_sem, hr, hu42]) rfl ?_
  exact HOUT.out
end Go.Proofs.Ytcaanbicgpfonaa.PPl
