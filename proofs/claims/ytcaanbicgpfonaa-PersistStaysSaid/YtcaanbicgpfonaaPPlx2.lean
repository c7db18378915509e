-- printed by wip/tools/print2.sh (the kit's print, with given texts of this repo); not trusted: Lean checks it
import Derived.Test.YtcaanbicgpfonaaPPlx0
import Derived.Test.YtcaanbicgpfonaaPPlx1
namespace Go.Proofs.Ytcaanbicgpfonaa.PPl
open Go.RowKit Go.Proofs.YtcaanbicgpfonaaW.PrintWords Go.Proofs.YtcaanbicgpfonaaW.PrintLast Go.Proofs.YtcaanbicgpfonaaW.PrintMore
attribute [local go_sem] max2_int min2_int max_two min_two max_three min_three max_four min_four   -- for this text's walks alone
set_option linter.unusedVariables false
set_option linter.unusedSimpArgs false

def InDeck (L : List Int) (p : Int) : Prop := 0 ≤ p ∧ p ≤ (L.length : Int) ∧ (L.length : Int) ≤ 20000000000000
theorem mod_ok (a n : Int) (h1 : 1 ≤ n) (h2 : n ≤ 1000000000) : ∃ r, timeboundmake_Mod.f a n = some r ∧ 0 ≤ r ∧ r < n := by
  unfold timeboundmake_Mod.f
  rw [if_neg (by omega)]
  have e1 : Int.tmod a n < n := Int.tmod_lt_of_pos a (by omega)
  have e2 : -n < Int.tmod a n := by
    have := Int.tmod_lt_of_pos (-a) (show (0 : Int) < n by omega)
    rw [Int.neg_tmod] at this
    omega
  refine ⟨_, rfl, ?_⟩
  rw [show wrap64 (Int.tmod a n + n) = Int.tmod a n + n by unfold wrap64; omega]
  exact ⟨Int.tmod_nonneg _ (by omega), Int.tmod_lt_of_pos _ (by omega)⟩
theorem next_ok (L : List Int) (p n : Int) (h : InDeck L p) (hn : n ≤ 1000000000) : ∃ r q, timeboundmake_Deck_Next.f L p n = some (r, q) ∧ 0 ≤ r ∧ (r < n ∨ r = 0) ∧ InDeck L q := by
  obtain ⟨h0, h1, h2⟩ := h
  unfold timeboundmake_Deck_Next.f
  by_cases c1 : p ≥ (L.length : Int)
  · rw [if_pos c1]; exact ⟨0, p, rfl, by omega, .inr rfl, h0, h1, h2⟩
  · rw [if_neg c1]
    by_cases c2 : n ≤ 1
    · rw [if_pos c2]; exact ⟨0, p, rfl, by omega, .inr rfl, h0, h1, h2⟩
    · rw [if_neg c2]
      have e1 : wrap64 (p + 1) = p + 1 := by unfold wrap64; omega
      have e2 : wrap64 (p + 1 - 1) = p := by unfold wrap64; omega
      rw [e1, e2, if_pos h0, if_pos (by omega)]
      obtain ⟨r, hr, r0, r1⟩ := mod_ok (rd L p) n (by omega) hn
      rw [hr]
      exact ⟨r, p + 1, rfl, r0, .inl r1, by omega, by omega, h2⟩
/-- A row that lies whole in a block: read. -/
theorem C_block {α : Type} {d : Kd α} {W : World} {B : Nat} {e : TypeId} {cs : List Value} {xs : List α} (h : W.heap[B]? = some (.cells cs.toArray e (0, 0))) (hr : Reps (d.K W) d.sz xs cs) (hd : 0 < d.sz) (hl : xs.length ≤ 9223372036854775807) : d.C W (some ⟨B, 0, none⟩) xs.length xs := by
  refine ⟨rfl, hl, fun _ => ⟨_, rfl, fun j p hj => ⟨(cs.drop (j * d.sz)).take d.sz, ?_, hr.2 j p hj, fun i u hu => ?_⟩⟩⟩
  · rw [List.length_take, List.length_drop, hr.1]
    have := (List.getElem?_eq_some_iff.1 hj).1
    have h1 : j * d.sz + d.sz ≤ xs.length * d.sz := by rw [← Nat.succ_mul]; exact Nat.mul_le_mul_right _ this
    omega
  · rw [add_plain, blk_cell h]
    have hi : i < d.sz := by
      have := (List.getElem?_eq_some_iff.1 hu).1
      rw [List.length_take] at this
      omega
    rw [List.getElem?_take_of_lt hi, List.getElem?_drop] at hu
    simpa using hu
/-- Elements of one cell each, one after the other. -/
theorem C_nil {α : Type} (d : Kd α) (W : World) : d.C W none 0 ([] : List α) := ⟨rfl, by omega, fun h => absurd h (by omega)⟩
/-- What a cache may be that comes out of a deck. -/
def CacheIn (s y n : Int) : Prop := 0 ≤ s ∧ s ≤ 4 ∧ 1 ≤ y ∧ y ≤ 3 ∧ 1 ≤ n ∧ n ≤ 4
theorem cache_made (L : List Int) (p : Int) (h : InDeck L p) : ∃ s y n q, timeboundmake_Cache.f L p = some (s, y, n, q) ∧ CacheIn s y n ∧ InDeck L q := by
  obtain ⟨r1, p1, e1, a1, b1, h1⟩ := next_ok L p 5 h (by omega)
  obtain ⟨r2, p2, e2, a2, b2, h2⟩ := next_ok L p1 3 h1 (by omega)
  obtain ⟨r3, p3, e3, a3, b3, h3⟩ := next_ok L p2 4 h2 (by omega)
  unfold timeboundmake_Cache.f
  rw [e1]; simp only [Option.bind_some]
  rw [e2]; simp only [Option.bind_some]
  rw [e3]; simp only [Option.bind_some]
  refine ⟨_, _, _, _, rfl, ?_, h3⟩
  rw [show wrap64 (1 + r2) = 1 + r2 by unfold wrap64; omega, show wrap64 (1 + r3) = 1 + r3 by unfold wrap64; omega]
  exact ⟨by omega, by omega, by omega, by omega, by omega, by omega⟩
/-- The next number of a deck. -/
theorem next_step {g : Nat} {L : List Int} {p : Int} {w0 w : World} (n : Int) (hI : IsS51 w0 w g L p) (hB : Below w0.heap.size w0 w) (hD : InDeck L p) (hn : n ≤ 1000000000) :
    Calls Try.prog 17 #[.pointer (some ⟨g, 0, none⟩), .int .i64 n] w fun e w' => ∃ r q, e = .returned (.int .i64 r) ∧ 0 ≤ r ∧ (r < n ∨ r = 0) ∧ Aside0 (InDeck L q) ∧ Aside0 (IsS51 w0 w' g L q) ∧ Aside0 (Below w0.heap.size w0 w') ∧ Aside0 (KeepBut w w' g none) := by
  obtain ⟨r, q, e, a, b, h⟩ := next_ok L p n hD hn
  refine (timeboundmake_Deck_Next.calls g L p n r q w0 w hI hB e).mono ?_
  rintro e w' ⟨rfl, h1, h2, h3⟩
  exact ⟨r, q, rfl, a, b, ⟨h⟩, ⟨h1⟩, ⟨h2⟩, ⟨h3⟩⟩
theorem cache_step {g : Nat} {L : List Int} {p : Int} {w0 w : World} (hI : IsS51 w0 w g L p) (hB : Below w0.heap.size w0 w) (hD : InDeck L p) :
    Calls Try.prog 20 #[.pointer (some ⟨g, 0, none⟩)] w fun e w' => ∃ s y n q, e = .returned (.agg #[.int .i64 s, .int .i64 y, .int .i64 n]) ∧ Aside0 (CacheIn s y n) ∧ Aside0 (InDeck L q) ∧ Aside0 (IsS51 w0 w' g L q) ∧ Aside0 (Below w0.heap.size w0 w') ∧ Aside0 (KeepBut w w' g none) := by
  obtain ⟨s, y, n, q, e, hc, h⟩ := cache_made L p hD
  refine (timeboundmake_Cache.calls g L p s y n q w0 w hI hB e).mono ?_
  rintro e w' ⟨rfl, h1, h2, h3⟩
  exact ⟨s, y, n, q, rfl, ⟨hc⟩, ⟨h⟩, ⟨h1⟩, ⟨h2⟩, ⟨h3⟩⟩
theorem setRow_block (u : World) (g : Nat) (t : TypeId) (cs old : Array Value) (h : u.heap[g]? = some (.cells old t (0, 0))) : (u.setRow g cs).heap[g]? = some (.cells cs t (0, 0)) := by
  unfold World.setRow
  simp only [Array.getElem?_modify]
  rw [if_pos trivial, h]
  rfl
theorem setRow_other (u : World) (g : Nat) (cs : Array Value) (k : Nat) (hk : k ≠ g) : (u.setRow g cs).heap[k]? = u.heap[k]? := by
  unfold World.setRow
  simp only [Array.getElem?_modify]
  rw [if_neg (Ne.symm hk)]
theorem setRow_grown (u : World) (g : Nat) (cs : Array Value) : u.grownBy (u.setRow g cs) (some g) :=
  ⟨rfl, rfl, rfl, by simp, fun k _ hk => setRow_other u g cs k (fun e => hk (by rw [e]))⟩
def ProcOut (w0 : World) (g : Nat) (L : List Int) (e : Ending) (w' : World) : Prop :=
  ∃ (a0 a1 a2 a3 a4 a5 a6 a7 a8 a9 a10 a11 a12 a13 a14 : Int) (A15 : Option Addr) (c15 : Nat) (l15 : List S53) (A16 : Option Addr) (c16 : Nat) (l16 : List S53) (q : Int),
    e = .returned (.agg #[.int .i64 a0, .int .i64 a1, .int .i64 a2, .int .i64 a3, .int .i64 a4, .int .i64 a5, .int .i64 a6, .int .i64 a7, .int .i64 a8, .int .i64 a9, .int .i64 a10, .int .i64 a11, .int .i64 a12, .int .i64 a13, .int .i64 a14, .slice A15 l15.length c15, .slice A16 l16.length c16]) ∧
    CacheIn a3 a4 a5 ∧ l15.length ≤ c15 ∧ Kd.C k53 w' A15 l15.length l15 ∧ l16.length ≤ c16 ∧ Kd.C k53 w' A16 l16.length l16 ∧ InDeck L q ∧ IsS51 w0 w' g L q ∧ Below w0.heap.size w0 w'

set_option maxHeartbeats 8000000 in
set_option maxRecDepth 100000 in
theorem Processor_calls (g : Nat) (L : List Int) (p : Int) (w0 w : World) (hI : IsS51 w0 w g L p) (hB : Below w0.heap.size w0 w) (hD : InDeck L p) :
    Calls Try.prog 6 #[.pointer (some ⟨g, 0, none⟩)] w (ProcOut w0 g L) := by
  have hu29 := Try.underlying29
  have hu53 := Try.underlying53
  have hu26 := Try.underlying26
  have HI := Aside0.mk hI
  have HB := Aside0.mk hB
  have HD := Aside0.mk hD
  clear hI hB hD
  go_enter Try.func6, Try.ntmps6
  go_wp2_with fail
  have BK := Aside0.mk (heap_alloc_new w (.cells #[.int .i64 0, .int .i64 0, .int .i64 0, .int .i64 0, .int .i64 0, .int .i64 0, .int .i64 0, .int .i64 0, .int .i64 0, .int .i64 0, .int .i64 0, .int .i64 0, .int .i64 0, .int .i64 0, .int .i64 0, .slice none 0 0, .slice none 0 0] 29))
  have hne : w.heap.size ≠ g := by have := HI.out.lt; omega
  have HGE : Aside0 (w0.heap.size ≤ w.heap.size) := ⟨HB.out.size⟩
  replace HI := Aside0.mk (HI.out.alloc (.cells #[.int .i64 0, .int .i64 0, .int .i64 0, .int .i64 0, .int .i64 0, .int .i64 0, .int .i64 0, .int .i64 0, .int .i64 0, .int .i64 0, .int .i64 0, .int .i64 0, .int .i64 0, .int .i64 0, .int .i64 0, .slice none 0 0, .slice none 0 0] 29))
  replace HB := Aside0.mk (below_alloc HB.out (.cells #[.int .i64 0, .int .i64 0, .int .i64 0, .int .i64 0, .int .i64 0, .int .i64 0, .int .i64 0, .int .i64 0, .int .i64 0, .int .i64 0, .int .i64 0, .int .i64 0, .int .i64 0, .int .i64 0, .int .i64 0, .slice none 0 0, .slice none 0 0] 29))
  generalize w.alloc (.cells #[.int .i64 0, .int .i64 0, .int .i64 0, .int .i64 0, .int .i64 0, .int .i64 0, .int .i64 0, .int .i64 0, .int .i64 0, .int .i64 0, .int .i64 0, .int .i64 0, .int .i64 0, .int .i64 0, .int .i64 0, .slice none 0 0, .slice none 0 0] 29) = u0 at BK HI HB ⊢
  generalize w.heap.size = b2 at BK hne HGE ⊢
  refine (cache_step HI.out HB.out HD.out).mono ?_
  rintro e u1 ⟨x0, x1, x2, q1, rfl, HC1, HD1, HI1, HB1, HK1⟩
  replace BK := Aside0.mk (HK1.out.blk BK.out hne (by simp))
  clear HI HB HD HK1
  have HI := HI1
  have HB := HB1
  have HD := HD1
  clear HI1 HB1 HD1
  go_wp2_with fail
  refine (cache_step HI.out HB.out HD.out).mono ?_
  rintro e u2 ⟨x3, x4, x5, q2, rfl, HC2, HD2, HI2, HB2, HK2⟩
  replace BK := Aside0.mk (HK2.out.blk BK.out hne (by simp))
  clear HI HB HD HK2
  have HI := HI2
  have HB := HB2
  have HD := HD2
  clear HI2 HB2 HD2
  go_wp2_with fail
  refine (next_step 12 HI.out HB.out HD.out (by omega)).mono ?_
  rintro e u3 ⟨x6, q3, rfl, la3, lb3, HD3, HI3, HB3, HK3⟩
  replace BK := Aside0.mk (HK3.out.blk BK.out hne (by simp))
  clear HI HB HD HK3
  have HI := HI3
  have HB := HB3
  have HD := HD3
  clear HI3 HB3 HD3
  go_wp2_with fail
  refine (next_step 4 HI.out HB.out HD.out (by omega)).mono ?_
  rintro e u4 ⟨x7, q4, rfl, la4, lb4, HD4, HI4, HB4, HK4⟩
  replace BK := Aside0.mk (HK4.out.blk BK.out hne (by simp))
  clear HI HB HD HK4
  have HI := HI4
  have HB := HB4
  have HD := HD4
  clear HI4 HB4 HD4
  go_wp2_with fail
  refine (next_step 4 HI.out HB.out HD.out (by omega)).mono ?_
  rintro e u5 ⟨x8, q5, rfl, la5, lb5, HD5, HI5, HB5, HK5⟩
  replace BK := Aside0.mk (HK5.out.blk BK.out hne (by simp))
  clear HI HB HD HK5
  have HI := HI5
  have HB := HB5
  have HD := HD5
  clear HI5 HB5 HD5
  go_wp2_with fail
  refine (next_step 6 HI.out HB.out HD.out (by omega)).mono ?_
  rintro e u6 ⟨x9, q6, rfl, la6, lb6, HD6, HI6, HB6, HK6⟩
  replace BK := Aside0.mk (HK6.out.blk BK.out hne (by simp))
  clear HI HB HD HK6
  have HI := HI6
  have HB := HB6
  have HD := HD6
  clear HI6 HB6 HD6
  go_wp2_with fail
  refine (next_step 5 HI.out HB.out HD.out (by omega)).mono ?_
  rintro e u7 ⟨x10, q7, rfl, la7, lb7, HD7, HI7, HB7, HK7⟩
  replace BK := Aside0.mk (HK7.out.blk BK.out hne (by simp))
  clear HI HB HD HK7
  have HI := HI7
  have HB := HB7
  have HD := HD7
  clear HI7 HB7 HD7
  go_wp2_with fail
  refine (next_step 5 HI.out HB.out HD.out (by omega)).mono ?_
  rintro e u8 ⟨x11, q8, rfl, la8, lb8, HD8, HI8, HB8, HK8⟩
  replace BK := Aside0.mk (HK8.out.blk BK.out hne (by simp))
  clear HI HB HD HK8
  have HI := HI8
  have HB := HB8
  have HD := HD8
  clear HI8 HB8 HD8
  go_wp2_with fail
  refine (next_step 3 HI.out HB.out HD.out (by omega)).mono ?_
  rintro e u9 ⟨x12, q9, rfl, la9, lb9, HD9, HI9, HB9, HK9⟩
  replace BK := Aside0.mk (HK9.out.blk BK.out hne (by simp))
  clear HI HB HD HK9
  have HI := HI9
  have HB := HB9
  have HD := HD9
  clear HI9 HB9 HD9
  go_wp2_with fail
  refine (next_step 4 HI.out HB.out HD.out (by omega)).mono ?_
  rintro e u10 ⟨x13, q10, rfl, la10, lb10, HD10, HI10, HB10, HK10⟩
  replace BK := Aside0.mk (HK10.out.blk BK.out hne (by simp))
  clear HI HB HD HK10
  have HI := HI10
  have HB := HB10
  have HD := HD10
  clear HI10 HB10 HD10
  go_wp2_with fail
  refine (next_step 9 HI.out HB.out HD.out (by omega)).mono ?_
  rintro e u11 ⟨x14, q11, rfl, la11, lb11, HD11, HI11, HB11, HK11⟩
  replace BK := Aside0.mk (HK11.out.blk BK.out hne (by simp))
  clear HI HB HD HK11
  have HI := HI11
  have HB := HB11
  have HD := HD11
  clear HI11 HB11 HD11
  go_wp2_with fail
  have BK3 := Aside0.mk (heap_alloc_new u11 (.cells #[.int .i64 x0, .int .i64 x1, .int .i64 x2, .int .i64 x3, .int .i64 x4, .int .i64 x5, .int .i64 x6, .int .i64 x7, .int .i64 (1 + x8), .int .i64 x9, .int .i64 x10, .int .i64 x11, .int .i64 x12, .int .i64 x13, .int .i64 x14, .slice none 0 0, .slice none 0 0] 29))
  have hne3 : u11.heap.size ≠ g := by have := HI.out.lt; omega
  have hlt2 : b2 < u11.heap.size := blk_lt BK.out
  have hn23 : b2 ≠ u11.heap.size := by omega
  have HGE3 : Aside0 (w0.heap.size ≤ u11.heap.size) := ⟨HB.out.size⟩
  replace HI := Aside0.mk (HI.out.alloc (.cells #[.int .i64 x0, .int .i64 x1, .int .i64 x2, .int .i64 x3, .int .i64 x4, .int .i64 x5, .int .i64 x6, .int .i64 x7, .int .i64 (1 + x8), .int .i64 x9, .int .i64 x10, .int .i64 x11, .int .i64 x12, .int .i64 x13, .int .i64 x14, .slice none 0 0, .slice none 0 0] 29))
  replace HB := Aside0.mk (below_alloc HB.out (.cells #[.int .i64 x0, .int .i64 x1, .int .i64 x2, .int .i64 x3, .int .i64 x4, .int .i64 x5, .int .i64 x6, .int .i64 x7, .int .i64 (1 + x8), .int .i64 x9, .int .i64 x10, .int .i64 x11, .int .i64 x12, .int .i64 x13, .int .i64 x14, .slice none 0 0, .slice none 0 0] 29))
  replace BK := Aside0.mk (blk_alloc BK.out (.cells #[.int .i64 x0, .int .i64 x1, .int .i64 x2, .int .i64 x3, .int .i64 x4, .int .i64 x5, .int .i64 x6, .int .i64 x7, .int .i64 (1 + x8), .int .i64 x9, .int .i64 x10, .int .i64 x11, .int .i64 x12, .int .i64 x13, .int .i64 x14, .slice none 0 0, .slice none 0 0] 29))
  generalize u11.alloc (.cells #[.int .i64 x0, .int .i64 x1, .int .i64 x2, .int .i64 x3, .int .i64 x4, .int .i64 x5, .int .i64 x6, .int .i64 x7, .int .i64 (1 + x8), .int .i64 x9, .int .i64 x10, .int .i64 x11, .int .i64 x12, .int .i64 x13, .int .i64 x14, .slice none 0 0, .slice none 0 0] 29) = u12 at BK BK3 HI HB ⊢
  generalize u11.heap.size = b3 at BK3 hne3 hn23 HGE3 ⊢
  clear hlt2
  refine (next_step 3 HI.out HB.out HD.out (by omega)).mono ?_
  rintro e u13 ⟨r0, q13, rfl, la13, lb13, HD13, HI13, HB13, HK13⟩
  replace BK := Aside0.mk (HK13.out.blk BK.out hne (by simp))
  replace BK3 := Aside0.mk (HK13.out.blk BK3.out hne3 (by simp))
  clear HI HB HD HK13
  have HI := HI13
  have HB := HB13
  have HD := HD13
  clear HI13 HB13 HD13
  by_cases hr0 : r0 = 2
  · subst hr0
    go_wp2_with fail
    refine (next_step 100 HI.out HB.out HD.out (by omega)).mono ?_
    rintro e u14 ⟨a0, q14, rfl, la14, lb14, HD14, HI14, HB14, HK14⟩
    replace BK := Aside0.mk (HK14.out.blk BK.out hne (by simp))
    replace BK3 := Aside0.mk (HK14.out.blk BK3.out hne3 (by simp))
    clear HI HB HD HK14
    have HI := HI14
    have HB := HB14
    have HD := HD14
    clear HI14 HB14 HD14
    go_wp2_with fail
    refine (next_step 40 HI.out HB.out HD.out (by omega)).mono ?_
    rintro e u15 ⟨b0, q15, rfl, la15, lb15, HD15, HI15, HB15, HK15⟩
    replace BK := Aside0.mk (HK15.out.blk BK.out hne (by simp))
    replace BK3 := Aside0.mk (HK15.out.blk BK3.out hne3 (by simp))
    clear HI HB HD HK15
    have HI := HI15
    have HB := HB15
    have HD := HD15
    clear HI15 HB15 HD15
    have hcl : u15.cell? ⟨b3, 15, none⟩ = some (.slice none 0 0) := (blk_cell BK3.out 15).trans rfl
    have hfr : u15.frozen? ⟨b3, 15, none⟩ = false := blk_frozen BK3.out 15
    have hcla : ∀ o : Obj, (u15.alloc o).cell? ⟨b3, 15, none⟩ = some (.slice none 0 0) := fun o => (blk_cell (blk_alloc BK3.out o) 15).trans rfl
    have hfra : ∀ o : Obj, (u15.alloc o).frozen? ⟨b3, 15, none⟩ = false := fun o => blk_frozen (blk_alloc BK3.out o) 15
    have hl3 : b3 < u15.heap.size := blk_lt BK3.out
    go_wp2_with fail
    clear hcl hfr hcla hfra
    have BL0 : Aside0 (((u15.setCell ⟨b3, 15, none⟩ (.slice (some ⟨u15.heap.size, 0, none⟩) 1 1)).alloc (.cells #[.int .i64 a0, .int .i64 (a0 + b0)] 53)).heap[u15.heap.size]? = some (.cells #[.int .i64 a0, .int .i64 (a0 + b0)] 53 (0, 0))) := ⟨by have := heap_alloc_new (u15.setCell ⟨b3, 15, none⟩ (.slice (some ⟨u15.heap.size, 0, none⟩) 1 1)) (.cells #[.int .i64 a0, .int .i64 (a0 + b0)] 53); simpa using this⟩
    have hng0 : u15.heap.size ≠ g := by have := HI.out.lt; omega
    have hnb0 : u15.heap.size ≠ b3 := by omega
    have hnc0 : u15.heap.size ≠ b2 := by have := blk_lt BK.out; omega
    replace BK := Aside0.mk (blk_alloc (blk_far BK.out (p := ⟨b3, 15, none⟩) hn23 (.slice (some ⟨u15.heap.size, 0, none⟩) 1 1)) (.cells #[.int .i64 a0, .int .i64 (a0 + b0)] 53))
    have BK4 : Aside0 (((u15.setCell ⟨b3, 15, none⟩ (.slice (some ⟨u15.heap.size, 0, none⟩) 1 1)).alloc (.cells #[.int .i64 a0, .int .i64 (a0 + b0)] 53)).heap[b3]? = some (.cells #[.int .i64 x0, .int .i64 x1, .int .i64 x2, .int .i64 x3, .int .i64 x4, .int .i64 x5, .int .i64 x6, .int .i64 x7, .int .i64 (1 + x8), .int .i64 x9, .int .i64 x10, .int .i64 x11, .int .i64 x12, .int .i64 x13, .int .i64 x14, .slice (some ⟨u15.heap.size, 0, none⟩) 1 1, .slice none 0 0] 29 (0, 0))) := ⟨(blk_alloc (blk_set BK3.out 15 (.slice (some ⟨u15.heap.size, 0, none⟩) 1 1)) (.cells #[.int .i64 a0, .int .i64 (a0 + b0)] 53)).trans rfl⟩
    clear BK3
    have BK3 := BK4
    clear BK4
    replace HI := Aside0.mk ((HI.out.far (p := ⟨b3, 15, none⟩) (Ne.symm hne3) (.slice (some ⟨u15.heap.size, 0, none⟩) 1 1)).alloc (.cells #[.int .i64 a0, .int .i64 (a0 + b0)] 53))
    replace HB := Aside0.mk (below_alloc (below_set (j := 15) (v := .slice (some ⟨u15.heap.size, 0, none⟩) 1 1) HB.out HGE3.out) (.cells #[.int .i64 a0, .int .i64 (a0 + b0)] 53))
    generalize (u15.setCell ⟨b3, 15, none⟩ (.slice (some ⟨u15.heap.size, 0, none⟩) 1 1)).alloc (.cells #[.int .i64 a0, .int .i64 (a0 + b0)] 53) = v0 at BK BK3 HI HB BL0 ⊢
    generalize u15.heap.size = bl0 at BK3 BL0 hng0 hnb0 hnc0 ⊢
    clear hl3
    refine (next_step 3 HI.out HB.out HD.out (by omega)).mono ?_
    rintro e u16 ⟨r1, q16, rfl, la16, lb16, HD16, HI16, HB16, HK16⟩
    replace BK := Aside0.mk (HK16.out.blk BK.out hne (by simp))
    replace BK3 := Aside0.mk (HK16.out.blk BK3.out hne3 (by simp))
    replace BL0 := Aside0.mk (HK16.out.blk BL0.out hng0 (by simp))
    clear HI HB HD HK16
    have HI := HI16
    have HB := HB16
    have HD := HD16
    clear HI16 HB16 HD16
    by_cases hr1 : r1 = 2
    · subst hr1
      go_wp2_with fail
      refine (next_step 30 HI.out HB.out HD.out (by omega)).mono ?_
      rintro e u17 ⟨a1, q17, rfl, la17, lb17, HD17, HI17, HB17, HK17⟩
      replace BK := Aside0.mk (HK17.out.blk BK.out hne (by simp))
      replace BK3 := Aside0.mk (HK17.out.blk BK3.out hne3 (by simp))
      replace BL0 := Aside0.mk (HK17.out.blk BL0.out hng0 (by simp))
      clear HI HB HD HK17
      have HI := HI17
      have HB := HB17
      have HD := HD17
      clear HI17 HB17 HD17
      go_wp2_with fail
      refine (next_step 20 HI.out HB.out HD.out (by omega)).mono ?_
      rintro e u18 ⟨b1, q18, rfl, la18, lb18, HD18, HI18, HB18, HK18⟩
      replace BK := Aside0.mk (HK18.out.blk BK.out hne (by simp))
      replace BK3 := Aside0.mk (HK18.out.blk BK3.out hne3 (by simp))
      replace BL0 := Aside0.mk (HK18.out.blk BL0.out hng0 (by simp))
      clear HI HB HD HK18
      have HI := HI18
      have HB := HB18
      have HD := HD18
      clear HI18 HB18 HD18
      have hcl : u18.cell? ⟨b3, 16, none⟩ = some (.slice none 0 0) := (blk_cell BK3.out 16).trans rfl
      have hfr : u18.frozen? ⟨b3, 16, none⟩ = false := blk_frozen BK3.out 16
      have hcla : ∀ o : Obj, (u18.alloc o).cell? ⟨b3, 16, none⟩ = some (.slice none 0 0) := fun o => (blk_cell (blk_alloc BK3.out o) 16).trans rfl
      have hfra : ∀ o : Obj, (u18.alloc o).frozen? ⟨b3, 16, none⟩ = false := fun o => blk_frozen (blk_alloc BK3.out o) 16
      have hl3 : b3 < u18.heap.size := blk_lt BK3.out
      go_upto_region 8 with (fail)
      clear hcl hfr hcla hfra
      have BL1 : Aside0 (((u18.setCell ⟨b3, 16, none⟩ (.slice (some ⟨u18.heap.size, 0, none⟩) 1 1)).alloc (.cells #[.int .i64 a1, .int .i64 (a1 + b1)] 53)).heap[u18.heap.size]? = some (.cells #[.int .i64 a1, .int .i64 (a1 + b1)] 53 (0, 0))) := ⟨by have := heap_alloc_new (u18.setCell ⟨b3, 16, none⟩ (.slice (some ⟨u18.heap.size, 0, none⟩) 1 1)) (.cells #[.int .i64 a1, .int .i64 (a1 + b1)] 53); simpa using this⟩
      have hng1 : u18.heap.size ≠ g := by have := HI.out.lt; omega
      have hnb1 : u18.heap.size ≠ b3 := by omega
      have hnc1 : u18.heap.size ≠ b2 := by have := blk_lt BK.out; omega
      replace BL0 := Aside0.mk (blk_alloc (blk_far BL0.out (p := ⟨b3, 16, none⟩) hnb0 (.slice (some ⟨u18.heap.size, 0, none⟩) 1 1)) (.cells #[.int .i64 a1, .int .i64 (a1 + b1)] 53))
      replace BK := Aside0.mk (blk_alloc (blk_far BK.out (p := ⟨b3, 16, none⟩) hn23 (.slice (some ⟨u18.heap.size, 0, none⟩) 1 1)) (.cells #[.int .i64 a1, .int .i64 (a1 + b1)] 53))
      have BK4 : Aside0 (((u18.setCell ⟨b3, 16, none⟩ (.slice (some ⟨u18.heap.size, 0, none⟩) 1 1)).alloc (.cells #[.int .i64 a1, .int .i64 (a1 + b1)] 53)).heap[b3]? = some (.cells #[.int .i64 x0, .int .i64 x1, .int .i64 x2, .int .i64 x3, .int .i64 x4, .int .i64 x5, .int .i64 x6, .int .i64 x7, .int .i64 (1 + x8), .int .i64 x9, .int .i64 x10, .int .i64 x11, .int .i64 x12, .int .i64 x13, .int .i64 x14, .slice (some ⟨bl0, 0, none⟩) 1 1, .slice (some ⟨u18.heap.size, 0, none⟩) 1 1] 29 (0, 0))) := ⟨(blk_alloc (blk_set BK3.out 16 (.slice (some ⟨u18.heap.size, 0, none⟩) 1 1)) (.cells #[.int .i64 a1, .int .i64 (a1 + b1)] 53)).trans rfl⟩
      clear BK3
      have BK3 := BK4
      clear BK4
      replace HI := Aside0.mk ((HI.out.far (p := ⟨b3, 16, none⟩) (Ne.symm hne3) (.slice (some ⟨u18.heap.size, 0, none⟩) 1 1)).alloc (.cells #[.int .i64 a1, .int .i64 (a1 + b1)] 53))
      replace HB := Aside0.mk (below_alloc (below_set (j := 16) (v := .slice (some ⟨u18.heap.size, 0, none⟩) 1 1) HB.out HGE3.out) (.cells #[.int .i64 a1, .int .i64 (a1 + b1)] 53))
      generalize (u18.setCell ⟨b3, 16, none⟩ (.slice (some ⟨u18.heap.size, 0, none⟩) 1 1)).alloc (.cells #[.int .i64 a1, .int .i64 (a1 + b1)] 53) = v1 at BK BK3 HI HB BL1 BL0 ⊢
      generalize u18.heap.size = bl1 at BK3 BL1 hng1 hnb1 hnc1 ⊢
      clear hl3
      go_wp2_with (first | ((with_reducible refine gate_dst (N := 56) rfl ?_); refine wpList_load_row rfl 29 (.tmp 3) rfl b3 rfl 29 #[.int .i64 x0, .int .i64 x1, .int .i64 x2, .int .i64 x3, .int .i64 x4, .int .i64 x5, .int .i64 x6, .int .i64 x7, .int .i64 (1 + x8), .int .i64 x9, .int .i64 x10, .int .i64 x11, .int .i64 x12, .int .i64 x13, .int .i64 x14, .slice (some ⟨bl0, 0, none⟩) 1 1, .slice (some ⟨bl1, 0, none⟩) 1 1] (0, 0) _ BK3.out Try.underlying29 rfl (by kernel_rfl) ?_) | ((with_reducible refine gate_store (t := 29) (p := 2) (v := .tmp 56) rfl ?_); refine wpList_store_row rfl 29 (.tmp 2) (.tmp 56) rfl b2 #[.int .i64 x0, .int .i64 x1, .int .i64 x2, .int .i64 x3, .int .i64 x4, .int .i64 x5, .int .i64 x6, .int .i64 x7, .int .i64 (1 + x8), .int .i64 x9, .int .i64 x10, .int .i64 x11, .int .i64 x12, .int .i64 x13, .int .i64 x14, .slice (some ⟨bl0, 0, none⟩) 1 1, .slice (some ⟨bl1, 0, none⟩) 1 1] rfl rfl 29 #[.int .i64 0, .int .i64 0, .int .i64 0, .int .i64 0, .int .i64 0, .int .i64 0, .int .i64 0, .int .i64 0, .int .i64 0, .int .i64 0, .int .i64 0, .int .i64 0, .int .i64 0, .int .i64 0, .int .i64 0, .slice none 0 0, .slice none 0 0] BK.out (by kernel_rfl) rfl (by first | kernel_rfl | simp [Value.oneCell']) ?_) | fail)
      have hBK := Aside0.mk (setRow_block v1 b2 29 #[.int .i64 x0, .int .i64 x1, .int .i64 x2, .int .i64 x3, .int .i64 x4, .int .i64 x5, .int .i64 x6, .int .i64 x7, .int .i64 (1 + x8), .int .i64 x9, .int .i64 x10, .int .i64 x11, .int .i64 x12, .int .i64 x13, .int .i64 x14, .slice (some ⟨bl0, 0, none⟩) 1 1, .slice (some ⟨bl1, 0, none⟩) 1 1] _ BK.out)
      have hGR := Aside0.mk (setRow_grown v1 b2 #[.int .i64 x0, .int .i64 x1, .int .i64 x2, .int .i64 x3, .int .i64 x4, .int .i64 x5, .int .i64 x6, .int .i64 x7, .int .i64 (1 + x8), .int .i64 x9, .int .i64 x10, .int .i64 x11, .int .i64 x12, .int .i64 x13, .int .i64 x14, .slice (some ⟨bl0, 0, none⟩) 1 1, .slice (some ⟨bl1, 0, none⟩) 1 1])
      have hSO := Aside0.mk (setRow_other v1 b2 #[.int .i64 x0, .int .i64 x1, .int .i64 x2, .int .i64 x3, .int .i64 x4, .int .i64 x5, .int .i64 x6, .int .i64 x7, .int .i64 (1 + x8), .int .i64 x9, .int .i64 x10, .int .i64 x11, .int .i64 x12, .int .i64 x13, .int .i64 x14, .slice (some ⟨bl0, 0, none⟩) 1 1, .slice (some ⟨bl1, 0, none⟩) 1 1])
      generalize World.setRow v1 b2 #[.int .i64 x0, .int .i64 x1, .int .i64 x2, .int .i64 x3, .int .i64 x4, .int .i64 x5, .int .i64 x6, .int .i64 x7, .int .i64 (1 + x8), .int .i64 x9, .int .i64 x10, .int .i64 x11, .int .i64 x12, .int .i64 x13, .int .i64 x14, .slice (some ⟨bl0, 0, none⟩) 1 1, .slice (some ⟨bl1, 0, none⟩) 1 1] = W at hBK hGR hSO ⊢
      have hHI : Aside0 (IsS51 w0 W g L _) := ⟨HI.out.grown hGR.out (fun e => hne (Option.some.inj e.symm))⟩
      have hHB : Aside0 (Below w0.heap.size w0 W) := ⟨Below.grown HB.out hGR.out HB.out.size (fun k hk => by injection hk with hk; subst hk; exact HGE.out)⟩
      have hBL0 : Aside0 (W.heap[bl0]? = some (.cells #[.int .i64 a0, .int .i64 (a0 + b0)] 53 (0, 0))) := ⟨(hSO.out bl0 hnc0).trans BL0.out⟩
      have hBL1 : Aside0 (W.heap[bl1]? = some (.cells #[.int .i64 a1, .int .i64 (a1 + b1)] 53 (0, 0))) := ⟨(hSO.out bl1 hnc1).trans BL1.out⟩
      refine bodyPost_ret (results_cell_row rfl _ _ b2 29 #[.int .i64 x0, .int .i64 x1, .int .i64 x2, .int .i64 x3, .int .i64 x4, .int .i64 x5, .int .i64 x6, .int .i64 x7, .int .i64 (1 + x8), .int .i64 x9, .int .i64 x10, .int .i64 x11, .int .i64 x12, .int .i64 x13, .int .i64 x14, .slice (some ⟨bl0, 0, none⟩) 1 1, .slice (some ⟨bl1, 0, none⟩) 1 1] (0, 0) _ rfl hBK.out Try.underlying29 rfl (by kernel_rfl)) rfl ?_
      exact ⟨x0, x1, x2, x3, x4, x5, x6, x7, 1 + x8, x9, x10, x11, x12, x13, x14, some ⟨bl0, 0, none⟩, 1, [⟨a0, a0 + b0⟩], some ⟨bl1, 0, none⟩, 1, [⟨a1, a1 + b1⟩], _, rfl, HC2.out, Nat.le_refl _, C_block (cs := [_, _]) hBL0.out ((Reps.none _ 2).snoc (k53_mk _ ⟨a0, a0 + b0⟩) rfl) (by decide) (by simp), Nat.le_refl _, C_block (cs := [_, _]) hBL1.out ((Reps.none _ 2).snoc (k53_mk _ ⟨a1, a1 + b1⟩) rfl) (by decide) (by simp), HD.out, hHI.out, hHB.out⟩
    · go_upto_region 8 with (fail)
      go_wp2_with (first | ((with_reducible refine gate_dst (N := 56) rfl ?_); refine wpList_load_row rfl 29 (.tmp 3) rfl b3 rfl 29 #[.int .i64 x0, .int .i64 x1, .int .i64 x2, .int .i64 x3, .int .i64 x4, .int .i64 x5, .int .i64 x6, .int .i64 x7, .int .i64 (1 + x8), .int .i64 x9, .int .i64 x10, .int .i64 x11, .int .i64 x12, .int .i64 x13, .int .i64 x14, .slice (some ⟨bl0, 0, none⟩) 1 1, .slice none 0 0] (0, 0) _ BK3.out Try.underlying29 rfl (by kernel_rfl) ?_) | ((with_reducible refine gate_store (t := 29) (p := 2) (v := .tmp 56) rfl ?_); refine wpList_store_row rfl 29 (.tmp 2) (.tmp 56) rfl b2 #[.int .i64 x0, .int .i64 x1, .int .i64 x2, .int .i64 x3, .int .i64 x4, .int .i64 x5, .int .i64 x6, .int .i64 x7, .int .i64 (1 + x8), .int .i64 x9, .int .i64 x10, .int .i64 x11, .int .i64 x12, .int .i64 x13, .int .i64 x14, .slice (some ⟨bl0, 0, none⟩) 1 1, .slice none 0 0] rfl rfl 29 #[.int .i64 0, .int .i64 0, .int .i64 0, .int .i64 0, .int .i64 0, .int .i64 0, .int .i64 0, .int .i64 0, .int .i64 0, .int .i64 0, .int .i64 0, .int .i64 0, .int .i64 0, .int .i64 0, .int .i64 0, .slice none 0 0, .slice none 0 0] BK.out (by kernel_rfl) rfl (by first | kernel_rfl | simp [Value.oneCell']) ?_) | fail)
      have hBK := Aside0.mk (setRow_block u16 b2 29 #[.int .i64 x0, .int .i64 x1, .int .i64 x2, .int .i64 x3, .int .i64 x4, .int .i64 x5, .int .i64 x6, .int .i64 x7, .int .i64 (1 + x8), .int .i64 x9, .int .i64 x10, .int .i64 x11, .int .i64 x12, .int .i64 x13, .int .i64 x14, .slice (some ⟨bl0, 0, none⟩) 1 1, .slice none 0 0] _ BK.out)
      have hGR := Aside0.mk (setRow_grown u16 b2 #[.int .i64 x0, .int .i64 x1, .int .i64 x2, .int .i64 x3, .int .i64 x4, .int .i64 x5, .int .i64 x6, .int .i64 x7, .int .i64 (1 + x8), .int .i64 x9, .int .i64 x10, .int .i64 x11, .int .i64 x12, .int .i64 x13, .int .i64 x14, .slice (some ⟨bl0, 0, none⟩) 1 1, .slice none 0 0])
      have hSO := Aside0.mk (setRow_other u16 b2 #[.int .i64 x0, .int .i64 x1, .int .i64 x2, .int .i64 x3, .int .i64 x4, .int .i64 x5, .int .i64 x6, .int .i64 x7, .int .i64 (1 + x8), .int .i64 x9, .int .i64 x10, .int .i64 x11, .int .i64 x12, .int .i64 x13, .int .i64 x14, .slice (some ⟨bl0, 0, none⟩) 1 1, .slice none 0 0])
      generalize World.setRow u16 b2 #[.int .i64 x0, .int .i64 x1, .int .i64 x2, .int .i64 x3, .int .i64 x4, .int .i64 x5, .int .i64 x6, .int .i64 x7, .int .i64 (1 + x8), .int .i64 x9, .int .i64 x10, .int .i64 x11, .int .i64 x12, .int .i64 x13, .int .i64 x14, .slice (some ⟨bl0, 0, none⟩) 1 1, .slice none 0 0] = W at hBK hGR hSO ⊢
      have hHI : Aside0 (IsS51 w0 W g L _) := ⟨HI.out.grown hGR.out (fun e => hne (Option.some.inj e.symm))⟩
      have hHB : Aside0 (Below w0.heap.size w0 W) := ⟨Below.grown HB.out hGR.out HB.out.size (fun k hk => by injection hk with hk; subst hk; exact HGE.out)⟩
      have hBL0 : Aside0 (W.heap[bl0]? = some (.cells #[.int .i64 a0, .int .i64 (a0 + b0)] 53 (0, 0))) := ⟨(hSO.out bl0 hnc0).trans BL0.out⟩
      refine bodyPost_ret (results_cell_row rfl _ _ b2 29 #[.int .i64 x0, .int .i64 x1, .int .i64 x2, .int .i64 x3, .int .i64 x4, .int .i64 x5, .int .i64 x6, .int .i64 x7, .int .i64 (1 + x8), .int .i64 x9, .int .i64 x10, .int .i64 x11, .int .i64 x12, .int .i64 x13, .int .i64 x14, .slice (some ⟨bl0, 0, none⟩) 1 1, .slice none 0 0] (0, 0) _ rfl hBK.out Try.underlying29 rfl (by kernel_rfl)) rfl ?_
      exact ⟨x0, x1, x2, x3, x4, x5, x6, x7, 1 + x8, x9, x10, x11, x12, x13, x14, some ⟨bl0, 0, none⟩, 1, [⟨a0, a0 + b0⟩], none, 0, [], _, rfl, HC2.out, Nat.le_refl _, C_block (cs := [_, _]) hBL0.out ((Reps.none _ 2).snoc (k53_mk _ ⟨a0, a0 + b0⟩) rfl) (by decide) (by simp), Nat.le_refl _, C_nil _ _, HD.out, hHI.out, hHB.out⟩
  · go_wp2_with fail
    refine (next_step 3 HI.out HB.out HD.out (by omega)).mono ?_
    rintro e u19 ⟨r1, q19, rfl, la19, lb19, HD19, HI19, HB19, HK19⟩
    replace BK := Aside0.mk (HK19.out.blk BK.out hne (by simp))
    replace BK3 := Aside0.mk (HK19.out.blk BK3.out hne3 (by simp))
    clear HI HB HD HK19
    have HI := HI19
    have HB := HB19
    have HD := HD19
    clear HI19 HB19 HD19
    by_cases hr1 : r1 = 2
    · subst hr1
      go_wp2_with fail
      refine (next_step 30 HI.out HB.out HD.out (by omega)).mono ?_
      rintro e u20 ⟨a1, q20, rfl, la20, lb20, HD20, HI20, HB20, HK20⟩
      replace BK := Aside0.mk (HK20.out.blk BK.out hne (by simp))
      replace BK3 := Aside0.mk (HK20.out.blk BK3.out hne3 (by simp))
      clear HI HB HD HK20
      have HI := HI20
      have HB := HB20
      have HD := HD20
      clear HI20 HB20 HD20
      go_wp2_with fail
      refine (next_step 20 HI.out HB.out HD.out (by omega)).mono ?_
      rintro e u21 ⟨b1, q21, rfl, la21, lb21, HD21, HI21, HB21, HK21⟩
      replace BK := Aside0.mk (HK21.out.blk BK.out hne (by simp))
      replace BK3 := Aside0.mk (HK21.out.blk BK3.out hne3 (by simp))
      clear HI HB HD HK21
      have HI := HI21
      have HB := HB21
      have HD := HD21
      clear HI21 HB21 HD21
      have hcl : u21.cell? ⟨b3, 16, none⟩ = some (.slice none 0 0) := (blk_cell BK3.out 16).trans rfl
      have hfr : u21.frozen? ⟨b3, 16, none⟩ = false := blk_frozen BK3.out 16
      have hcla : ∀ o : Obj, (u21.alloc o).cell? ⟨b3, 16, none⟩ = some (.slice none 0 0) := fun o => (blk_cell (blk_alloc BK3.out o) 16).trans rfl
      have hfra : ∀ o : Obj, (u21.alloc o).frozen? ⟨b3, 16, none⟩ = false := fun o => blk_frozen (blk_alloc BK3.out o) 16
      have hl3 : b3 < u21.heap.size := blk_lt BK3.out
      go_upto_region 8 with (fail)
      clear hcl hfr hcla hfra
      have BL1 : Aside0 (((u21.setCell ⟨b3, 16, none⟩ (.slice (some ⟨u21.heap.size, 0, none⟩) 1 1)).alloc (.cells #[.int .i64 a1, .int .i64 (a1 + b1)] 53)).heap[u21.heap.size]? = some (.cells #[.int .i64 a1, .int .i64 (a1 + b1)] 53 (0, 0))) := ⟨by have := heap_alloc_new (u21.setCell ⟨b3, 16, none⟩ (.slice (some ⟨u21.heap.size, 0, none⟩) 1 1)) (.cells #[.int .i64 a1, .int .i64 (a1 + b1)] 53); simpa using this⟩
      have hng1 : u21.heap.size ≠ g := by have := HI.out.lt; omega
      have hnb1 : u21.heap.size ≠ b3 := by omega
      have hnc1 : u21.heap.size ≠ b2 := by have := blk_lt BK.out; omega
      replace BK := Aside0.mk (blk_alloc (blk_far BK.out (p := ⟨b3, 16, none⟩) hn23 (.slice (some ⟨u21.heap.size, 0, none⟩) 1 1)) (.cells #[.int .i64 a1, .int .i64 (a1 + b1)] 53))
      have BK4 : Aside0 (((u21.setCell ⟨b3, 16, none⟩ (.slice (some ⟨u21.heap.size, 0, none⟩) 1 1)).alloc (.cells #[.int .i64 a1, .int .i64 (a1 + b1)] 53)).heap[b3]? = some (.cells #[.int .i64 x0, .int .i64 x1, .int .i64 x2, .int .i64 x3, .int .i64 x4, .int .i64 x5, .int .i64 x6, .int .i64 x7, .int .i64 (1 + x8), .int .i64 x9, .int .i64 x10, .int .i64 x11, .int .i64 x12, .int .i64 x13, .int .i64 x14, .slice none 0 0, .slice (some ⟨u21.heap.size, 0, none⟩) 1 1] 29 (0, 0))) := ⟨(blk_alloc (blk_set BK3.out 16 (.slice (some ⟨u21.heap.size, 0, none⟩) 1 1)) (.cells #[.int .i64 a1, .int .i64 (a1 + b1)] 53)).trans rfl⟩
      clear BK3
      have BK3 := BK4
      clear BK4
      replace HI := Aside0.mk ((HI.out.far (p := ⟨b3, 16, none⟩) (Ne.symm hne3) (.slice (some ⟨u21.heap.size, 0, none⟩) 1 1)).alloc (.cells #[.int .i64 a1, .int .i64 (a1 + b1)] 53))
      replace HB := Aside0.mk (below_alloc (below_set (j := 16) (v := .slice (some ⟨u21.heap.size, 0, none⟩) 1 1) HB.out HGE3.out) (.cells #[.int .i64 a1, .int .i64 (a1 + b1)] 53))
      generalize (u21.setCell ⟨b3, 16, none⟩ (.slice (some ⟨u21.heap.size, 0, none⟩) 1 1)).alloc (.cells #[.int .i64 a1, .int .i64 (a1 + b1)] 53) = v1 at BK BK3 HI HB BL1 ⊢
      generalize u21.heap.size = bl1 at BK3 BL1 hng1 hnb1 hnc1 ⊢
      clear hl3
      go_wp2_with (first | ((with_reducible refine gate_dst (N := 56) rfl ?_); refine wpList_load_row rfl 29 (.tmp 3) rfl b3 rfl 29 #[.int .i64 x0, .int .i64 x1, .int .i64 x2, .int .i64 x3, .int .i64 x4, .int .i64 x5, .int .i64 x6, .int .i64 x7, .int .i64 (1 + x8), .int .i64 x9, .int .i64 x10, .int .i64 x11, .int .i64 x12, .int .i64 x13, .int .i64 x14, .slice none 0 0, .slice (some ⟨bl1, 0, none⟩) 1 1] (0, 0) _ BK3.out Try.underlying29 rfl (by kernel_rfl) ?_) | ((with_reducible refine gate_store (t := 29) (p := 2) (v := .tmp 56) rfl ?_); refine wpList_store_row rfl 29 (.tmp 2) (.tmp 56) rfl b2 #[.int .i64 x0, .int .i64 x1, .int .i64 x2, .int .i64 x3, .int .i64 x4, .int .i64 x5, .int .i64 x6, .int .i64 x7, .int .i64 (1 + x8), .int .i64 x9, .int .i64 x10, .int .i64 x11, .int .i64 x12, .int .i64 x13, .int .i64 x14, .slice none 0 0, .slice (some ⟨bl1, 0, none⟩) 1 1] rfl rfl 29 #[.int .i64 0, .int .i64 0, .int .i64 0, .int .i64 0, .int .i64 0, .int .i64 0, .int .i64 0, .int .i64 0, .int .i64 0, .int .i64 0, .int .i64 0, .int .i64 0, .int .i64 0, .int .i64 0, .int .i64 0, .slice none 0 0, .slice none 0 0] BK.out (by kernel_rfl) rfl (by first | kernel_rfl | simp [Value.oneCell']) ?_) | fail)
      have hBK := Aside0.mk (setRow_block v1 b2 29 #[.int .i64 x0, .int .i64 x1, .int .i64 x2, .int .i64 x3, .int .i64 x4, .int .i64 x5, .int .i64 x6, .int .i64 x7, .int .i64 (1 + x8), .int .i64 x9, .int .i64 x10, .int .i64 x11, .int .i64 x12, .int .i64 x13, .int .i64 x14, .slice none 0 0, .slice (some ⟨bl1, 0, none⟩) 1 1] _ BK.out)
      have hGR := Aside0.mk (setRow_grown v1 b2 #[.int .i64 x0, .int .i64 x1, .int .i64 x2, .int .i64 x3, .int .i64 x4, .int .i64 x5, .int .i64 x6, .int .i64 x7, .int .i64 (1 + x8), .int .i64 x9, .int .i64 x10, .int .i64 x11, .int .i64 x12, .int .i64 x13, .int .i64 x14, .slice none 0 0, .slice (some ⟨bl1, 0, none⟩) 1 1])
      have hSO := Aside0.mk (setRow_other v1 b2 #[.int .i64 x0, .int .i64 x1, .int .i64 x2, .int .i64 x3, .int .i64 x4, .int .i64 x5, .int .i64 x6, .int .i64 x7, .int .i64 (1 + x8), .int .i64 x9, .int .i64 x10, .int .i64 x11, .int .i64 x12, .int .i64 x13, .int .i64 x14, .slice none 0 0, .slice (some ⟨bl1, 0, none⟩) 1 1])
      generalize World.setRow v1 b2 #[.int .i64 x0, .int .i64 x1, .int .i64 x2, .int .i64 x3, .int .i64 x4, .int .i64 x5, .int .i64 x6, .int .i64 x7, .int .i64 (1 + x8), .int .i64 x9, .int .i64 x10, .int .i64 x11, .int .i64 x12, .int .i64 x13, .int .i64 x14, .slice none 0 0, .slice (some ⟨bl1, 0, none⟩) 1 1] = W at hBK hGR hSO ⊢
      have hHI : Aside0 (IsS51 w0 W g L _) := ⟨HI.out.grown hGR.out (fun e => hne (Option.some.inj e.symm))⟩
      have hHB : Aside0 (Below w0.heap.size w0 W) := ⟨Below.grown HB.out hGR.out HB.out.size (fun k hk => by injection hk with hk; subst hk; exact HGE.out)⟩
      have hBL1 : Aside0 (W.heap[bl1]? = some (.cells #[.int .i64 a1, .int .i64 (a1 + b1)] 53 (0, 0))) := ⟨(hSO.out bl1 hnc1).trans BL1.out⟩
      refine bodyPost_ret (results_cell_row rfl _ _ b2 29 #[.int .i64 x0, .int .i64 x1, .int .i64 x2, .int .i64 x3, .int .i64 x4, .int .i64 x5, .int .i64 x6, .int .i64 x7, .int .i64 (1 + x8), .int .i64 x9, .int .i64 x10, .int .i64 x11, .int .i64 x12, .int .i64 x13, .int .i64 x14, .slice none 0 0, .slice (some ⟨bl1, 0, none⟩) 1 1] (0, 0) _ rfl hBK.out Try.underlying29 rfl (by kernel_rfl)) rfl ?_
      exact ⟨x0, x1, x2, x3, x4, x5, x6, x7, 1 + x8, x9, x10, x11, x12, x13, x14, none, 0, [], some ⟨bl1, 0, none⟩, 1, [⟨a1, a1 + b1⟩], _, rfl, HC2.out, Nat.le_refl _, C_nil _ _, Nat.le_refl _, C_block (cs := [_, _]) hBL1.out ((Reps.none _ 2).snoc (k53_mk _ ⟨a1, a1 + b1⟩) rfl) (by decide) (by simp), HD.out, hHI.out, hHB.out⟩
    · go_upto_region 8 with (fail)
      go_wp2_with (first | ((with_reducible refine gate_dst (N := 56) rfl ?_); refine wpList_load_row rfl 29 (.tmp 3) rfl b3 rfl 29 #[.int .i64 x0, .int .i64 x1, .int .i64 x2, .int .i64 x3, .int .i64 x4, .int .i64 x5, .int .i64 x6, .int .i64 x7, .int .i64 (1 + x8), .int .i64 x9, .int .i64 x10, .int .i64 x11, .int .i64 x12, .int .i64 x13, .int .i64 x14, .slice none 0 0, .slice none 0 0] (0, 0) _ BK3.out Try.underlying29 rfl (by kernel_rfl) ?_) | ((with_reducible refine gate_store (t := 29) (p := 2) (v := .tmp 56) rfl ?_); refine wpList_store_row rfl 29 (.tmp 2) (.tmp 56) rfl b2 #[.int .i64 x0, .int .i64 x1, .int .i64 x2, .int .i64 x3, .int .i64 x4, .int .i64 x5, .int .i64 x6, .int .i64 x7, .int .i64 (1 + x8), .int .i64 x9, .int .i64 x10, .int .i64 x11, .int .i64 x12, .int .i64 x13, .int .i64 x14, .slice none 0 0, .slice none 0 0] rfl rfl 29 #[.int .i64 0, .int .i64 0, .int .i64 0, .int .i64 0, .int .i64 0, .int .i64 0, .int .i64 0, .int .i64 0, .int .i64 0, .int .i64 0, .int .i64 0, .int .i64 0, .int .i64 0, .int .i64 0, .int .i64 0, .slice none 0 0, .slice none 0 0] BK.out (by kernel_rfl) rfl (by first | kernel_rfl | simp [Value.oneCell']) ?_) | fail)
      have hBK := Aside0.mk (setRow_block u19 b2 29 #[.int .i64 x0, .int .i64 x1, .int .i64 x2, .int .i64 x3, .int .i64 x4, .int .i64 x5, .int .i64 x6, .int .i64 x7, .int .i64 (1 + x8), .int .i64 x9, .int .i64 x10, .int .i64 x11, .int .i64 x12, .int .i64 x13, .int .i64 x14, .slice none 0 0, .slice none 0 0] _ BK.out)
      have hGR := Aside0.mk (setRow_grown u19 b2 #[.int .i64 x0, .int .i64 x1, .int .i64 x2, .int .i64 x3, .int .i64 x4, .int .i64 x5, .int .i64 x6, .int .i64 x7, .int .i64 (1 + x8), .int .i64 x9, .int .i64 x10, .int .i64 x11, .int .i64 x12, .int .i64 x13, .int .i64 x14, .slice none 0 0, .slice none 0 0])
      have hSO := Aside0.mk (setRow_other u19 b2 #[.int .i64 x0, .int .i64 x1, .int .i64 x2, .int .i64 x3, .int .i64 x4, .int .i64 x5, .int .i64 x6, .int .i64 x7, .int .i64 (1 + x8), .int .i64 x9, .int .i64 x10, .int .i64 x11, .int .i64 x12, .int .i64 x13, .int .i64 x14, .slice none 0 0, .slice none 0 0])
      generalize World.setRow u19 b2 #[.int .i64 x0, .int .i64 x1, .int .i64 x2, .int .i64 x3, .int .i64 x4, .int .i64 x5, .int .i64 x6, .int .i64 x7, .int .i64 (1 + x8), .int .i64 x9, .int .i64 x10, .int .i64 x11, .int .i64 x12, .int .i64 x13, .int .i64 x14, .slice none 0 0, .slice none 0 0] = W at hBK hGR hSO ⊢
      have hHI : Aside0 (IsS51 w0 W g L _) := ⟨HI.out.grown hGR.out (fun e => hne (Option.some.inj e.symm))⟩
      have hHB : Aside0 (Below w0.heap.size w0 W) := ⟨Below.grown HB.out hGR.out HB.out.size (fun k hk => by injection hk with hk; subst hk; exact HGE.out)⟩
      refine bodyPost_ret (results_cell_row rfl _ _ b2 29 #[.int .i64 x0, .int .i64 x1, .int .i64 x2, .int .i64 x3, .int .i64 x4, .int .i64 x5, .int .i64 x6, .int .i64 x7, .int .i64 (1 + x8), .int .i64 x9, .int .i64 x10, .int .i64 x11, .int .i64 x12, .int .i64 x13, .int .i64 x14, .slice none 0 0, .slice none 0 0] (0, 0) _ rfl hBK.out Try.underlying29 rfl (by kernel_rfl)) rfl ?_
      exact ⟨x0, x1, x2, x3, x4, x5, x6, x7, 1 + x8, x9, x10, x11, x12, x13, x14, none, 0, [], none, 0, [], _, rfl, HC2.out, Nat.le_refl _, C_nil _ _, Nat.le_refl _, C_nil _ _, HD.out, hHI.out, hHB.out⟩

end Go.Proofs.Ytcaanbicgpfonaa.PPl
