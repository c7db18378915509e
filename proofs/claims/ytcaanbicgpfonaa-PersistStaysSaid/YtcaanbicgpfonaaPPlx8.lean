-- printed by wip/tools/print2.sh (the kit's print, with given texts of this repo); not trusted: Lean checks it
import Derived.Test.YtcaanbicgpfonaaPPlx0
import Derived.Test.YtcaanbicgpfonaaPPlx6
import Derived.Test.YtcaanbicgpfonaaPPlx7
namespace Go.Proofs.Ytcaanbicgpfonaa.PPl
open Go.RowKit Go.Proofs.YtcaanbicgpfonaaW.PrintWords Go.Proofs.YtcaanbicgpfonaaW.PrintLast Go.Proofs.YtcaanbicgpfonaaW.PrintMore
attribute [local go_sem] max2_int min2_int max_two min_two max_three min_three max_four min_four   -- for this text's walks alone
set_option linter.unusedVariables false
set_option linter.unusedSimpArgs false

theorem heap_putRow_other (W : World) (g k : Nat) (d : Array Int) (hk : k ≠ g) : (Go.Sort.putRow (Value.int .i64) W g 0 d).heap[k]? = W.heap[k]? := by
  unfold Go.Sort.putRow Go.Sort.mapBlock
  simp only [Array.getElem?_modify]
  rw [if_neg (Ne.symm hk)]
theorem heap_putRow_same (W : World) (g : Nat) (d : Array Int) (cur : Array Value) (e : TypeId) (h : W.heap[g]? = some (.cells cur e (0, 0))) : (Go.Sort.putRow (Value.int .i64) W g 0 d).heap[g]? = some (.cells (Go.Sort.putCells (Value.int .i64) 0 d cur) e (0, 0)) := by
  unfold Go.Sort.putRow Go.Sort.mapBlock
  simp only [Array.getElem?_modify]
  rw [if_pos trivial, h]
  rfl
theorem below_putRow {B : Nat} {w W : World} (h : Below B w W) (g n : Nat) (d : Array Int) (os : Array Obj) (hB : B ≤ g) (hg : g < W.heap.size) : Below B w (Go.Sort.grow (Go.Sort.putRow (Value.int .i64) (Go.Sort.ahead W n) g 0 d) os) := by
  refine ⟨h.os, h.tape, h.output, ?_, fun k hk => ?_⟩
  · have := h.size
    simp
    omega
  · rw [Go.Sort.heap_grow_old _ _ (by simp; omega), heap_putRow_other _ _ _ _ (by omega)]
    exact h.block k hk
theorem own_putRow {W : World} {base g n cap : Nat} {xs : List Value} (h : W.ownsRow base 3 1 (.slice (some ⟨g, 0, none⟩) n cap) n xs) (d : List Int) (hd : d.length = n) (q : Nat) (os : Array Obj) (m : Nat) (hm : m ≤ n) :
    (Go.Sort.grow (Go.Sort.putRow (Value.int .i64) (Go.Sort.ahead W q) g 0 d.toArray) os).ownsRow base 3 1 (.slice (some ⟨g, 0, none⟩) m cap) m (encs (Value.int .i64) (d.take m)) := by
  rcases h.2 with ⟨hv, _⟩ | ⟨g', cap', cur, hv, hb, hh, hn, hc, hs, ht⟩
  · cases hv
  · injection hv with h1 h2 h3
    injection h1 with h1
    injection h1 with h1
    subst h1 h3
    have hlt : g < W.heap.size := blk_lt hh
    refine ⟨by simp [encs]; omega, .inr ⟨g, cap, Go.Sort.putCells (Value.int .i64) 0 d.toArray cur, rfl, hb, ?_, by omega, hc, by simp [Go.Sort.putCells, hs], ?_⟩⟩
    · rw [Go.Sort.heap_grow_old _ _ (by simp; exact hlt)]
      exact heap_putRow_same _ _ _ _ _ (by simpa using hh)
    · apply List.ext_getElem?
      intro i
      simp only [encs, Nat.mul_one, List.getElem?_take, List.getElem?_map, Go.Sort.putCells]
      by_cases hi : i < m
      · rw [if_pos hi, if_pos hi]
        have hi2 : i < cur.size := by omega
        have hi3 : i < d.length := by omega
        simp [hi2, hi3]
      · rw [if_neg hi, if_neg hi]; rfl
theorem holds_of_own {W : World} {base g n cap : Nat} {xs : List Int} (h : W.ownsRow base 3 1 (.slice (some ⟨g, 0, none⟩) n cap) n (encs (Value.int .i64) xs)) : Go.Sort.Holds (Value.int .i64) W g 0 xs.toArray := by
  intro j hj
  have hj' : j < xs.length := by simpa using hj
  refine ⟨?_, ?_⟩
  · have h7 := h.cells (g := g) rfl j (Value.int .i64 xs[j]) (by simp [encs, hj'])
    rw [add_plain] at h7
    rw [Nat.zero_add, h7]
    simp [hj']
  · obtain ⟨cb, hcb⟩ := own_typed h g rfl
    exact blk_frozen hcb _

theorem SortInts.calls {w W : World} {v : Value} {xs : List Int} (hR : Kd.R (Kd.int .i64) 3 W w.heap.size (fun _ => True) v xs) (hB : Below w.heap.size w W) (hm : xs.length < 4611686018427387904) :
    Calls Try.prog 23 #[v] W fun e w' => e = .returned (.tuple #[]) ∧ Kd.R (Kd.int .i64) 3 w' w.heap.size (fun _ => True) v (xs.mergeSort fun x y => decide (x ≤ y)) ∧ Below w.heap.size w w' := by
  by_cases h0 : xs.length = 0
  · obtain ⟨A5, c5, rfl⟩ := Kd.R_slice hR
    obtain rfl : xs = [] := List.length_eq_zero_iff.1 h0
    refine (Try.slices_Sort_int_none A5 c5 W).mono ?_
    rintro e wa ⟨rfl, rfl⟩
    exact ⟨rfl, by simpa using hR, hB⟩
  · obtain ⟨g, cap, rfl, hg1, hg2, cur, hcur⟩ := Kd.R_form hR (by omega)
    have OW := Kd.own_of_R hR
    refine (Try.slices_Sort_int g 0 cap xs W (holds_of_own OW) hg2 hm).mono ?_
    rintro e wa ⟨rfl, q, os, rfl⟩
    have hsl : (xs.mergeSort fun x y => decide (x ≤ y)).length = xs.length := List.length_mergeSort _
    generalize (xs.mergeSort fun x y => decide (x ≤ y)) = so at hsl ⊢
    have OW2 := own_putRow OW so hsl q os xs.length (Nat.le_refl _)
    have HB2 := below_putRow hB g q so.toArray os hg1 hg2
    refine ⟨rfl, Kd.R_of_own ?_ (fun _ _ => trivial), HB2⟩
    rw [← hsl, List.take_length] at OW2
    rw [← hsl]
    exact OW2
theorem CompactInts.calls {w W : World} {v : Value} {xs : List Int} (hR : Kd.R (Kd.int .i64) 3 W w.heap.size (fun _ => True) v xs) (hB : Below w.heap.size w W) (hm : xs.length < 4611686018427387904) :
    Calls Try.prog 24 #[v] W fun e w' => ∃ v' : Value, e = .returned v' ∧ Kd.R (Kd.int .i64) 3 w' w.heap.size (fun _ => True) v' (Go.Lib.compact xs) ∧ Below w.heap.size w w' := by
  by_cases h0 : xs.length = 0
  · obtain ⟨A5, c5, rfl⟩ := Kd.R_slice hR
    obtain rfl : xs = [] := List.length_eq_zero_iff.1 h0
    refine (Try.slices_Compact_int_empty A5 c5 W).mono ?_
    rintro e wa ⟨rfl, rfl⟩
    exact ⟨_, rfl, hR, hB⟩
  · obtain ⟨g, cap, rfl, hg1, hg2, cur, hcur⟩ := Kd.R_form hR (by omega)
    have OW := Kd.own_of_R hR
    have hcap : xs.length ≤ cap := by
      rcases OW.2 with ⟨hv, _⟩ | ⟨g', cap', cur, hv, _, _, hnc, _⟩
      · cases hv
      · injection hv with _ _ h3
        omega
    refine (Try.slices_Compact_int g 0 cap xs W (holds_of_own OW) (by omega) hcap).mono ?_
    rintro e wa ⟨rfl, q, rfl⟩
    have hcl := Go.Lib.compact_length_le xs
    generalize Go.Lib.compact xs = co at hcl ⊢
    have OW2 := own_putRow OW (co ++ List.replicate (xs.length - co.length) 0) (by simp; omega) q #[] co.length hcl
    have HB2 := below_putRow hB g q (co ++ List.replicate (xs.length - co.length) 0).toArray #[] hg1 hg2
    rw [Go.Sort.grow_empty] at OW2 HB2
    rw [List.take_left] at OW2
    exact ⟨_, rfl, Kd.R_of_own OW2 (fun _ _ => trivial), HB2⟩

/-! ### the lines of an access -/
def cacheOk (s y n : Int) : Bool := withinC s 0 8 && withinC y 1 4 && withinC n 1 8
where withinC (a b c : Int) : Bool := decide (b ≤ a) && decide (a ≤ c)
def lineP (s y n at_ : Int) : Int := if cacheOk s y n = true then (if at_ < 0 then -1 else wrap64 (Int.tdiv at_ n)) else -1
theorem between_is (a b c : Int) : cache_between.f a b c = some (cacheOk.withinC a b c) := by
  unfold cache_between.f cacheOk.withinC
  by_cases h : a ≥ b
  · rw [if_pos h, decide_eq_true (show b ≤ a from h), Bool.true_and]
  · rw [if_neg h, decide_eq_false (show ¬ b ≤ a from h), Bool.false_and]
theorem line_is (s y n at_ : Int) : cache_Line.f s y n at_ = some (lineP s y n at_) := by
  have hck : ∃ e, cache_Check.f s y n = some e ∧ (e = 0 ↔ cacheOk s y n = true) := by
    unfold cache_Check.f cacheOk
    simp only [between_is, Option.bind_some]
    cases cacheOk.withinC s 0 8 <;> cases cacheOk.withinC y 1 4 <;> cases cacheOk.withinC n 1 8 <;> exact ⟨_, rfl, by decide⟩
  obtain ⟨e, he, hk⟩ := hck
  unfold cache_Line.f lineP
  rw [he]
  simp only [Option.bind_some]
  by_cases h : e = 0
  · rw [if_pos h, if_pos (hk.1 h)]
    have hn : n ≠ 0 := by
      have h2 := hk.1 h
      unfold cacheOk cacheOk.withinC at h2
      simp only [Bool.and_eq_true, decide_eq_true_eq] at h2
      omega
    by_cases h3 : at_ < 0
    · rw [if_pos h3, if_pos h3]
    · rw [if_neg h3, if_neg h3, if_neg hn]
  · rw [if_neg h, if_neg (fun h2 => h (hk.2 h2))]
/-- The lines of the addresses from at on, in their order. -/
def collP (s y n : Int) (free : List S53) : Nat → Int → List Int
  | 0, _ => []
  | k + 1, at_ => (if (decide (0 ≤ lineP s y n at_) && !free.any (inSpan at_)) = true then [lineP s y n at_] else []) ++ collP s y n free k (at_ + 1)
def spanOf (lo hi : Int) : Nat := (mn hi 1023 + 1 - mx 0 lo).toNat
def linesP (s y n : Int) (free : List S53) (lo hi : Int) : List Int := collP s y n free (spanOf lo hi) (mx 0 lo)
def persist_Lines.f (a0_0 : Int) (a0_1 : Int) (a0_2 : Int) (a0_3 : Int) (a0_4 : Int) (a0_5 : Int) (a0_6 : Int) (a0_7 : Int) (a0_8 : Int) (a0_9 : Int) (a0_10 : Int) (a0_11 : Int) (a0_12 : Int) (a0_13 : Int) (a0_14 : Int) (l0_15 l0_16 : List S53) (a1_0 a1_1 a1_2 : Int) : Option (List Int) := some (Go.Lib.compact ((linesP a0_3 a0_4 a0_5 l0_16 a1_1 a1_2).mergeSort fun x y => decide (x ≤ y)))

set_option maxHeartbeats 8000000 in
set_option maxRecDepth 100000 in
theorem persist_Lines.calls (a0_0 : Int) (a0_1 : Int) (a0_2 : Int) (a0_3 : Int) (a0_4 : Int) (a0_5 : Int) (a0_6 : Int) (a0_7 : Int) (a0_8 : Int) (a0_9 : Int) (a0_10 : Int) (a0_11 : Int) (a0_12 : Int) (a0_13 : Int) (a0_14 : Int) (A0_15 : Option Addr) (c0_15 : Nat) (l0_15 : List (S53)) (A0_16 : Option Addr) (c0_16 : Nat) (l0_16 : List (S53)) (a1_0 : Int) (a1_1 : Int) (a1_2 : Int) (r : List Int) (w : World) (hr0_15 : Kd.C k53 w A0_15 l0_15.length l0_15) (hc0_15 : l0_15.length ≤ c0_15) (hr0_16 : Kd.C k53 w A0_16 l0_16.length l0_16) (hc0_16 : l0_16.length ≤ c0_16) (h : persist_Lines.f a0_0 a0_1 a0_2 a0_3 a0_4 a0_5 a0_6 a0_7 a0_8 a0_9 a0_10 a0_11 a0_12 a0_13 a0_14 l0_15 l0_16 a1_0 a1_1 a1_2 = some r) :
    Calls Try.prog 9 #[.agg #[.int .i64 a0_0, .int .i64 a0_1, .int .i64 a0_2, .int .i64 a0_3, .int .i64 a0_4, .int .i64 a0_5, .int .i64 a0_6, .int .i64 a0_7, .int .i64 a0_8, .int .i64 a0_9, .int .i64 a0_10, .int .i64 a0_11, .int .i64 a0_12, .int .i64 a0_13, .int .i64 a0_14, .slice A0_15 l0_15.length c0_15, .slice A0_16 l0_16.length c0_16], .agg #[.int .i64 a1_0, .int .i64 a1_1, .int .i64 a1_2]] w fun e w' => ∃ v0_ : Value, e = .returned (v0_) ∧ Kd.R (Kd.int .i64) 3 w' w.heap.size (fun _ => True) v0_ r ∧ Below w.heap.size w w' := by
  have hu29 := Try.underlying29
  have hu33 := Try.underlying33
  have hu26 := Try.underlying26
  obtain rfl := Option.some.inj h
  have HR15 := Aside0.mk hr0_15
  have HC15 := Aside0.mk hc0_15
  have HR16 := Aside0.mk hr0_16
  have HC16 := Aside0.mk hc0_16
  have HB := Aside0.mk (Below.refl w.heap.size w)
  clear hr0_15 hc0_15 hr0_16 hc0_16 h
  obtain ⟨lo, hlo⟩ : ∃ lo, lo = mx 0 a1_1 := ⟨_, rfl⟩
  obtain ⟨hi, hhi⟩ : ∃ hi, hi = mn a1_2 1023 := ⟨_, rfl⟩
  have HAD : Aside0 (persist_addresses.f a1_0 a1_1 a1_2 = some (lo, hi)) := ⟨by rw [hlo, hhi]; rfl⟩
  obtain ⟨N, hN⟩ : ∃ N, N = (hi + 1 - lo).toNat := ⟨_, rfl⟩
  have HCL : Aside0 (linesP a0_3 a0_4 a0_5 l0_16 a1_1 a1_2 = collP a0_3 a0_4 a0_5 l0_16 N lo) := ⟨by unfold linesP spanOf; rw [hN, hhi, hlo]⟩
  have hlo0 : 0 ≤ lo := by rw [hlo]; unfold mx; split <;> omega
  have hhi0 : hi ≤ 1023 := by rw [hhi]; unfold mn; split <;> omega
  have hNN : N ≤ 1024 := by omega
  clear hlo hhi
  go_enter Try.func9, Try.ntmps9
  go_wp2_with (first | ((with_reducible refine gate_dst (N := 2) rfl ?_); refine box_event ?hg (N := 2) ?hd (cs := #[.int .i64 a0_0, .int .i64 a0_1, .int .i64 a0_2, .int .i64 a0_3, .int .i64 a0_4, .int .i64 a0_5, .int .i64 a0_6, .int .i64 a0_7, .int .i64 a0_8, .int .i64 a0_9, .int .i64 a0_10, .int .i64 a0_11, .int .i64 a0_12, .int .i64 a0_13, .int .i64 a0_14, .slice A0_15 l0_15.length c0_15, .slice A0_16 l0_16.length c0_16]) (t := 29) ?hr ?_; (case hd => rfl); (case hg => rfl); (case hr => first | (go_simp; done) | (go_simp; rfl)); intro gb hg w2 hbox hb; have n0_ := Aside0.mk (below_step HB.out hb); have BK := Aside0.mk hbox; clear HB; have HB := n0_; clear n0_ hb hbox hg) | ((with_reducible refine gate_dst (N := 3) rfl ?_); refine box_event ?hg (N := 3) ?hd (cs := #[.int .i64 a1_0, .int .i64 a1_1, .int .i64 a1_2]) (t := 33) ?hr ?_; (case hd => rfl); (case hg => rfl); (case hr => first | (go_simp; done) | (go_simp; rfl)); intro gb3 hg w3 hbox hb; have n0_ := Aside0.mk (below_step HB.out hb); have n1_ := Aside0.mk (blk_below BK.out hb); have h30 : w3.cell? ⟨gb3, 0, none⟩ = some (.int .i64 a1_0) := (blk_cell hbox 0).trans rfl; have h31 : w3.cell? ⟨gb3, 1, none⟩ = some (.int .i64 a1_1) := (blk_cell hbox 1).trans rfl; have h32 : w3.cell? ⟨gb3, 2, none⟩ = some (.int .i64 a1_2) := (blk_cell hbox 2).trans rfl; clear HB BK; have HB := n0_; have BK := n1_; clear n0_ n1_ hb hbox hg) | fail)
  refine (persist_addresses.calls a1_0 a1_1 a1_2 lo hi w3 HAD.out).mono ?_
  rintro e w4 ⟨rfl, hb⟩
  replace HB := Aside0.mk (below_step HB.out hb)
  replace BK := Aside0.mk (blk_below BK.out hb)
  clear hb h30 h31 h32 HAD
  go_wp2_with fail
  go_loopg [5, 8] N (fun gg s5 s8 wr => ∃ (out : List Int) (t : Nat), t ≤ N ∧ N - t ≤ gg ∧ s8 = .int .i64 (lo + t) ∧ out.length ≤ t ∧ Aside0 (Kd.R (Kd.int .i64) 3 wr w.heap.size (fun _ => True) s5 out) ∧ Aside0 (out ++ collP a0_3 a0_4 a0_5 l0_16 (N - t) (lo + t) = collP a0_3 a0_4 a0_5 l0_16 N lo) ∧ Aside0 (wr.heap[gb]? = some (.cells #[.int .i64 a0_0, .int .i64 a0_1, .int .i64 a0_2, .int .i64 a0_3, .int .i64 a0_4, .int .i64 a0_5, .int .i64 a0_6, .int .i64 a0_7, .int .i64 a0_8, .int .i64 a0_9, .int .i64 a0_10, .int .i64 a0_11, .int .i64 a0_12, .int .i64 a0_13, .int .i64 a0_14, .slice A0_15 l0_15.length c0_15, .slice A0_16 l0_16.length c0_16] 29 (0, 0))) ∧ Aside0 (Below w.heap.size w wr))
  case atStart => exact ⟨[], 0, Nat.zero_le _, by omega, by simp, by simp, ⟨Kd.R_nil _ _ _ _ _⟩, ⟨by simp⟩, BK, HB⟩
  case round =>
    clear BK HB
    obtain ⟨out, t, ht, hgg, rfl, hol, HO, HE, BK, HB⟩ := hrel
    by_cases hlt : t < N
    · have hle : lo + (t : Int) ≤ hi := by omega
      obtain ⟨at_, hat⟩ : ∃ at_, at_ = lo + (t : Int) := ⟨_, rfl⟩
      have hatn : at_ + 1 = lo + ((t + 1 : Nat) : Int) := by omega
      have hat0 : 0 ≤ at_ := by omega
      have hat1 : at_ ≤ 1023 := by omega
      have HST : Aside0 (collP a0_3 a0_4 a0_5 l0_16 (N - t) (lo + t) = (if (decide (0 ≤ lineP a0_3 a0_4 a0_5 at_) && !l0_16.any (inSpan at_)) = true then [lineP a0_3 a0_4 a0_5 at_] else []) ++ collP a0_3 a0_4 a0_5 l0_16 (N - (t + 1)) (lo + ((t + 1 : Nat) : Int))) := ⟨by
        rw [← hat, show N - t = (N - (t + 1)) + 1 by omega, ← hatn]; rfl⟩
      have HLI := Aside0.mk (line_is a0_3 a0_4 a0_5 at_)
      have HFR : Aside0 (persist_Free.f a0_0 a0_1 a0_2 a0_3 a0_4 a0_5 a0_6 a0_7 a0_8 a0_9 a0_10 a0_11 a0_12 a0_13 a0_14 l0_15 l0_16 at_ true = some (l0_16.any (inSpan at_))) := ⟨rfl⟩
      rw [← hat] at hle ⊢
      have HAT := Aside0.mk hat
      have HAN := Aside0.mk hatn
      generalize lineP a0_3 a0_4 a0_5 at_ = n at HST HLI
      generalize l0_16.any (inSpan at_) = fr at HST HFR
      clear hat hatn
      have hz0 : wr.cell? ⟨gb, 0, none⟩ = some (.int .i64 a0_0) := (blk_cell BK.out 0).trans rfl
      have hz1 : wr.cell? ⟨gb, 1, none⟩ = some (.int .i64 a0_1) := (blk_cell BK.out 1).trans rfl
      have hz2 : wr.cell? ⟨gb, 2, none⟩ = some (.int .i64 a0_2) := (blk_cell BK.out 2).trans rfl
      have hz3 : wr.cell? ⟨gb, 3, none⟩ = some (.int .i64 a0_3) := (blk_cell BK.out 3).trans rfl
      have hz4 : wr.cell? ⟨gb, 4, none⟩ = some (.int .i64 a0_4) := (blk_cell BK.out 4).trans rfl
      have hz5 : wr.cell? ⟨gb, 5, none⟩ = some (.int .i64 a0_5) := (blk_cell BK.out 5).trans rfl
      have hz6 : wr.cell? ⟨gb, 6, none⟩ = some (.int .i64 a0_6) := (blk_cell BK.out 6).trans rfl
      have hz7 : wr.cell? ⟨gb, 7, none⟩ = some (.int .i64 a0_7) := (blk_cell BK.out 7).trans rfl
      have hz8 : wr.cell? ⟨gb, 8, none⟩ = some (.int .i64 a0_8) := (blk_cell BK.out 8).trans rfl
      have hz9 : wr.cell? ⟨gb, 9, none⟩ = some (.int .i64 a0_9) := (blk_cell BK.out 9).trans rfl
      have hz10 : wr.cell? ⟨gb, 10, none⟩ = some (.int .i64 a0_10) := (blk_cell BK.out 10).trans rfl
      have hz11 : wr.cell? ⟨gb, 11, none⟩ = some (.int .i64 a0_11) := (blk_cell BK.out 11).trans rfl
      have hz12 : wr.cell? ⟨gb, 12, none⟩ = some (.int .i64 a0_12) := (blk_cell BK.out 12).trans rfl
      have hz13 : wr.cell? ⟨gb, 13, none⟩ = some (.int .i64 a0_13) := (blk_cell BK.out 13).trans rfl
      have hz14 : wr.cell? ⟨gb, 14, none⟩ = some (.int .i64 a0_14) := (blk_cell BK.out 14).trans rfl
      have hz15 : wr.cell? ⟨gb, 15, none⟩ = some (.slice A0_15 l0_15.length c0_15) := (blk_cell BK.out 15).trans rfl
      have hz16 : wr.cell? ⟨gb, 16, none⟩ = some (.slice A0_16 l0_16.length c0_16) := (blk_cell BK.out 16).trans rfl
      obtain ⟨A5, c5, hv5⟩ := Kd.R_slice HO.out
      subst hv5
      go_wp2_with fail
      refine (cache_Line.calls a0_3 a0_4 a0_5 at_ n wr HLI.out).mono ?_
      rintro e wa ⟨rfl, hb⟩
      have HBA := Aside0.mk (below_step HB.out hb)
      have BKA := Aside0.mk (blk_below BK.out hb)
      have HOA := Aside0.mk (Kd.R_below HO.out hb)
      clear hb hz0 hz1 hz2 hz3 hz4 hz5 hz6 hz7 hz8 hz9 hz10 hz11 hz12 hz13 hz14 hz15 hz16 HB BK HO HLI
      have hz0 : wa.cell? ⟨gb, 0, none⟩ = some (.int .i64 a0_0) := (blk_cell BKA.out 0).trans rfl
      have hz1 : wa.cell? ⟨gb, 1, none⟩ = some (.int .i64 a0_1) := (blk_cell BKA.out 1).trans rfl
      have hz2 : wa.cell? ⟨gb, 2, none⟩ = some (.int .i64 a0_2) := (blk_cell BKA.out 2).trans rfl
      have hz3 : wa.cell? ⟨gb, 3, none⟩ = some (.int .i64 a0_3) := (blk_cell BKA.out 3).trans rfl
      have hz4 : wa.cell? ⟨gb, 4, none⟩ = some (.int .i64 a0_4) := (blk_cell BKA.out 4).trans rfl
      have hz5 : wa.cell? ⟨gb, 5, none⟩ = some (.int .i64 a0_5) := (blk_cell BKA.out 5).trans rfl
      have hz6 : wa.cell? ⟨gb, 6, none⟩ = some (.int .i64 a0_6) := (blk_cell BKA.out 6).trans rfl
      have hz7 : wa.cell? ⟨gb, 7, none⟩ = some (.int .i64 a0_7) := (blk_cell BKA.out 7).trans rfl
      have hz8 : wa.cell? ⟨gb, 8, none⟩ = some (.int .i64 a0_8) := (blk_cell BKA.out 8).trans rfl
      have hz9 : wa.cell? ⟨gb, 9, none⟩ = some (.int .i64 a0_9) := (blk_cell BKA.out 9).trans rfl
      have hz10 : wa.cell? ⟨gb, 10, none⟩ = some (.int .i64 a0_10) := (blk_cell BKA.out 10).trans rfl
      have hz11 : wa.cell? ⟨gb, 11, none⟩ = some (.int .i64 a0_11) := (blk_cell BKA.out 11).trans rfl
      have hz12 : wa.cell? ⟨gb, 12, none⟩ = some (.int .i64 a0_12) := (blk_cell BKA.out 12).trans rfl
      have hz13 : wa.cell? ⟨gb, 13, none⟩ = some (.int .i64 a0_13) := (blk_cell BKA.out 13).trans rfl
      have hz14 : wa.cell? ⟨gb, 14, none⟩ = some (.int .i64 a0_14) := (blk_cell BKA.out 14).trans rfl
      have hz15 : wa.cell? ⟨gb, 15, none⟩ = some (.slice A0_15 l0_15.length c0_15) := (blk_cell BKA.out 15).trans rfl
      have hz16 : wa.cell? ⟨gb, 16, none⟩ = some (.slice A0_16 l0_16.length c0_16) := (blk_cell BKA.out 16).trans rfl
      by_cases hn : 0 ≤ n
      · have HDN : Aside0 (decide (0 ≤ n) = true) := ⟨decide_eq_true hn⟩
        go_wp2_with fail
        refine (persist_Free.calls a0_0 a0_1 a0_2 a0_3 a0_4 a0_5 a0_6 a0_7 a0_8 a0_9 a0_10 a0_11 a0_12 a0_13 a0_14 A0_15 c0_15 l0_15 A0_16 c0_16 l0_16 at_ true fr wa (Kd.C_below HR15.out HBA.out) HC15.out (Kd.C_below HR16.out HBA.out) HC16.out HFR.out).mono ?_
        rintro e wb ⟨rfl, hb⟩
        have HBB := Aside0.mk (below_step HBA.out hb)
        have BKB := Aside0.mk (blk_below BKA.out hb)
        have HOB := Aside0.mk (Kd.R_below HOA.out hb)
        clear hb hz0 hz1 hz2 hz3 hz4 hz5 hz6 hz7 hz8 hz9 hz10 hz11 hz12 hz13 hz14 hz15 hz16 HBA BKA HOA HFR
        cases fr with
        | true =>
          go_wp2_with fail
          go_roundg (N - (t + 1))
          case measure => omega
          case rel =>
            exact ⟨out, t + 1, by omega, by omega, by rw [← HAN.out], by omega, HOB, ⟨by rw [← HE.out, HST.out, HDN.out]; rfl⟩, BKB, HBB⟩
        | false =>
          have hsl : out.length + 1 < 17592186044416 := by omega
          have HWB : w.heap.size ≤ wb.heap.size := HBB.out.size
          go_wp2_with (first | (at_builtin; refine Kd.R_append (Kd.int .i64) (w0 := w) w.heap.size rfl (.tmp 33) (.tmp 35) 22 3 (.int .i64 0) 8 rfl Try.underlying22 info3 rfl (by decide) (by omega) (.slice A5 out.length c5) out n [.int .i64 n] (fun _ => True) (fun _ => False) rfl rfl ?aP (fun _ hk => hk.elim) ?aF ?aO ?aB ?aS ?aL ?_; (case aP => exact rfl); (case aB => exact HBB.out); (case aF => exact (fun _ _ => trivial)); (case aO => exact HOB.out); (case aS => exact below_size HBB.out); (case aL => omega); intro v6 wc ho hb hg hat; have HOC := Aside0.mk ho; have HBC := Aside0.mk hb; have BKC := Aside0.mk (blk_grown BKB.out hg (Kd.R_ne HOB.out BKB.out (by decide))); clear ho hb hg hat) | fail)
          go_roundg (N - (t + 1))
          case measure => omega
          case rel =>
            exact ⟨out ++ [n], t + 1, by omega, by omega, by rw [← HAN.out], by simp; omega, HOC, ⟨by rw [← HE.out, HST.out, HDN.out, List.append_assoc]; rfl⟩, BKC, HBC⟩
      · have HDN : Aside0 (decide (0 ≤ n) = false) := ⟨decide_eq_false hn⟩
        have hn2 : ¬ n ≥ 0 := hn
        go_wp2_with fail
        go_roundg (N - (t + 1))
        case measure => omega
        case rel =>
          exact ⟨out, t + 1, by omega, by omega, by rw [← HAN.out], by omega, HOA, ⟨by rw [← HE.out, HST.out, HDN.out]; rfl⟩, BKA, HBA⟩
    · have : t = N := by omega
      subst this
      have hle : ¬ lo + (t : Int) ≤ hi := by omega
      have HEE : Aside0 (linesP a0_3 a0_4 a0_5 l0_16 a1_1 a1_2 = out) := ⟨by rw [HCL.out, ← HE.out, Nat.sub_self]; exact List.append_nil out⟩
      clear HE BK
      have hol2 : out.length < 4611686018427387904 := by omega
      go_wp2_with fail
      refine (SortInts.calls HO.out HB.out hol2).mono ?_
      rintro e wa ⟨rfl, hr, hb⟩
      have HO2 := Aside0.mk hr
      have HB2 := Aside0.mk hb
      have hsl : (out.mergeSort fun x y => decide (x ≤ y)).length < 4611686018427387904 := by rw [List.length_mergeSort]; exact hol2
      have HSO : Aside0 (∃ so, so = out.mergeSort fun x y => decide (x ≤ y)) := ⟨⟨_, rfl⟩⟩
      obtain ⟨so, hso⟩ := HSO.out
      rw [← hso] at HO2 hsl
      have HSQ := Aside0.mk hso
      clear hr hb hso HSO HO HB
      go_wp2_with fail
      refine (CompactInts.calls HO2.out HB2.out hsl).mono ?_
      rintro e wb ⟨v7, rfl, hr, hb⟩
      have HO3 := Aside0.mk hr
      have HB3 := Aside0.mk hb
      clear hr hb HO2 HB2
      go_wp2_with fail
      go_ret
      refine ⟨_, rfl, ?_, HB3.out⟩
      rw [HEE.out, ← HSQ.out]
      exact HO3.out


end Go.Proofs.Ytcaanbicgpfonaa.PPl
