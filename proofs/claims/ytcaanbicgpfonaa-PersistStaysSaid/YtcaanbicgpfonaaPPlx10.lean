-- printed by wip/tools/print2.sh (the kit's print, with given texts of this repo); not trusted: Lean checks it
import Derived.Test.YtcaanbicgpfonaaPPlx0
import Derived.Test.YtcaanbicgpfonaaPPlx6
import Derived.Test.YtcaanbicgpfonaaPPlx9
namespace Go.Proofs.Ytcaanbicgpfonaa.PPl
open Go.RowKit Go.Proofs.YtcaanbicgpfonaaW.PrintWords Go.Proofs.YtcaanbicgpfonaaW.PrintLast Go.Proofs.YtcaanbicgpfonaaW.PrintMore
attribute [local go_sem] max2_int min2_int max_two min_two max_three min_three max_four min_four   -- for this text's walks alone
set_option linter.unusedVariables false
set_option linter.unusedSimpArgs false

def addL (out : List Int) (n : Int) : List Int := if out.getLast? = some n then out else out ++ [n]
theorem addL_same {out : List Int} {n : Int} (h : out.getLast? = some n) : addL out n = out := if_pos h
theorem addL_new {out : List Int} {n : Int} (h : ¬ out.getLast? = some n) : addL out n = out ++ [n] := if_neg h
theorem refScratch_l0 (l : List S53) (a : Int) (hl : l.length ≤ 9223372036854775807) : ∀ (d t : Nat), t + d = l.length → ∃ k, timeboundref23_Scratch.l0 k l a t = some ((l.drop t).any (inSpan a))
  | 0, t, ht => by
    refine ⟨1, ?_⟩
    simp only [timeboundref23_Scratch.l0]; rw [if_neg (by omega), List.drop_eq_nil_of_le (by omega)]; rfl
  | d + 1, t, ht => by
    have hlt : t < l.length := by omega
    obtain ⟨k, hk⟩ := refScratch_l0 l a hl d (t + 1) (by omega)
    refine ⟨k + 1, ?_⟩
    have er : l.drop t = rd_T53 l t :: l.drop (t + 1) := by
      rw [List.drop_eq_getElem_cons hlt]
      unfold rd_T53
      rw [Int.toNat_natCast, List.getD_eq_getElem?_getD, List.getElem?_eq_getElem hlt]
      rfl
    rw [er, List.any_cons]
    simp only [timeboundref23_Scratch.l0]; rw [if_pos (by omega), if_pos (by omega), show wrap64 ((t : Int) + 1) = ((t + 1 : Nat) : Int) by unfold wrap64; omega, hk]
    generalize rd_T53 l t = x
    unfold inSpan
    by_cases h1 : a ≥ x.f0
    · rw [if_pos h1, decide_eq_true (show x.f0 ≤ a from h1), Bool.true_and]
      by_cases h2 : a < x.f1
      · rw [if_pos h2, decide_eq_true h2]; rfl
      · rw [if_neg h2, decide_eq_false h2]; rfl
    · rw [if_neg h1, decide_eq_false (show ¬ x.f0 ≤ a from h1)]; rfl
theorem refScratch_is (l : List S53) (a : Int) (hl : l.length ≤ 9223372036854775807) : ∃ k, timeboundref23_Scratch.f k l a = some (l.any (inSpan a)) :=
  refScratch_l0 l a hl l.length 0 (by omega)
theorem refFree_is (a0_0 : Int) (a0_1 : Int) (a0_2 : Int) (a0_3 : Int) (a0_4 : Int) (a0_5 : Int) (a0_6 : Int) (a0_7 : Int) (a0_8 : Int) (a0_9 : Int) (a0_10 : Int) (a0_11 : Int) (a0_12 : Int) (a0_13 : Int) (a0_14 : Int) (l0_15 l0_16 : List S53) (a1 : Int) (a2 : Bool) (h1 : l0_15.length ≤ 9223372036854775807) (h2 : l0_16.length ≤ 9223372036854775807) : ∃ k, timeboundref26_Free.f k a0_0 a0_1 a0_2 a0_3 a0_4 a0_5 a0_6 a0_7 a0_8 a0_9 a0_10 a0_11 a0_12 a0_13 a0_14 l0_15 l0_16 a1 a2 = some (if a2 = true then l0_16.any (inSpan a1) else l0_15.any (inSpan a1)) := by
  unfold timeboundref26_Free.f
  cases a2 with
  | true => obtain ⟨k, e⟩ := refScratch_is l0_16 a1 h2; exact ⟨k, by rw [if_pos rfl, if_pos rfl, e]; rfl⟩
  | false => obtain ⟨k, e⟩ := refScratch_is l0_15 a1 h1; exact ⟨k, by rw [if_neg (by decide), if_neg (by decide), e]; rfl⟩
def lineR (s y n at_ : Int) : Int := (timeboundref22_Line.f s y n at_).getD 0
theorem lineR_is (s y n at_ : Int) : timeboundref22_Line.f s y n at_ = some (lineR s y n at_) := by
  have h : ∃ r, timeboundref22_Line.f s y n at_ = some r := by
    unfold timeboundref22_Line.f timeboundref22_Check.f
    by_cases c1 : s < 0
    · rw [if_pos c1]; exact ⟨_, rfl⟩
    rw [if_neg c1]
    by_cases c2 : s > 8
    · rw [if_pos c2]; exact ⟨_, rfl⟩
    rw [if_neg c2]
    by_cases c3 : y < 1
    · rw [if_pos c3]; exact ⟨_, rfl⟩
    rw [if_neg c3]
    by_cases c4 : y > 4
    · rw [if_pos c4]; exact ⟨_, rfl⟩
    rw [if_neg c4]
    by_cases c5 : n < 1
    · rw [if_pos c5]; exact ⟨_, rfl⟩
    rw [if_neg c5]
    by_cases c6 : n > 8
    · rw [if_pos c6]; exact ⟨_, rfl⟩
    rw [if_neg c6]
    simp only [Option.bind_some]
    rw [if_pos trivial]
    by_cases c7 : at_ < 0
    · rw [if_pos c7]; exact ⟨_, rfl⟩
    rw [if_neg c7, if_neg (by omega)]
    exact ⟨_, rfl⟩
  obtain ⟨r, hr⟩ := h
  unfold lineR
  rw [hr]
  rfl
def collR (s y n : Int) (free : List S53) : Nat → Int → List Int
  | 0, _ => []
  | k + 1, at_ => (if (!free.any (inSpan at_)) = true then [lineR s y n at_] else []) ++ collR s y n free k (at_ + 1)
theorem collR_step (s y n : Int) (free : List S53) (k : Nat) (at_ : Int) : collR s y n free (k + 1) at_ = (if (!free.any (inSpan at_)) = true then [lineR s y n at_] else []) ++ collR s y n free k (at_ + 1) := rfl
def timeboundref26_Lines.f (a0_0 : Int) (a0_1 : Int) (a0_2 : Int) (a0_3 : Int) (a0_4 : Int) (a0_5 : Int) (a0_6 : Int) (a0_7 : Int) (a0_8 : Int) (a0_9 : Int) (a0_10 : Int) (a0_11 : Int) (a0_12 : Int) (a0_13 : Int) (a0_14 : Int) (l0_15 l0_16 : List S53) (a1_0 a1_1 a1_2 : Int) : Option (List Int) := if -4611686018427387904 ≤ a1_1 ∧ a1_2 ≤ 4611686018427387904 ∧ a1_2 - a1_1 ≤ 100000 then some ((collR a0_3 a0_4 a0_5 l0_16 (a1_2 + 1 - a1_1).toNat a1_1).foldl addL []) else none

set_option maxHeartbeats 8000000 in
set_option maxRecDepth 100000 in
theorem timeboundref26_Lines.calls (a0_0 : Int) (a0_1 : Int) (a0_2 : Int) (a0_3 : Int) (a0_4 : Int) (a0_5 : Int) (a0_6 : Int) (a0_7 : Int) (a0_8 : Int) (a0_9 : Int) (a0_10 : Int) (a0_11 : Int) (a0_12 : Int) (a0_13 : Int) (a0_14 : Int) (A0_15 : Option Addr) (c0_15 : Nat) (l0_15 : List (S53)) (A0_16 : Option Addr) (c0_16 : Nat) (l0_16 : List (S53)) (a1_0 : Int) (a1_1 : Int) (a1_2 : Int) (r : List Int) (w : World) (hr0_15 : Kd.C k53 w A0_15 l0_15.length l0_15) (hc0_15 : l0_15.length ≤ c0_15) (hr0_16 : Kd.C k53 w A0_16 l0_16.length l0_16) (hc0_16 : l0_16.length ≤ c0_16) (h : timeboundref26_Lines.f a0_0 a0_1 a0_2 a0_3 a0_4 a0_5 a0_6 a0_7 a0_8 a0_9 a0_10 a0_11 a0_12 a0_13 a0_14 l0_15 l0_16 a1_0 a1_1 a1_2 = some r) :
    Calls Try.prog 10 #[.agg #[.int .i64 a0_0, .int .i64 a0_1, .int .i64 a0_2, .int .i64 a0_3, .int .i64 a0_4, .int .i64 a0_5, .int .i64 a0_6, .int .i64 a0_7, .int .i64 a0_8, .int .i64 a0_9, .int .i64 a0_10, .int .i64 a0_11, .int .i64 a0_12, .int .i64 a0_13, .int .i64 a0_14, .slice A0_15 l0_15.length c0_15, .slice A0_16 l0_16.length c0_16], .agg #[.int .i64 a1_0, .int .i64 a1_1, .int .i64 a1_2]] w fun e w' => ∃ v0_ : Value, e = .returned (v0_) ∧ Kd.R (Kd.int .i64) 3 w' w.heap.size (fun _ => True) v0_ r ∧ Below w.heap.size w w' := by
  have hu29 := Try.underlying29
  have hu33 := Try.underlying33
  have hu26 := Try.underlying26
  unfold timeboundref26_Lines.f at h
  have hcond : -4611686018427387904 ≤ a1_1 ∧ a1_2 ≤ 4611686018427387904 ∧ a1_2 - a1_1 ≤ 100000 := by
    by_cases hc : -4611686018427387904 ≤ a1_1 ∧ a1_2 ≤ 4611686018427387904 ∧ a1_2 - a1_1 ≤ 100000
    · exact hc
    · rw [if_neg hc] at h; cases h
  rw [if_pos hcond] at h
  obtain ⟨hq0, hq1, hq2⟩ := hcond
  have HRE := Aside0.mk (Option.some.inj h)
  have HR15 := Aside0.mk hr0_15
  have HC15 := Aside0.mk hc0_15
  have HR16 := Aside0.mk hr0_16
  have HC16 := Aside0.mk hc0_16
  have HL15 := Aside0.mk hr0_15.2.1
  have HL16 := Aside0.mk hr0_16.2.1
  have HB := Aside0.mk (Below.refl w.heap.size w)
  clear hr0_15 hc0_15 hr0_16 hc0_16 h
  obtain ⟨N, hN⟩ : ∃ N, N = (a1_2 + 1 - a1_1).toNat := ⟨_, rfl⟩
  rw [← hN] at HRE
  have hNN : N ≤ 100001 := by omega
  go_enter Try.func10, Try.ntmps10
  go_wp2_with (first | ((with_reducible refine gate_dst (N := 2) rfl ?_); refine box_event ?hg (N := 2) ?hd (cs := #[.int .i64 a0_0, .int .i64 a0_1, .int .i64 a0_2, .int .i64 a0_3, .int .i64 a0_4, .int .i64 a0_5, .int .i64 a0_6, .int .i64 a0_7, .int .i64 a0_8, .int .i64 a0_9, .int .i64 a0_10, .int .i64 a0_11, .int .i64 a0_12, .int .i64 a0_13, .int .i64 a0_14, .slice A0_15 l0_15.length c0_15, .slice A0_16 l0_16.length c0_16]) (t := 29) ?hr ?_; (case hd => rfl); (case hg => rfl); (case hr => first | (go_simp; done) | (go_simp; rfl)); intro gb hg w2 hbox hb; have n0_ := Aside0.mk (below_step HB.out hb); have BK := Aside0.mk hbox; clear HB; have HB := n0_; clear n0_ hb hbox hg) | ((with_reducible refine gate_dst (N := 3) rfl ?_); refine box_event ?hg (N := 3) ?hd (cs := #[.int .i64 a1_0, .int .i64 a1_1, .int .i64 a1_2]) (t := 33) ?hr ?_; (case hd => rfl); (case hg => rfl); (case hr => first | (go_simp; done) | (go_simp; rfl)); intro gb3 hg w3 hbox hb; have n0_ := Aside0.mk (below_step HB.out hb); have n1_ := Aside0.mk (blk_below BK.out hb); have h30 : w3.cell? ⟨gb3, 0, none⟩ = some (.int .i64 a1_0) := (blk_cell hbox 0).trans rfl; have h31 : w3.cell? ⟨gb3, 1, none⟩ = some (.int .i64 a1_1) := (blk_cell hbox 1).trans rfl; have h32 : w3.cell? ⟨gb3, 2, none⟩ = some (.int .i64 a1_2) := (blk_cell hbox 2).trans rfl; have BK3 := Aside0.mk hbox; clear HB BK; have HB := n0_; have BK := n1_; clear n0_ n1_ hb hbox hg) | fail)
  clear h30 h31 h32
  go_loopg [5, 6] N (fun gg s5 s6 wr => ∃ (out : List Int) (t : Nat), t ≤ N ∧ N - t ≤ gg ∧ s6 = .int .i64 (a1_1 + t) ∧ out.length ≤ t ∧ Aside0 (Kd.R (Kd.int .i64) 3 wr w.heap.size (fun _ => True) s5 out) ∧ Aside0 ((collR a0_3 a0_4 a0_5 l0_16 (N - t) (a1_1 + t)).foldl addL out = (collR a0_3 a0_4 a0_5 l0_16 N a1_1).foldl addL []) ∧ Aside0 (wr.heap[gb]? = some (.cells #[.int .i64 a0_0, .int .i64 a0_1, .int .i64 a0_2, .int .i64 a0_3, .int .i64 a0_4, .int .i64 a0_5, .int .i64 a0_6, .int .i64 a0_7, .int .i64 a0_8, .int .i64 a0_9, .int .i64 a0_10, .int .i64 a0_11, .int .i64 a0_12, .int .i64 a0_13, .int .i64 a0_14, .slice A0_15 l0_15.length c0_15, .slice A0_16 l0_16.length c0_16] 29 (0, 0))) ∧ Aside0 (wr.heap[gb3]? = some (.cells #[.int .i64 a1_0, .int .i64 a1_1, .int .i64 a1_2] 33 (0, 0))) ∧ Aside0 (Below w.heap.size w wr))
  case atStart => exact ⟨[], 0, Nat.zero_le _, by omega, by simp, by simp, ⟨Kd.R_nil _ _ _ _ _⟩, ⟨by simp⟩, BK, BK3, HB⟩
  case round =>
    clear BK BK3 HB
    obtain ⟨out, t, ht, hgg, rfl, hol, HO, HE, BK, BK3, HB⟩ := hrel
    have h32 : wr.cell? ⟨gb3, 2, none⟩ = some (.int .i64 a1_2) := (blk_cell BK3.out 2).trans rfl
    by_cases hlt : t < N
    · have hle : a1_1 + (t : Int) ≤ a1_2 := by omega
      obtain ⟨at_, hat⟩ : ∃ at_, at_ = a1_1 + (t : Int) := ⟨_, rfl⟩
      have hatn : at_ + 1 = a1_1 + ((t + 1 : Nat) : Int) := by omega
      have hat1 : at_ ≤ 4611686018427387904 := by omega
      have hat2 : -4611686018427387904 ≤ at_ := by omega
      have HST : Aside0 ((collR a0_3 a0_4 a0_5 l0_16 (N - t) (a1_1 + t)).foldl addL out = (collR a0_3 a0_4 a0_5 l0_16 (N - (t + 1)) (a1_1 + ((t + 1 : Nat) : Int))).foldl addL (if (!l0_16.any (inSpan at_)) = true then addL out (lineR a0_3 a0_4 a0_5 at_) else out)) := ⟨by
        rw [← hat, show N - t = (N - (t + 1)) + 1 by omega, ← hatn]
        rw [collR_step, List.foldl_append]
        split <;> rfl⟩
      have HLI := Aside0.mk (lineR_is a0_3 a0_4 a0_5 at_)
      obtain ⟨kf, hkf⟩ := refFree_is a0_0 a0_1 a0_2 a0_3 a0_4 a0_5 a0_6 a0_7 a0_8 a0_9 a0_10 a0_11 a0_12 a0_13 a0_14 l0_15 l0_16 at_ true HL15.out HL16.out
      rw [if_pos rfl] at hkf
      have HFR := Aside0.mk hkf
      rw [← hat] at hle ⊢
      have HAT := Aside0.mk hat
      have HAN := Aside0.mk hatn
      generalize lineR a0_3 a0_4 a0_5 at_ = n at HST HLI
      generalize l0_16.any (inSpan at_) = fr at HST HFR
      clear hat hatn hkf
      have hz0 : wr.cell? ⟨gb, 0, none⟩ = some (.int .i64 a0_0) := (blk_cell BK.out 0).trans rfl
      have hz1 : wr.cell? ⟨gb, 1, none⟩ = some (.int .i64 a0_1) := (blk_cell BK.out 1).trans rfl
      have hz2 : wr.cell? ⟨gb, 2, none⟩ = some (.int .i64 a0_2) := (blk_cell BK.out 2).trans rfl
      have hz3 : wr.cell? ⟨gb, 3, none⟩ = some (.int .i64 a0_3) := (blk_cell BK.out 3).trans rfl
      have hz4 : wr.cell? ⟨gb, 4, none⟩ = some (.int .i64 a0_4) := (blk_cell BK.out 4).trans rfl
      have hz5 : wr.cell? ⟨gb, 5, none⟩ = some (.int .i64 a0_5) := (blk_cell BK.out 5).trans rfl
      have hz6 : wr.cell? ⟨gb, 6, none⟩ = some (.int .i64 a0_6) := (blk_cell BK.out 6).trans rfl
      have hz7 : wr.cell? ⟨gb, 7, none⟩ = some (.int .i64 a0_7) := (blk_cell BK.out 7).trans rfl
      have hz8 : wr.cell? ⟨gb, 8, none⟩ = some (.int .i64 a0_8) := (blk_cell BK.out 8).trans rfl
      have hz9 : wr.cell? ⟨gb, 9, none⟩ = some (.int .i64 a0_9) := (blk_cell BK.out 9).trans rfl
      have hz10 : wr.cell? ⟨gb, 10, none⟩ = some (.int .i64 a0_10) := (blk_cell BK.out 10).trans rfl
      have hz11 : wr.cell? ⟨gb, 11, none⟩ = some (.int .i64 a0_11) := (blk_cell BK.out 11).trans rfl
      have hz12 : wr.cell? ⟨gb, 12, none⟩ = some (.int .i64 a0_12) := (blk_cell BK.out 12).trans rfl
      have hz13 : wr.cell? ⟨gb, 13, none⟩ = some (.int .i64 a0_13) := (blk_cell BK.out 13).trans rfl
      have hz14 : wr.cell? ⟨gb, 14, none⟩ = some (.int .i64 a0_14) := (blk_cell BK.out 14).trans rfl
      have hz15 : wr.cell? ⟨gb, 15, none⟩ = some (.slice A0_15 l0_15.length c0_15) := (blk_cell BK.out 15).trans rfl
      have hz16 : wr.cell? ⟨gb, 16, none⟩ = some (.slice A0_16 l0_16.length c0_16) := (blk_cell BK.out 16).trans rfl
      obtain ⟨A5, c5, hv5⟩ := Kd.R_slice HO.out
      subst hv5
      go_wp2_with fail
      refine (timeboundref22_Line.calls a0_3 a0_4 a0_5 at_ n wr HLI.out).mono ?_
      rintro e wa ⟨rfl, hb⟩
      have HBA := Aside0.mk (below_step HB.out hb)
      have BKA := Aside0.mk (blk_below BK.out hb)
      have BK3A := Aside0.mk (blk_below BK3.out hb)
      have HOA := Aside0.mk (Kd.R_below HO.out hb)
      clear hb h32 hz0 hz1 hz2 hz3 hz4 hz5 hz6 hz7 hz8 hz9 hz10 hz11 hz12 hz13 hz14 hz15 hz16 HB BK BK3 HO HLI
      have hz0 : wa.cell? ⟨gb, 0, none⟩ = some (.int .i64 a0_0) := (blk_cell BKA.out 0).trans rfl
      have hz1 : wa.cell? ⟨gb, 1, none⟩ = some (.int .i64 a0_1) := (blk_cell BKA.out 1).trans rfl
      have hz2 : wa.cell? ⟨gb, 2, none⟩ = some (.int .i64 a0_2) := (blk_cell BKA.out 2).trans rfl
      have hz3 : wa.cell? ⟨gb, 3, none⟩ = some (.int .i64 a0_3) := (blk_cell BKA.out 3).trans rfl
      have hz4 : wa.cell? ⟨gb, 4, none⟩ = some (.int .i64 a0_4) := (blk_cell BKA.out 4).trans rfl
      have hz5 : wa.cell? ⟨gb, 5, none⟩ = some (.int .i64 a0_5) := (blk_cell BKA.out 5).trans rfl
      have hz6 : wa.cell? ⟨gb, 6, none⟩ = some (.int .i64 a0_6) := (blk_cell BKA.out 6).trans rfl
      have hz7 : wa.cell? ⟨gb, 7, none⟩ = some (.int .i64 a0_7) := (blk_cell BKA.out 7).trans rfl
      have hz8 : wa.cell? ⟨gb, 8, none⟩ = some (.int .i64 a0_8) := (blk_cell BKA.out 8).trans rfl
      have hz9 : wa.cell? ⟨gb, 9, none⟩ = some (.int .i64 a0_9) := (blk_cell BKA.out 9).trans rfl
      have hz10 : wa.cell? ⟨gb, 10, none⟩ = some (.int .i64 a0_10) := (blk_cell BKA.out 10).trans rfl
      have hz11 : wa.cell? ⟨gb, 11, none⟩ = some (.int .i64 a0_11) := (blk_cell BKA.out 11).trans rfl
      have hz12 : wa.cell? ⟨gb, 12, none⟩ = some (.int .i64 a0_12) := (blk_cell BKA.out 12).trans rfl
      have hz13 : wa.cell? ⟨gb, 13, none⟩ = some (.int .i64 a0_13) := (blk_cell BKA.out 13).trans rfl
      have hz14 : wa.cell? ⟨gb, 14, none⟩ = some (.int .i64 a0_14) := (blk_cell BKA.out 14).trans rfl
      have hz15 : wa.cell? ⟨gb, 15, none⟩ = some (.slice A0_15 l0_15.length c0_15) := (blk_cell BKA.out 15).trans rfl
      have hz16 : wa.cell? ⟨gb, 16, none⟩ = some (.slice A0_16 l0_16.length c0_16) := (blk_cell BKA.out 16).trans rfl
      go_wp2_with fail
      refine (timeboundref26_Free.calls kf a0_0 a0_1 a0_2 a0_3 a0_4 a0_5 a0_6 a0_7 a0_8 a0_9 a0_10 a0_11 a0_12 a0_13 a0_14 A0_15 c0_15 l0_15 A0_16 c0_16 l0_16 at_ true fr wa (Kd.C_below HR15.out HBA.out) HC15.out (Kd.C_below HR16.out HBA.out) HC16.out HFR.out).mono ?_
      rintro e wb ⟨rfl, hb⟩
      have HBB := Aside0.mk (below_step HBA.out hb)
      have BKB := Aside0.mk (blk_below BKA.out hb)
      have BK3B := Aside0.mk (blk_below BK3A.out hb)
      have HOB := Aside0.mk (Kd.R_below HOA.out hb)
      clear hb hz0 hz1 hz2 hz3 hz4 hz5 hz6 hz7 hz8 hz9 hz10 hz11 hz12 hz13 hz14 hz15 hz16 HBA BKA BK3A HOA HFR
      have hsl : out.length + 1 < 17592186044416 := by omega
      have HWB : w.heap.size ≤ wb.heap.size := HBB.out.size
      cases fr with
      | true =>
        go_wp2_with fail
        go_roundg (N - (t + 1))
        case measure => omega
        case rel =>
          exact ⟨out, t + 1, by omega, by omega, by rw [← HAN.out], by omega, HOB, ⟨by rw [← HE.out, HST.out]; rfl⟩, BKB, BK3B, HBB⟩
      | false =>
        by_cases h0 : out.length = 0
        · obtain rfl : out = [] := List.length_eq_zero_iff.1 h0
          have hz0 : (([] : List Int).length : Int) = 0 := rfl
          go_wp2_with (first | (at_builtin; refine Kd.R_append (Kd.int .i64) (w0 := w) w.heap.size rfl (.tmp 39) (.tmp 41) 22 3 (.int .i64 0) 8 rfl Try.underlying22 info3 rfl (by decide) (by omega) (.slice A5 0 c5) [] n [.int .i64 n] (fun _ => True) (fun _ => False) rfl rfl ?aP (fun _ hk => hk.elim) ?aF ?aO ?aB ?aS ?aL ?_; (case aP => exact rfl); (case aB => exact HBB.out); (case aF => exact (fun _ _ => trivial)); (case aO => exact HOB.out); (case aS => exact below_size HBB.out); (case aL => simp); intro v6 wc ho hb hg hat; have HOC := Aside0.mk ho; have HBC := Aside0.mk hb; have BKC := Aside0.mk (blk_grown BKB.out hg (Kd.R_ne HOB.out BKB.out (by decide))); have BK3C := Aside0.mk (blk_grown BK3B.out hg (Kd.R_ne HOB.out BK3B.out (by decide))); clear ho hb hg hat) | fail)
          go_roundg (N - (t + 1))
          case measure => omega
          case rel =>
            exact ⟨[n], t + 1, by omega, by omega, by rw [← HAN.out], by simp, HOC, ⟨by rw [← HE.out, HST.out]; rfl⟩, BKC, BK3C, HBC⟩
        · obtain ⟨g, cap, hv, hg1, hg2, cur, hcur⟩ := Kd.R_form HOB.out (by omega)
          injection hv with hv1 hv2 hv3
          subst hv1 hv3
          clear hcur
          have hne0 : ¬ (out.length : Int) = 0 := by omega
          have hi1 : (0 : Int) ≤ (out.length : Int) - 1 := by omega
          have hi2 : (out.length : Int) - 1 < (out.length : Int) := by omega
          have hcl := (Kd.R_celln 0 HOB.out ((out.length : Int) - 1) hi1 hi2).1
          have hlast : Aside0 (out.getLast? = some (rdOf 0 out ((out.length : Int) - 1))) := ⟨by
            rw [List.getLast?_eq_getElem?]
            unfold rdOf
            rw [show ((out.length : Int) - 1).toNat = out.length - 1 by omega, List.getD_eq_getElem?_getD, List.getElem?_eq_getElem (by omega)]
            rfl⟩
          generalize rdOf 0 out ((out.length : Int) - 1) = lst at hcl hlast
          have hcl2 : wb.cell? ⟨g, out.length - 1, none⟩ = some (.int .i64 lst) := by rw [← hcl, show ((out.length : Int) - 1).toNat = out.length - 1 by omega]
          by_cases hq : lst = n
          · subst hq
            go_wp2_with fail
            go_roundg (N - (t + 1))
            case measure => omega
            case rel =>
              exact ⟨out, t + 1, by omega, by omega, by rw [← HAN.out], by omega, HOB, ⟨by rw [← HE.out, HST.out, if_pos (show (!false) = true from rfl), addL_same hlast.out]⟩, BKB, BK3B, HBB⟩
          · have HQ := Aside0.mk hq
            have hqb : (lst == n) = false := beq_eq_false_iff_ne.mpr hq
            have hqn : (lst != n) = true := by rw [bne, hqb]; rfl
            clear hqb
            go_wp2_with (first | (at_builtin; refine Kd.R_append (Kd.int .i64) (w0 := w) w.heap.size rfl (.tmp 39) (.tmp 41) 22 3 (.int .i64 0) 8 rfl Try.underlying22 info3 rfl (by decide) (by omega) (.slice (some ⟨g, 0, none⟩) out.length c5) out n [.int .i64 n] (fun _ => True) (fun _ => False) rfl rfl ?aP (fun _ hk => hk.elim) ?aF ?aO ?aB ?aS ?aL ?_; (case aP => exact rfl); (case aB => exact HBB.out); (case aF => exact (fun _ _ => trivial)); (case aO => exact HOB.out); (case aS => exact below_size HBB.out); (case aL => omega); intro v6 wc ho hb hg hat; have HOC := Aside0.mk ho; have HBC := Aside0.mk hb; have BKC := Aside0.mk (blk_grown BKB.out hg (Kd.R_ne HOB.out BKB.out (by decide))); have BK3C := Aside0.mk (blk_grown BK3B.out hg (Kd.R_ne HOB.out BK3B.out (by decide))); clear ho hb hg hat) | fail)
            go_roundg (N - (t + 1))
            case measure => omega
            case rel =>
              exact ⟨out ++ [n], t + 1, by omega, by omega, by rw [← HAN.out], by simp; omega, HOC, ⟨by rw [← HE.out, HST.out, if_pos (show (!false) = true from rfl), addL_new (fun h => HQ.out (Option.some.inj (hlast.out.symm.trans h)))]⟩, BKC, BK3C, HBC⟩
    · have : t = N := by omega
      subst this
      have hle : ¬ a1_1 + (t : Int) ≤ a1_2 := by omega
      have HEE : Aside0 (out = r) := ⟨by rw [← HRE.out, ← HE.out, Nat.sub_self]; rfl⟩
      clear HE HRE
      obtain ⟨A5, c5, hv5⟩ := Kd.R_slice HO.out
      subst hv5
      go_wp2_with fail
      go_ret
      refine ⟨_, rfl, ?_, HB.out⟩
      rw [← HEE.out]
      exact HO.out


end Go.Proofs.Ytcaanbicgpfonaa.PPl
