-- printed by wip/tools/print2.sh (the kit's print, with given texts of this repo); not trusted: Lean checks it
import Derived.Test.YtgpdnfhmmeaoeaaPBtx0
import Derived.Test.YtgpdnfhmmeaoeaaPBtx3
import Derived.Test.YtgpdnfhmmeaoeaaPBtx5
import Derived.Test.YtgpdnfhmmeaoeaaPBtx6
import Derived.Test.YtgpdnfhmmeaoeaaPBtx7
namespace Go.Proofs.Ytgpdnfhmmeaoeaa.PBt
open Go.RowKit Go.Proofs.YtgpdnfhmmeaoeaaW.PrintWords Go.Proofs.YtgpdnfhmmeaoeaaW.PrintLast Go.Proofs.YtgpdnfhmmeaoeaaW.PrintMore
attribute [local go_sem] max2_int min2_int max_two min_two max_three min_three max_four min_four   -- for this text's walks alone
set_option linter.unusedVariables false
set_option linter.unusedSimpArgs false

def withinP (n lo hi : Int) : Bool := decide (lo ≤ n) && decide (n ≤ hi)
theorem within_is (n lo hi : Int) : blocking_within.f n lo hi = some (withinP n lo hi) := by
  unfold blocking_within.f withinP
  by_cases h : n ≥ lo
  · rw [if_pos h, decide_eq_true (show lo ≤ n from h), Bool.true_and]
  · rw [if_neg h, decide_eq_false (show ¬ lo ≤ n from h), Bool.false_and]
def badHold (x : S50) : Bool := !withinP x.f0 0 3 || !withinP x.f1 0 16777216
def badJob (x : S48) : Bool := !withinP x.f0 1 16777216 || !withinP x.f1 1 x.f0 || !withinP x.f2 0 x.f0 || !withinP x.f3 0 15 || !withinP x.f4 0 16777216 || !withinP x.f6 0 16777216 || x.f5.any badHold
def validP (l : List S48) : Bool := decide ((l.length : Int) ≤ 6) && !l.any badJob
def blocking_Valid.f (l : List S48) : Option Bool := some (validP l)

set_option maxHeartbeats 2000000 in
theorem Valid11.calls (W : World) (x : S50) : Calls Try.prog 36 #[.agg #[.int .i64 x.f0, .int .i64 x.f1]] W fun e w' => e = .returned (.bool (badHold x)) ∧ Below W.heap.size W w' := by
  have hu50 := Try.underlying50
  have HB := Aside0.mk (Below.refl W.heap.size W)
  have HX := Aside0.mk (show badHold x = (!withinP x.f0 0 3 || !withinP x.f1 0 16777216) from rfl)
  generalize badHold x = r at HX ⊢
  go_enter Try.func36, Try.ntmps36
  go_wp2_with (first | ((with_reducible refine gate_dst (N := 1) rfl ?_); refine box_event ?hg (N := 1) ?hd (cs := #[.int .i64 x.f0, .int .i64 x.f1]) (t := 50) ?hr ?_; (case hd => rfl); (case hg => rfl); (case hr => first | (go_simp; done) | (go_simp; rfl)); intro gb hg w2 hbox hb; have n0_ := Aside0.mk (below_step HB.out hb); have BK := Aside0.mk hbox; have hc0 : w2.cell? ⟨gb, 0, none⟩ = some (.int .i64 x.f0) := (blk_cell hbox 0).trans rfl; clear HB; have HB := n0_; clear n0_ hb hbox hg) | fail)
  refine (blocking_within.calls _ _ _ _ w2 (within_is x.f0 0 3)).mono ?_
  rintro e w3 ⟨rfl, hd⟩
  generalize withinP x.f0 0 3 = b1 at HX ⊢
  have HB3 := Aside0.mk (below_step HB.out hd.below)
  have hc1 : w3.cell? ⟨gb, 1, none⟩ = some (.int .i64 x.f1) := (blk_cell (blk_below BK.out hd.below) 1).trans rfl
  clear hd hc0 BK HB
  cases b1 with
  | false =>
    go_wp2_with fail
    go_ret
    exact ⟨by rw [HX.out]; rfl, HB3.out⟩
  | true =>
    go_wp2_with fail
    refine (blocking_within.calls _ _ _ _ w3 (within_is x.f1 0 16777216)).mono ?_
    rintro e w4 ⟨rfl, hd⟩
    generalize withinP x.f1 0 16777216 = b2 at HX ⊢
    have HB4 := Aside0.mk (below_step HB3.out hd.below)
    clear hd hc1 HB3
    go_wp2_with fail
    go_ret
    exact ⟨by rw [HX.out]; cases b2 <;> rfl, HB4.out⟩

set_option maxHeartbeats 4000000 in
set_option maxRecDepth 100000 in
theorem Valid1.calls (W : World) (x : S48) (A5 : Option Addr) (c5 : Nat) (hl5 : x.f5.length ≤ c5) (hg5 : k50.C W A5 x.f5.length x.f5) : Calls Try.prog 33 #[.agg #[.int .i64 x.f0, .int .i64 x.f1, .int .i64 x.f2, .int .i64 x.f3, .int .i64 x.f4, .slice A5 x.f5.length c5, .int .i64 x.f6]] W fun e w' => e = .returned (.bool (badJob x)) ∧ Below W.heap.size W w' := by
  have hu48 := Try.underlying48
  have HB := Aside0.mk (Below.refl W.heap.size W)
  have HG := Aside0.mk hg5
  have HL := Aside0.mk hl5
  have hm5 := hg5.2.1
  clear hg5 hl5
  have HX := Aside0.mk (show badJob x = (!withinP x.f0 1 16777216 || !withinP x.f1 1 x.f0 || !withinP x.f2 0 x.f0 || !withinP x.f3 0 15 || !withinP x.f4 0 16777216 || !withinP x.f6 0 16777216 || x.f5.any badHold) from rfl)
  generalize badJob x = r at HX ⊢
  go_enter Try.func33, Try.ntmps33
  go_wp2_with (first | ((with_reducible refine gate_dst (N := 1) rfl ?_); refine box_event ?hg (N := 1) ?hd (cs := #[.int .i64 x.f0, .int .i64 x.f1, .int .i64 x.f2, .int .i64 x.f3, .int .i64 x.f4, .slice A5 x.f5.length c5, .int .i64 x.f6]) (t := 48) ?hr ?_; (case hd => rfl); (case hg => rfl); (case hr => first | (go_simp; done) | (go_simp; rfl)); intro gb hg w2 hbox hb; have n0_ := Aside0.mk (below_step HB.out hb); have BK := Aside0.mk hbox; have hc0 : w2.cell? ⟨gb, 0, none⟩ = some (.int .i64 x.f0) := (blk_cell hbox 0).trans rfl; clear HB; have HB := n0_; clear n0_ hb hbox hg) | fail)
  refine (blocking_within.calls _ _ _ _ _ (within_is x.f0 1 16777216)).mono ?_
  rintro e w3 ⟨rfl, hd⟩
  generalize withinP x.f0 1 16777216 = b at HX ⊢
  replace HB := Aside0.mk (below_step HB.out hd.below)
  replace BK := Aside0.mk (blk_below BK.out hd.below)
  clear hd
  try clear hc0
  try clear hcp
  have hc0 : w3.cell? ⟨gb, 1, none⟩ = some (.int .i64 x.f1) := (blk_cell BK.out 1).trans rfl
  have hcp : w3.cell? ⟨gb, 0, none⟩ = some (.int .i64 x.f0) := (blk_cell BK.out 0).trans rfl
  cases b with
  | false =>
    go_wp2_with fail
    go_ret
    exact ⟨by rw [HX.out]; simp, HB.out⟩
  | true =>
    go_wp2_with fail
    refine (blocking_within.calls _ _ _ _ _ (within_is x.f1 1 x.f0)).mono ?_
    rintro e w4 ⟨rfl, hd⟩
    generalize withinP x.f1 1 x.f0 = b at HX ⊢
    replace HB := Aside0.mk (below_step HB.out hd.below)
    replace BK := Aside0.mk (blk_below BK.out hd.below)
    clear hd
    try clear hc0
    try clear hcp
    have hc0 : w4.cell? ⟨gb, 2, none⟩ = some (.int .i64 x.f2) := (blk_cell BK.out 2).trans rfl
    have hcp : w4.cell? ⟨gb, 0, none⟩ = some (.int .i64 x.f0) := (blk_cell BK.out 0).trans rfl
    cases b with
    | false =>
      go_wp2_with fail
      go_ret
      exact ⟨by rw [HX.out]; simp, HB.out⟩
    | true =>
      go_wp2_with fail
      refine (blocking_within.calls _ _ _ _ _ (within_is x.f2 0 x.f0)).mono ?_
      rintro e w5 ⟨rfl, hd⟩
      generalize withinP x.f2 0 x.f0 = b at HX ⊢
      replace HB := Aside0.mk (below_step HB.out hd.below)
      replace BK := Aside0.mk (blk_below BK.out hd.below)
      clear hd
      try clear hc0
      try clear hcp
      have hc0 : w5.cell? ⟨gb, 3, none⟩ = some (.int .i64 x.f3) := (blk_cell BK.out 3).trans rfl
      cases b with
      | false =>
        go_wp2_with fail
        go_ret
        exact ⟨by rw [HX.out]; simp, HB.out⟩
      | true =>
        go_wp2_with fail
        refine (blocking_within.calls _ _ _ _ _ (within_is x.f3 0 15)).mono ?_
        rintro e w6 ⟨rfl, hd⟩
        generalize withinP x.f3 0 15 = b at HX ⊢
        replace HB := Aside0.mk (below_step HB.out hd.below)
        replace BK := Aside0.mk (blk_below BK.out hd.below)
        clear hd
        try clear hc0
        try clear hcp
        have hc0 : w6.cell? ⟨gb, 4, none⟩ = some (.int .i64 x.f4) := (blk_cell BK.out 4).trans rfl
        cases b with
        | false =>
          go_wp2_with fail
          go_ret
          exact ⟨by rw [HX.out]; simp, HB.out⟩
        | true =>
          go_wp2_with fail
          refine (blocking_within.calls _ _ _ _ _ (within_is x.f4 0 16777216)).mono ?_
          rintro e w7 ⟨rfl, hd⟩
          generalize withinP x.f4 0 16777216 = b at HX ⊢
          replace HB := Aside0.mk (below_step HB.out hd.below)
          replace BK := Aside0.mk (blk_below BK.out hd.below)
          clear hd
          try clear hc0
          try clear hcp
          have hc0 : w7.cell? ⟨gb, 6, none⟩ = some (.int .i64 x.f6) := (blk_cell BK.out 6).trans rfl
          cases b with
          | false =>
            go_wp2_with fail
            go_ret
            exact ⟨by rw [HX.out]; simp, HB.out⟩
          | true =>
            go_wp2_with fail
            refine (blocking_within.calls _ _ _ _ _ (within_is x.f6 0 16777216)).mono ?_
            rintro e w8 ⟨rfl, hd⟩
            generalize withinP x.f6 0 16777216 = b at HX ⊢
            replace HB := Aside0.mk (below_step HB.out hd.below)
            replace BK := Aside0.mk (blk_below BK.out hd.below)
            clear hd
            try clear hc0
            try clear hcp
            have hc0 : w8.cell? ⟨gb, 5, none⟩ = some (.slice A5 x.f5.length c5) := (blk_cell BK.out 5).trans rfl
            cases b with
            | false =>
              go_wp2_with fail
              go_ret
              exact ⟨by rw [HX.out]; simp, HB.out⟩
            | true =>
              go_wp2_with fail
              refine (ContainsFunc35.calls (P := badHold) 36 #[] (entersF 36 Try.func36 (by kernel_rfl) rfl) A5 c5 x.f5 _ (Kd.C_below HG.out HB.out) hm5 (fun W' y _ => Valid11.calls W' y)).mono ?_
              rintro e w9 ⟨rfl, hb9⟩
              generalize x.f5.any badHold = b at HX ⊢
              have HB9 := Aside0.mk (below_step HB.out hb9)
              clear hb9 HB BK HG HL
              go_wp2_with fail
              go_ret
              exact ⟨by rw [HX.out]; simp, HB9.out⟩

set_option maxHeartbeats 2000000 in
theorem blocking_Valid.calls (A0 : Option Addr) (c0 : Nat) (l0 : List S48) (r : Bool) (w : World) (hr0 : Kd.C k48 w A0 l0.length l0) (hc0 : l0.length ≤ c0) (h : blocking_Valid.f l0 = some r) :
    Calls Try.prog 17 #[.slice A0 l0.length c0] w fun e w' => e = .returned (.bool r) ∧ Below w.heap.size w w' := by
  obtain rfl := Option.some.inj h
  have HC := Aside0.mk (ContainsFunc32.calls (P := badJob) 33 #[] (entersF 33 Try.func33 (by kernel_rfl) rfl) A0 c0 l0 w hr0 hr0.2.1 (fun W x A5 c5 _ hl hg => Valid1.calls W x A5 c5 hl hg))
  have hm0 := hr0.2.1
  clear hr0 h
  have HX := Aside0.mk (show validP l0 = (decide ((l0.length : Int) ≤ 6) && !l0.any badJob) from rfl)
  generalize validP l0 = r at HX ⊢
  generalize l0.any badJob = b at HX HC
  by_cases h6 : l0.length ≤ 6
  · have h6z : (l0.length : Int) ≤ 6 := by omega
    have HE := Aside0.mk (decide_eq_true h6z)
    clear h6
    go_enter Try.func17, Try.ntmps17
    go_wp2_with fail
    refine HC.out.mono ?_
    rintro e w' ⟨rfl, hb'⟩
    have HB' := Aside0.mk hb'
    clear hb' HC
    go_wp2_with fail
    go_ret
    exact ⟨by rw [HX.out, HE.out]; rfl, HB'.out⟩
  · have h6z : ¬ (l0.length : Int) ≤ 6 := by omega
    have HE := Aside0.mk (decide_eq_false h6z)
    clear HC
    go_enter Try.func17, Try.ntmps17
    go_wp2_with fail
    go_ret
    exact ⟨by rw [HX.out, HE.out]; rfl, Below.refl _ _⟩

end Go.Proofs.Ytgpdnfhmmeaoeaa.PBt
