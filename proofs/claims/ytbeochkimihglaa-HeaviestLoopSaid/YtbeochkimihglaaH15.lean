/- Clone over edges; the tests of open and inside. -/
import Derived.Test.YtbeochkimihglaaH14
import Derived.Outline
import Derived.Maps.AppendAt
import Derived.Laws.OwnMore
namespace Go.Proofs.Ytbeochkimihglaa.PHl
open Go.RowKit Go.Proofs.YtbeochkimihglaaW.PrintWords Go.Proofs.YtbeochkimihglaaW.PrintLast Go.Proofs.YtbeochkimihglaaW.PrintMore
set_option linter.unusedVariables false
set_option linter.unusedSimpArgs false
theorem cell_alloc_of {W : World} {a : Addr} {u : Value} (h : W.cell? a = some u) (o : Obj) : (W.alloc o).cell? a = some u := by
  have hlt : a.block < W.heap.size := by
    rcases Nat.lt_or_ge a.block W.heap.size with h1 | h1
    · exact h1
    · simp [World.cell?, Array.getElem?_eq_none h1] at h
  rw [World.cell?_of_block (w := W) ((Below.alloc (Below.refl W.heap.size W) (Nat.le_refl _) o).block _ hlt)]
  exact h
set_option maxHeartbeats 8000000 in
set_option maxRecDepth 100000 in
theorem clone_calls (ge n c : Nat) (xs : List Value) (w : World) (hx : ∀ j u, xs[j]? = some u → w.cell? ((⟨ge, 0, none⟩ : Addr).add j) = some u) (hl : xs.length = n * 4) (h1 : ∀ u ∈ xs, u.oneCell' = true) (hn : n ≤ 4) :
    Calls Try.prog 45 #[.slice (some ⟨ge, 0, none⟩) n c] w fun e w' => ∃ g c', e = .returned (.slice (some ⟨g, 0, none⟩) n c') ∧ w'.ownsRow w.heap.size 74 4 (.slice (some ⟨g, 0, none⟩) n c') n xs ∧ Below w.heap.size w w' := by
  obtain ⟨i74, hi, hz⟩ := Option.map_eq_some_iff.1 info74
  simp only [Prod.mk.injEq] at hz
  obtain ⟨hza, hzb, hzc⟩ := hz
  have hnil : ∀ W, (binOp .eql 58 (.slice (some ⟨ge, 0, none⟩) n c) (.slice none 0 0)).run Try.prog W = .ok (.bool false) W := fun _ => rfl
  have HI := Aside0.mk hi
  have HZA := Aside0.mk hza
  have HZB := Aside0.mk hzb
  have HZC := Aside0.mk hzc
  have HL := Aside0.mk hl
  have H1 := Aside0.mk h1
  have HN := Aside0.mk hn
  have HX : Aside0 (∀ j u, xs[j]? = some u → (w.alloc (.cells #[] 74)).cell? ((⟨ge, 0, none⟩ : Addr).add j) = some u) := ⟨fun j u hu => cell_alloc_of (hx j u hu) _⟩
  clear hi hza hzb hzc hl h1 hx
  go_enter Try.func45, Try.ntmps45
  go_wp2_with (first | (at_builtin; refine wpList_append_own_at _ rfl _ _ 58 rfl w.heap.size 74 i74 _ 4 32 Try.underlying58 HI.out HZA.out HZB.out HZC.out rfl (by decide) (.slice (some ⟨w.heap.size, 0, none⟩) 0 0) 0 [] rfl (World.ownsRow_lit w #[] 0 (Nat.le_refl _) (by decide) rfl) ⟨ge, 0, none⟩ n c xs rfl HL.out HX.out H1.out (by have := HN.out; unfold maxLen; omega) (by have := HN.out; omega) (by simp) ?_; intro vq w1 hy hgrow hnil hat; simp only [Nat.zero_add, List.nil_append] at hy; have HY := Aside0.mk hy; have HG := Aside0.mk hgrow; have HNN := Aside0.mk hnil; clear hy hgrow hnil hat) | fail)
  go_ret
  have hb : Below w.heap.size w w1 := Below.grown (below_alloc (Below.refl _ _) _) HG.out (by simp) (fun k hk => by have e : w.heap.size = k := Option.some.inj hk; omega)
  have ho := HY.out
  rcases ho.2 with ⟨hv, h0⟩ | ⟨g, c', cur, hv, -⟩
  · have := (HNN.out.1 hv).1
    simp at this
  · subst hv
    exact ⟨g, c', rfl, ho, hb⟩
set_option maxHeartbeats 8000000 in
set_option maxRecDepth 100000 in
theorem ins_01 (wt : Int) (nb ln : Nat) (w : World) (hN : Blk w nb #[.slice (some ⟨ln, 0, none⟩) 2 2] 29) (hL : Blk w ln #[.int .i64 1, .int .i64 2] 3) :
    Calls Try.prog 46 #[.agg #[.int .i64 0, .int .i64 0, .int .i64 1, .int .i64 wt], .pointer (some ⟨nb, 0, none⟩)] w fun e w' => e = .returned (.bool true) ∧ Below w.heap.size w w' := by
  have hu74 := Try.underlying74
  have HL := Aside0.mk hL
  have hnb : w.cell? ⟨nb, 0, none⟩ = some (.slice (some ⟨ln, 0, none⟩) 2 2) := blk_cell hN 0
  have lnb := blk_lt hN
  have lln := blk_lt hL
  have i0 : inL 0 = false := rfl
  have i1 : inL 1 = true := rfl
  have i2 : inL 2 = true := rfl
  have i3 : inL 3 = false := rfl
  clear hN hL
  go_enter Try.func46, Try.ntmps46
  go_wp2_with (go_at_call 34; refine (in_calls ln _ _ (by (repeat (first | with_reducible exact HL.out | refine blk_alloc ?_ _ | refine blk_drewN ?_ _ | refine blk_drew ?_))) (by omega)).mono ?_; rintro e _ ⟨rfl, nd, rfl⟩)
  go_ret
  exact ⟨rfl, (by repeat (first | with_reducible exact Below.refl _ _ | apply below_alloc | apply pw_below_drewN | apply below_drew1))⟩
set_option maxHeartbeats 8000000 in
set_option maxRecDepth 100000 in
theorem opn_01 (wt : Int) (db dd : Nat) (d0 d1 d2 d3 : Bool) (w : World) (hN : Blk w db #[.slice (some ⟨dd, 0, none⟩) 4 4] 41) (hL : Blk w dd #[.bool d0, .bool d1, .bool d2, .bool d3] 4) :
    Calls Try.prog 47 #[.agg #[.int .i64 0, .int .i64 0, .int .i64 1, .int .i64 wt], .pointer (some ⟨db, 0, none⟩)] w fun e w' => e = .returned (.bool (d0 || d1)) ∧ Below w.heap.size w w' := by
  have hu74 := Try.underlying74
  have hnb : w.cell? ⟨db, 0, none⟩ = some (.slice (some ⟨dd, 0, none⟩) 4 4) := blk_cell hN 0
  have lnb := blk_lt hN
  have lln := blk_lt hL
  cases d0
  all_goals
    have hD := fun i => blk_cell hL i
    go_enter Try.func47, Try.ntmps47
    go_wp2_with fail
    go_ret
    exact ⟨rfl, (by repeat (first | with_reducible exact Below.refl _ _ | apply below_alloc | apply pw_below_drewN | apply below_drew1))⟩
set_option maxHeartbeats 8000000 in
set_option maxRecDepth 100000 in
theorem ins_12 (wt : Int) (nb ln : Nat) (w : World) (hN : Blk w nb #[.slice (some ⟨ln, 0, none⟩) 2 2] 29) (hL : Blk w ln #[.int .i64 1, .int .i64 2] 3) :
    Calls Try.prog 46 #[.agg #[.int .i64 1, .int .i64 0, .int .i64 2, .int .i64 wt], .pointer (some ⟨nb, 0, none⟩)] w fun e w' => e = .returned (.bool false) ∧ Below w.heap.size w w' := by
  have hu74 := Try.underlying74
  have HL := Aside0.mk hL
  have hnb : w.cell? ⟨nb, 0, none⟩ = some (.slice (some ⟨ln, 0, none⟩) 2 2) := blk_cell hN 0
  have lnb := blk_lt hN
  have lln := blk_lt hL
  have i0 : inL 0 = false := rfl
  have i1 : inL 1 = true := rfl
  have i2 : inL 2 = true := rfl
  have i3 : inL 3 = false := rfl
  clear hN hL
  go_enter Try.func46, Try.ntmps46
  go_wp2_with (go_at_call 34; refine (in_calls ln _ _ (by (repeat (first | with_reducible exact HL.out | refine blk_alloc ?_ _ | refine blk_drewN ?_ _ | refine blk_drew ?_))) (by omega)).mono ?_; rintro e _ ⟨rfl, nd, rfl⟩)
  go_ret
  exact ⟨rfl, (by repeat (first | with_reducible exact Below.refl _ _ | apply below_alloc | apply pw_below_drewN | apply below_drew1))⟩
set_option maxHeartbeats 8000000 in
set_option maxRecDepth 100000 in
theorem opn_12 (wt : Int) (db dd : Nat) (d0 d1 d2 d3 : Bool) (w : World) (hN : Blk w db #[.slice (some ⟨dd, 0, none⟩) 4 4] 41) (hL : Blk w dd #[.bool d0, .bool d1, .bool d2, .bool d3] 4) :
    Calls Try.prog 47 #[.agg #[.int .i64 1, .int .i64 0, .int .i64 2, .int .i64 wt], .pointer (some ⟨db, 0, none⟩)] w fun e w' => e = .returned (.bool (d1 || d2)) ∧ Below w.heap.size w w' := by
  have hu74 := Try.underlying74
  have hnb : w.cell? ⟨db, 0, none⟩ = some (.slice (some ⟨dd, 0, none⟩) 4 4) := blk_cell hN 0
  have lnb := blk_lt hN
  have lln := blk_lt hL
  cases d1
  all_goals
    have hD := fun i => blk_cell hL i
    go_enter Try.func47, Try.ntmps47
    go_wp2_with fail
    go_ret
    exact ⟨rfl, (by repeat (first | with_reducible exact Below.refl _ _ | apply below_alloc | apply pw_below_drewN | apply below_drew1))⟩
set_option maxHeartbeats 8000000 in
set_option maxRecDepth 100000 in
theorem ins_13 (wt : Int) (nb ln : Nat) (w : World) (hN : Blk w nb #[.slice (some ⟨ln, 0, none⟩) 2 2] 29) (hL : Blk w ln #[.int .i64 1, .int .i64 2] 3) :
    Calls Try.prog 46 #[.agg #[.int .i64 1, .int .i64 1, .int .i64 3, .int .i64 wt], .pointer (some ⟨nb, 0, none⟩)] w fun e w' => e = .returned (.bool true) ∧ Below w.heap.size w w' := by
  have hu74 := Try.underlying74
  have HL := Aside0.mk hL
  have hnb : w.cell? ⟨nb, 0, none⟩ = some (.slice (some ⟨ln, 0, none⟩) 2 2) := blk_cell hN 0
  have lnb := blk_lt hN
  have lln := blk_lt hL
  have i0 : inL 0 = false := rfl
  have i1 : inL 1 = true := rfl
  have i2 : inL 2 = true := rfl
  have i3 : inL 3 = false := rfl
  clear hN hL
  go_enter Try.func46, Try.ntmps46
  go_wp2_with (go_at_call 34; refine (in_calls ln _ _ (by (repeat (first | with_reducible exact HL.out | refine blk_alloc ?_ _ | refine blk_drewN ?_ _ | refine blk_drew ?_))) (by omega)).mono ?_; rintro e _ ⟨rfl, nd, rfl⟩)
  go_ret
  exact ⟨rfl, (by repeat (first | with_reducible exact Below.refl _ _ | apply below_alloc | apply pw_below_drewN | apply below_drew1))⟩
set_option maxHeartbeats 8000000 in
set_option maxRecDepth 100000 in
theorem opn_13 (wt : Int) (db dd : Nat) (d0 d1 d2 d3 : Bool) (w : World) (hN : Blk w db #[.slice (some ⟨dd, 0, none⟩) 4 4] 41) (hL : Blk w dd #[.bool d0, .bool d1, .bool d2, .bool d3] 4) :
    Calls Try.prog 47 #[.agg #[.int .i64 1, .int .i64 1, .int .i64 3, .int .i64 wt], .pointer (some ⟨db, 0, none⟩)] w fun e w' => e = .returned (.bool (d1 || d3)) ∧ Below w.heap.size w w' := by
  have hu74 := Try.underlying74
  have hnb : w.cell? ⟨db, 0, none⟩ = some (.slice (some ⟨dd, 0, none⟩) 4 4) := blk_cell hN 0
  have lnb := blk_lt hN
  have lln := blk_lt hL
  cases d1
  all_goals
    have hD := fun i => blk_cell hL i
    go_enter Try.func47, Try.ntmps47
    go_wp2_with fail
    go_ret
    exact ⟨rfl, (by repeat (first | with_reducible exact Below.refl _ _ | apply below_alloc | apply pw_below_drewN | apply below_drew1))⟩
set_option maxHeartbeats 8000000 in
set_option maxRecDepth 100000 in
theorem ins_21 (wt : Int) (nb ln : Nat) (w : World) (hN : Blk w nb #[.slice (some ⟨ln, 0, none⟩) 2 2] 29) (hL : Blk w ln #[.int .i64 1, .int .i64 2] 3) :
    Calls Try.prog 46 #[.agg #[.int .i64 2, .int .i64 0, .int .i64 1, .int .i64 wt], .pointer (some ⟨nb, 0, none⟩)] w fun e w' => e = .returned (.bool false) ∧ Below w.heap.size w w' := by
  have hu74 := Try.underlying74
  have HL := Aside0.mk hL
  have hnb : w.cell? ⟨nb, 0, none⟩ = some (.slice (some ⟨ln, 0, none⟩) 2 2) := blk_cell hN 0
  have lnb := blk_lt hN
  have lln := blk_lt hL
  have i0 : inL 0 = false := rfl
  have i1 : inL 1 = true := rfl
  have i2 : inL 2 = true := rfl
  have i3 : inL 3 = false := rfl
  clear hN hL
  go_enter Try.func46, Try.ntmps46
  go_wp2_with (go_at_call 34; refine (in_calls ln _ _ (by (repeat (first | with_reducible exact HL.out | refine blk_alloc ?_ _ | refine blk_drewN ?_ _ | refine blk_drew ?_))) (by omega)).mono ?_; rintro e _ ⟨rfl, nd, rfl⟩)
  go_ret
  exact ⟨rfl, (by repeat (first | with_reducible exact Below.refl _ _ | apply below_alloc | apply pw_below_drewN | apply below_drew1))⟩
set_option maxHeartbeats 8000000 in
set_option maxRecDepth 100000 in
theorem opn_21 (wt : Int) (db dd : Nat) (d0 d1 d2 d3 : Bool) (w : World) (hN : Blk w db #[.slice (some ⟨dd, 0, none⟩) 4 4] 41) (hL : Blk w dd #[.bool d0, .bool d1, .bool d2, .bool d3] 4) :
    Calls Try.prog 47 #[.agg #[.int .i64 2, .int .i64 0, .int .i64 1, .int .i64 wt], .pointer (some ⟨db, 0, none⟩)] w fun e w' => e = .returned (.bool (d2 || d1)) ∧ Below w.heap.size w w' := by
  have hu74 := Try.underlying74
  have hnb : w.cell? ⟨db, 0, none⟩ = some (.slice (some ⟨dd, 0, none⟩) 4 4) := blk_cell hN 0
  have lnb := blk_lt hN
  have lln := blk_lt hL
  cases d2
  all_goals
    have hD := fun i => blk_cell hL i
    go_enter Try.func47, Try.ntmps47
    go_wp2_with fail
    go_ret
    exact ⟨rfl, (by repeat (first | with_reducible exact Below.refl _ _ | apply below_alloc | apply pw_below_drewN | apply below_drew1))⟩
end Go.Proofs.Ytbeochkimihglaa.PHl
