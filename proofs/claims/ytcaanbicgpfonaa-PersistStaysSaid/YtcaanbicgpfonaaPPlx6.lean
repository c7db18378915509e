-- printed by wip/tools/print2.sh (the kit's print, with given texts of this repo); not trusted: Lean checks it
import Derived.Test.YtcaanbicgpfonaaPPlx0
import Derived.Test.YtcaanbicgpfonaaPPlx4
import Derived.Test.YtcaanbicgpfonaaPPlx5
namespace Go.Proofs.Ytcaanbicgpfonaa.PPl
open Go.RowKit Go.Proofs.YtcaanbicgpfonaaW.PrintWords Go.Proofs.YtcaanbicgpfonaaW.PrintLast Go.Proofs.YtcaanbicgpfonaaW.PrintMore
attribute [local go_sem] max2_int min2_int max_two min_two max_three min_three max_four min_four   -- for this text's walks alone
set_option linter.unusedVariables false
set_option linter.unusedSimpArgs false

def inSpan (a : Int) (s : S53) : Bool := decide (s.f0 ≤ a) && decide (a < s.f1)
def timing_Scratch.f (l0 : List S53) (a1 : Int) : Option Bool := some (l0.any (inSpan a1))

set_option maxHeartbeats 2000000 in
theorem Scratch1.calls (W : World) (B : Nat) (q : Int) (x : S53) (hB : W.heap[B]? = some (.cells #[.int .i64 q] 3 (0, 0))) :
    Calls Try.prog 35 #[.agg #[.int .i64 x.f0, .int .i64 x.f1], .pointer (some ⟨B, 0, none⟩)] W fun e w' => e = .returned (.bool (inSpan q x)) ∧ Below W.heap.size W w' := by
  have hu53 := Try.underlying53
  have HB := Aside0.mk (Below.refl W.heap.size W)
  have HBK := Aside0.mk hB
  clear hB
  by_cases h1 : x.f0 ≤ q
  · have h2 := Aside0.mk (show inSpan q x = decide (q < x.f1) by unfold inSpan; rw [decide_eq_true h1, Bool.true_and])
    go_enter Try.func35, Try.ntmps35
    go_wp2_with (first | ((with_reducible refine gate_dst (N := 2) rfl ?_); refine box_event ?hg (N := 2) ?hd (cs := #[.int .i64 x.f0, .int .i64 x.f1]) (t := 53) ?hr ?_; (case hd => rfl); (case hg => rfl); (case hr => first | (go_simp; done) | (go_simp; rfl)); intro gb hg w2 hbox hb; have n0_ := Aside0.mk (below_step HB.out hb); have hc0 : w2.cell? ⟨gb, 0, none⟩ = some (.int .i64 x.f0) := (blk_cell hbox 0).trans rfl; have hc1 : w2.cell? ⟨gb, 1, none⟩ = some (.int .i64 x.f1) := (blk_cell hbox 1).trans rfl; have hcq : w2.cell? ⟨B, 0, none⟩ = some (.int .i64 q) := (blk_cell (blk_below HBK.out hb) 0).trans rfl; clear HB; have HB := n0_; clear n0_ hb hbox hg) | fail)
    go_ret
    exact ⟨by rw [h2.out]; rfl, HB.out⟩
  · have h2 := Aside0.mk (show inSpan q x = false by unfold inSpan; rw [decide_eq_false h1, Bool.false_and])
    go_enter Try.func35, Try.ntmps35
    go_wp2_with (first | ((with_reducible refine gate_dst (N := 2) rfl ?_); refine box_event ?hg (N := 2) ?hd (cs := #[.int .i64 x.f0, .int .i64 x.f1]) (t := 53) ?hr ?_; (case hd => rfl); (case hg => rfl); (case hr => first | (go_simp; done) | (go_simp; rfl)); intro gb hg w2 hbox hb; have n0_ := Aside0.mk (below_step HB.out hb); have hc0 : w2.cell? ⟨gb, 0, none⟩ = some (.int .i64 x.f0) := (blk_cell hbox 0).trans rfl; have hc1 : w2.cell? ⟨gb, 1, none⟩ = some (.int .i64 x.f1) := (blk_cell hbox 1).trans rfl; have hcq : w2.cell? ⟨B, 0, none⟩ = some (.int .i64 q) := (blk_cell (blk_below HBK.out hb) 0).trans rfl; clear HB; have HB := n0_; clear n0_ hb hbox hg) | fail)
    go_ret
    exact ⟨by rw [h2.out]; rfl, HB.out⟩

set_option maxHeartbeats 2000000 in
theorem timing_Scratch.calls (A0 : Option Addr) (c0 : Nat) (l0 : List S53) (a1 : Int) (r : Bool) (w : World) (hr0 : Kd.C k53 w A0 l0.length l0) (hc0 : l0.length ≤ c0) (h : timing_Scratch.f l0 a1 = some r) :
    Calls Try.prog 26 #[.slice A0 l0.length c0, .int .i64 a1] w fun e w' => e = .returned (.bool r) ∧ Below w.heap.size w w' := by
  obtain rfl := Option.some.inj h
  have HR0 := Aside0.mk hr0
  have hm0 : l0.length ≤ 9223372036854775807 := hr0.2.1
  have HB := Aside0.mk (Below.refl w.heap.size w)
  clear hr0 h
  go_enter Try.func26, Try.ntmps26
  go_wp2_with (first | ((with_reducible refine gate_dst (N := 3) rfl ?_); refine box_event ?hg (N := 3) ?hd (cs := #[.int .i64 a1]) (t := 3) ?hr ?_; (case hd => rfl); (case hg => rfl); (case hr => first | (go_simp; done) | (go_simp; rfl)); intro gb hg w2 hbox hb; have n0_ := Aside0.mk (below_step HB.out hb); have BK := Aside0.mk hbox; clear HB; have HB := n0_; clear n0_ hb hbox hg) | fail)
  refine (ContainsFunc34.calls (P := inSpan a1) 35 #[.pointer (some ⟨gb, 0, none⟩)] (entersF 35 Try.func35 (by kernel_rfl) rfl) A0 c0 l0 w2 (Kd.C_below HR0.out HB.out) hm0 (fun W x hW => Scratch1.calls W gb a1 x (blk_below BK.out hW))).mono ?_
  rintro e w3 ⟨rfl, hb⟩
  replace HB := Aside0.mk (below_step HB.out hb)
  clear hb
  go_wp2_with fail
  go_ret
  exact ⟨rfl, HB.out⟩

end Go.Proofs.Ytcaanbicgpfonaa.PPl
