-- printed by wip/tools/print2.sh (the kit's print, with given texts of this repo); not trusted: Lean checks it
import Derived.Test.YtgpdnfhmmeaoeaaPBtx0
import Derived.Test.YtgpdnfhmmeaoeaaPBtx5
import Derived.Test.YtgpdnfhmmeaoeaaPBtx6
import Derived.Test.YtgpdnfhmmeaoeaaPBtx7
namespace Go.Proofs.Ytgpdnfhmmeaoeaa.PBt
open Go.RowKit Go.Proofs.YtgpdnfhmmeaoeaaW.PrintWords Go.Proofs.YtgpdnfhmmeaoeaaW.PrintLast Go.Proofs.YtgpdnfhmmeaoeaaW.PrintMore
attribute [local go_sem] max2_int min2_int max_two min_two max_three min_three max_four min_four   -- for this text's walks alone
set_option linter.unusedVariables false
set_option linter.unusedSimpArgs false

def beforeP (l : List S48) (i j : Int) : Bool := decide ((0 ≤ i ∧ i < l.length) ∧ (0 ≤ j ∧ j < l.length) ∧ ((rd_T48 l j).f3 < (rd_T48 l i).f3 ∨ (rd_T48 l i).f3 = (rd_T48 l j).f3 ∧ i < j))
theorem before_is (l : List S48) (i j : Int) (h : l.length ≤ 9223372036854775807) : blocking_Before.f l i j = some (beforeP l i j) := by
  unfold blocking_Before.f blocking_within.f
  rw [show wrap64 ((l.length : Int) - 1) = (l.length : Int) - 1 by unfold wrap64; omega]
  by_cases hi : 0 ≤ i ∧ i < (l.length : Int)
  · by_cases hj : 0 ≤ j ∧ j < (l.length : Int)
    · rw [if_pos hi.1]; simp only [Option.bind_some]; rw [decide_eq_true (show i ≤ (l.length : Int) - 1 by omega), if_pos rfl, if_pos hj.1]; simp only [Option.bind_some]
      rw [decide_eq_true (show j ≤ (l.length : Int) - 1 by omega), if_pos rfl, if_pos hi.1, if_pos hi.2, if_pos hj.1, if_pos hj.2]
      by_cases h1 : (rd_T48 l i).f3 > (rd_T48 l j).f3
      · rw [if_pos h1]
        exact congrArg some (decide_eq_true ⟨hi, hj, .inl h1⟩).symm
      · rw [if_neg h1]
        by_cases h2 : (rd_T48 l i).f3 = (rd_T48 l j).f3
        · rw [if_pos h2]
          refine congrArg some ?_
          unfold beforeP
          by_cases h3 : i < j
          · rw [decide_eq_true h3, decide_eq_true ⟨hi, hj, .inr ⟨h2, h3⟩⟩]
          · rw [decide_eq_false h3, decide_eq_false (by rintro ⟨_, _, h | h⟩; exact h1 h; exact h3 h.2)]
        · rw [if_neg h2]
          exact congrArg some (decide_eq_false (by rintro ⟨_, _, h | h⟩; exact h1 h; exact h2 h.1)).symm
    · rw [if_pos hi.1]; simp only [Option.bind_some]; rw [decide_eq_true (show i ≤ (l.length : Int) - 1 by omega), if_pos rfl]
      have hb : beforeP l i j = false := decide_eq_false (fun h => hj h.2.1)
      rw [hb]
      by_cases h3 : j ≥ 0
      · rw [if_pos h3]; simp only [Option.bind_some]; rw [decide_eq_false (show ¬ j ≤ (l.length : Int) - 1 by omega)]; rfl
      · rw [if_neg h3]; rfl
  · have hb : beforeP l i j = false := decide_eq_false (fun h => hi h.1)
    rw [hb]
    by_cases h1 : i ≥ 0
    · rw [if_pos h1]; simp only [Option.bind_some]; rw [decide_eq_false (show ¬ i ≤ (l.length : Int) - 1 by omega)]; rfl
    · rw [if_neg h1]; rfl
def usesP (x : S48) (q : Int) : Bool := x.f5.any fun h => h.f0 == q
def ceilP (l : List S48) (q : Int) : Nat → Nat × Bool
  | 0 => (0, false)
  | k + 1 => if (usesP (l.getD k z48) q && (!(ceilP l q k).2 || beforeP l k (ceilP l q k).1)) = true then (k, true) else ceilP l q k
def blocking_Ceiling.f (l : List S48) (q : Int) : Option (Int × Bool) := some (((ceilP l q l.length).1 : Int), (ceilP l q l.length).2)

set_option maxHeartbeats 2000000 in
theorem Ceiling1.calls (W : World) (B : Nat) (q : Int) (x : S50) (hB : W.heap[B]? = some (.cells #[.int .i64 q] 3 (0, 0))) :
    Calls Try.prog 38 #[.agg #[.int .i64 x.f0, .int .i64 x.f1], .pointer (some ⟨B, 0, none⟩)] W fun e w' => e = .returned (.bool (x.f0 == q)) ∧ Below W.heap.size W w' := by
  have hu50 := Try.underlying50
  have HB := Aside0.mk (Below.refl W.heap.size W)
  have HBK := Aside0.mk hB
  clear hB
  go_enter Try.func38, Try.ntmps38
  go_wp2_with (first | ((with_reducible refine gate_dst (N := 2) rfl ?_); refine box_event ?hg (N := 2) ?hd (cs := #[.int .i64 x.f0, .int .i64 x.f1]) (t := 50) ?hr ?_; (case hd => rfl); (case hg => rfl); (case hr => first | (go_simp; done) | (go_simp; rfl)); intro gb hg w2 hbox hb; have n0_ := Aside0.mk (below_step HB.out hb); have hc0 : w2.cell? ⟨gb, 0, none⟩ = some (.int .i64 x.f0) := (blk_cell hbox 0).trans rfl; have hcq : w2.cell? ⟨B, 0, none⟩ = some (.int .i64 q) := (blk_cell (blk_below HBK.out hb) 0).trans rfl; clear HB; have HB := n0_; clear n0_ hb hbox hg) | fail)
  go_ret
  exact ⟨rfl, HB.out⟩

set_option maxHeartbeats 4000000 in
set_option maxRecDepth 100000 in
theorem blocking_Ceiling.calls (A0 : Option Addr) (c0 : Nat) (l0 : List S48) (a1 : Int) (r1 : Int) (r2 : Bool) (w : World) (hr0 : Kd.C k48 w A0 l0.length l0) (hc0 : l0.length ≤ c0) (h : blocking_Ceiling.f l0 a1 = some (r1, r2)) :
    Calls Try.prog 21 #[.slice A0 l0.length c0, .int .i64 a1] w fun e w' => e = .returned (.tuple #[.int .i64 r1, .bool r2]) ∧ Below w.heap.size w w' := by
  have hu48 := Try.underlying48
  have hu50 := Try.underlying50
  have HR0 := Aside0.mk hr0
  have HC0 := Aside0.mk hc0
  have hm0 : l0.length ≤ 9223372036854775807 := hr0.2.1
  have HH := Aside0.mk h
  clear hr0 hc0 h
  have HB := Aside0.mk (Below.refl w.heap.size w)
  go_enter Try.func21, Try.ntmps21
  go_wp2_with (first | ((with_reducible refine gate_dst (N := 3) rfl ?_); refine box_event ?hg (N := 3) ?hd (cs := #[.int .i64 a1]) (t := 3) ?hr ?_; (case hd => rfl); (case hg => rfl); (case hr => first | (go_simp; done) | (go_simp; rfl)); intro gb hg w2 hbox hb; have n0_ := Aside0.mk (below_step HB.out hb); have BK := Aside0.mk hbox; clear HB; have HB := n0_; clear n0_ hb hbox hg) | fail)
  go_loopg [6, 7, 12] l0.length (fun gg s6 s7 s12 wr => ∃ kk : Nat, kk ≤ l0.length ∧ l0.length - kk ≤ gg ∧ s12 = .int .i64 kk ∧ s6 = .int .i64 ((ceilP l0 a1 kk).1 : Int) ∧ s7 = .bool (ceilP l0 a1 kk).2 ∧ Aside0 (Below w.heap.size w wr) ∧ Aside0 (wr.heap[gb]? = some (.cells #[.int .i64 a1] 3 (0, 0))))
  case atStart => exact ⟨0, Nat.zero_le _, by omega, rfl, rfl, rfl, HB, BK⟩
  case round =>
    clear BK HB
    obtain ⟨kk, hkk, hg, rfl, rfl, rfl, HB, BK⟩ := hrel
    by_cases hlt : kk < l0.length
    · have hltz : (kk : Int) < (l0.length : Int) := by omega
      have HS := Aside0.mk (show ceilP l0 a1 (kk + 1) = if (usesP (l0.getD kk z48) a1 && (!(ceilP l0 a1 kk).2 || beforeP l0 kk (ceilP l0 a1 kk).1)) = true then (kk, true) else ceilP l0 a1 kk from rfl)
      generalize ceilP l0 a1 kk = cp at HS
      obtain ⟨first_, found⟩ := cp
      obtain ⟨ad, A5, c5, rfl, hx0, hx1, hx2, hx3, hx4, hx5, hx6, hl5, hg5⟩ := at_T48 HR0.out (kk : Int) (by omega) hltz
      replace hx0 := (HB.out.cell (World.block_lt_of_cell? w _ hx0)).trans hx0
      replace hx1 := (HB.out.cell (World.block_lt_of_cell? w _ hx1)).trans hx1
      replace hx2 := (HB.out.cell (World.block_lt_of_cell? w _ hx2)).trans hx2
      replace hx3 := (HB.out.cell (World.block_lt_of_cell? w _ hx3)).trans hx3
      replace hx4 := (HB.out.cell (World.block_lt_of_cell? w _ hx4)).trans hx4
      replace hx5 := (HB.out.cell (World.block_lt_of_cell? w _ hx5)).trans hx5
      replace hx6 := (HB.out.cell (World.block_lt_of_cell? w _ hx6)).trans hx6
      have HG5 := Aside0.mk (Kd.C_below hg5 HB.out)
      have hm5 := hg5.2.1
      have HBF := Aside0.mk (before_is l0 kk first_ hm0)
      have hy : l0.getD kk z48 = rd_T48 l0 kk := rfl
      rw [hy] at HS
      clear hg5 hy
      simp only [Int.toNat_natCast] at hx0 hx1 hx2 hx3 hx4 hx5 hx6
      generalize rd_T48 l0 kk = y at hx0 hx1 hx2 hx3 hx4 hx5 hx6 HS HG5 hm5 hl5
      have HL5 := Aside0.mk hl5
      clear hl5
      go_wp2_with fail
      have HB1 := Aside0.mk (HB.out.alloc HB.out.size (.cells #[.int .i64 y.f0, .int .i64 y.f1, .int .i64 y.f2, .int .i64 y.f3, .int .i64 y.f4, .slice A5 y.f5.length c5, .int .i64 y.f6] 48))
      have BK1 := Aside0.mk (blk_alloc BK.out (.cells #[.int .i64 y.f0, .int .i64 y.f1, .int .i64 y.f2, .int .i64 y.f3, .int .i64 y.f4, .slice A5 y.f5.length c5, .int .i64 y.f6] 48))
      have HG6 := Aside0.mk (Kd.C_below HG5.out (below_alloc (Below.refl wr.heap.size wr) (.cells #[.int .i64 y.f0, .int .i64 y.f1, .int .i64 y.f2, .int .i64 y.f3, .int .i64 y.f4, .slice A5 y.f5.length c5, .int .i64 y.f6] 48)))
      refine (ContainsFunc35.calls (P := fun h => h.f0 == a1) 38 #[.pointer (some ⟨gb, 0, none⟩)] (entersF 38 Try.func38 (by kernel_rfl) rfl) A5 c5 y.f5 _ HG6.out hm5 (fun W x hb => Ceiling1.calls W gb a1 x (blk_below BK1.out hb))).mono ?_
      rintro e w4 ⟨rfl, hb4⟩
      have HB4 := Aside0.mk (below_step HB1.out hb4)
      have BK4 := Aside0.mk (blk_below BK1.out hb4)
      have HRW := Aside0.mk (Kd.C_below HR0.out HB4.out)
      clear hb4 HB1 BK1 HG5 HG6 HB BK hx0 hx1 hx2 hx3 hx4 hx5 hx6 HL5
      have HU := Aside0.mk (show usesP y a1 = y.f5.any (fun h => h.f0 == a1) from rfl)
      generalize y.f5.any (fun h => h.f0 == a1) = u at HU ⊢
      cases u with
      | false =>
        go_wp2_with fail
        go_roundg (l0.length - (kk + 1))
        case measure => omega
        case rel =>
          have e1 : ceilP l0 a1 (kk + 1) = (first_, found) := by rw [HS.out, HU.out]; rfl
          exact ⟨kk + 1, by omega, by omega, by go_num, by rw [e1], by rw [e1], HB4, BK4⟩
      | true =>
        cases found with
        | false =>
          go_wp2_with fail
          go_roundg (l0.length - (kk + 1))
          case measure => omega
          case rel =>
            have e1 : ceilP l0 a1 (kk + 1) = (kk, true) := by rw [HS.out, HU.out]; rfl
            exact ⟨kk + 1, by omega, by omega, by go_num, by rw [e1], by rw [e1], HB4, BK4⟩
        | true =>
          go_wp2_with fail
          refine (blocking_Before.calls _ _ l0 _ _ _ w4 HRW.out HC0.out HBF.out).mono ?_
          rintro e w5 ⟨rfl, hd5⟩
          have HB5 := Aside0.mk (below_step HB4.out hd5.below)
          have BK5 := Aside0.mk (blk_below BK4.out hd5.below)
          clear hd5 HB4 BK4 HRW HBF
          generalize hbf : beforeP l0 kk first_ = bf at HS ⊢
          clear hbf
          cases bf with
          | true =>
            go_wp2_with fail
            go_roundg (l0.length - (kk + 1))
            case measure => omega
            case rel =>
              have e1 : ceilP l0 a1 (kk + 1) = (kk, true) := by rw [HS.out, HU.out]; rfl
              exact ⟨kk + 1, by omega, by omega, by go_num, by rw [e1], by rw [e1], HB5, BK5⟩
          | false =>
            go_wp2_with fail
            go_roundg (l0.length - (kk + 1))
            case measure => omega
            case rel =>
              have e1 : ceilP l0 a1 (kk + 1) = (first_, true) := by rw [HS.out, HU.out]; rfl
              exact ⟨kk + 1, by omega, by omega, by go_num, by rw [e1], by rw [e1], HB5, BK5⟩
    · have : kk = l0.length := by omega
      subst this
      have hltz : ¬ (l0.length : Int) < (l0.length : Int) := by omega
      go_wp2_with fail
      go_ret2
      have e1 := HH.out
      unfold blocking_Ceiling.f at e1
      injection e1 with e1
      injection e1 with e1 e2
      exact ⟨by rw [← e1, ← e2]; rfl, HB.out⟩

end Go.Proofs.Ytgpdnfhmmeaoeaa.PBt
