/- heaviest.forward's second pass over the unit. -/
import Derived.Test.YtbeochkimihglaaH5
import Derived.Outline
namespace Go.Proofs.Ytbeochkimihglaa.PHl
open Go.RowKit Go.Proofs.YtbeochkimihglaaW.PrintWords Go.Proofs.YtbeochkimihglaaW.PrintLast Go.Proofs.YtbeochkimihglaaW.PrintMore
set_option linter.unusedVariables false
set_option linter.unusedSimpArgs false
/-- .. with what is to be done, whose block is none of the elder ones. -/
def GSt (w0 : World) (bn bl n0 n1 n2 ln : Nat) (mx : Int) (bu br B bv lb bt b0 : Nat) (ls : Array Value) (v : Value) (xs : List Int) (W : World) : Prop :=
  FSt w0 bn bl n0 n1 n2 ln mx bu br B bv lb ls W ∧ Blk W bt #[v] 29 ∧ Kd.R (Kd.int .i64) 3 W b0 (fun _ => True) v xs
/-- Where the blocks lie. -/
def Near (w0 : World) (bn bl n0 n1 n2 ln bu br B bv lb bt b0 : Nat) : Prop :=
  Far w0 bn bl n0 n1 n2 ln lb ∧ (bn < b0 ∧ bl < b0 ∧ n0 < b0 ∧ n1 < b0 ∧ n2 < b0 ∧ ln < b0) ∧ (bu < b0 ∧ br < b0 ∧ B < b0 ∧ bv < b0 ∧ lb < b0 ∧ bt < b0) ∧ w0.heap.size ≤ bt ∧ w0.heap.size ≤ b0 ∧ (bn ≠ bt ∧ bl ≠ bt ∧ n0 ≠ bt ∧ n1 ≠ bt ∧ n2 ≠ bt ∧ ln ≠ bt) ∧ bv ≠ bt
section
variable {w0 W W' : World} {bn bl n0 n1 n2 ln bu br B bv lb bt b0 : Nat} {mx : Int} {ls : Array Value} {v v' : Value} {xs xs' : List Int}
theorem R_move1 {b : Nat} (h : Kd.R (Kd.int .i64) 3 W b0 (fun _ => True) v xs) (hb : b < b0) (j : Nat) (u : Value) : Kd.R (Kd.int .i64) 3 (W.setCell ⟨b, j, none⟩ u) b0 (fun _ => True) v xs := by
  obtain ⟨a0, inner, ho, hr⟩ := h
  exact ⟨a0, inner, own_move ho (fun k hk => Below.heap_setCell W ⟨b, j, none⟩ u k (by have := own_base ho k hk; simp; omega)), hr.imp_ (fun _ _ hp => hp)⟩
theorem GSt.below (h : GSt w0 bn bl n0 n1 n2 ln mx bu br B bv lb bt b0 ls v xs W) (hb : Below W.heap.size W W') : GSt w0 bn bl n0 n1 n2 ln mx bu br B bv lb bt b0 ls v xs W' :=
  ⟨h.1.below hb, blk_below h.2.1 hb, Kd.R_below h.2.2 hb⟩
theorem GSt.set (h : GSt w0 bn bl n0 n1 n2 ln mx bu br B bv lb bt b0 ls v xs W) (hf : Near w0 bn bl n0 n1 n2 ln bu br B bv lb bt b0) (j : Nat) (u : Value) : GSt w0 bn bl n0 n1 n2 ln mx bu br B bv lb bt b0 (ls.setIfInBounds j u) v xs (W.setCell ⟨lb, j, none⟩ u) :=
  ⟨h.1.set hf.1 j u, blk_far h.2.1 (blk_ne h.2.1 h.1.2.2.2.2.2.1 (by decide)) u, R_move1 h.2.2 hf.2.2.1.2.2.2.2.1 j u⟩
/-- The list is another one now, elsewhere; the elder blocks stay. -/
theorem GSt.app {w1 : World} (h : GSt w0 bn bl n0 n1 n2 ln mx bu br B bv lb bt b0 ls v xs W) (hf : Near w0 bn bl n0 n1 n2 ln bu br B bv lb bt b0) (hR : Kd.R (Kd.int .i64) 3 w1 b0 (fun _ => True) v' xs') (hb : Below b0 W w1) : GSt w0 bn bl n0 n1 n2 ln mx bu br B bv lb bt b0 ls v' xs' (w1.setCell ⟨bt, 0, none⟩ v') := by
  obtain ⟨⟨a1, a2, a3, a4, a5, a6, a7⟩, h2, h3⟩ := h
  obtain ⟨hfar, hu, hb6, hbt, hb0, hubt, hvt⟩ := hf
  have far : ∀ {b : Nat} {cs : Array Value} {t : TypeId}, Blk W b cs t → b < b0 → b ≠ bt → Blk (w1.setCell ⟨bt, 0, none⟩ v') b cs t := fun {b cs t} hh hlt hne => blk_far ((hb.block b hlt).trans hh) hne v'
  refine ⟨⟨⟨far a1.1 hu.1 hubt.1, far a1.2.1 hu.2.1 hubt.2.1, far a1.2.2.1 hu.2.2.1 hubt.2.2.1, far a1.2.2.2.1 hu.2.2.2.1 hubt.2.2.2.1, far a1.2.2.2.2.1 hu.2.2.2.2.1 hubt.2.2.2.2.1, far a1.2.2.2.2.2 hu.2.2.2.2.2 hubt.2.2.2.2.2⟩,
    far a2 hb6.1 (blk_ne a2 h2 (by decide)), far a3 hb6.2.1 (blk_ne a3 h2 (by decide)), far a4 hb6.2.2.1 (blk_ne a4 h2 (by decide)), far a5 hb6.2.2.2.1 hvt, far a6 hb6.2.2.2.2.1 (blk_ne a6 h2 (by decide)), below_set ((Below.trans a7 (hb.mono hb0))) hbt⟩, ?_, R_move1 hR hb6.2.2.2.2.2 0 v'⟩
  have := blk_set ((hb.block bt hb6.2.2.2.2.2).trans h2) 0 v'
  simpa using this
end
set_option maxHeartbeats 8000000 in
set_option maxRecDepth 100000 in
theorem dec_1 (w0 : World) (bn bl n0 n1 n2 ln : Nat) (mx : Int) (bu br B bv lb bt b0 : Nat) (hf : Near w0 bn bl n0 n1 n2 ln bu br B bv lb bt b0) (ls : Array Value) (hls : ls[1]? = some (.int .i64 1)) (A : Option Addr) (c : Nat) (xs : List Int) (hx : xs.length ≤ 10) (w : World) (hS : GSt w0 bn bl n0 n1 n2 ln mx bu br B bv lb bt b0 ls (.slice A xs.length c) xs w) (hb0 : b0 ≤ w.heap.size) :
    Calls Try.prog 42 #[.int .i64 1, .pointer (some ⟨bv, 0, none⟩), .pointer (some ⟨bt, 0, none⟩)] w fun e w' => e = .returned (.tuple #[]) ∧ b0 ≤ w'.heap.size ∧ ∃ g c', GSt w0 bn bl n0 n1 n2 ln mx bu br B bv lb bt b0 (ls.setIfInBounds 1 (.int .i64 0)) (.slice (some ⟨g, 0, none⟩) (xs.length + 1) c') (xs ++ [1]) w' := by
  have HS := Aside0.mk hS
  have HF := Aside0.mk hf
  have HB0 := Aside0.mk hb0
  have hv : w.cell? ⟨bv, 0, none⟩ = some (.slice (some ⟨lb, 0, none⟩) 4 4) := blk_cell hS.1.2.2.2.2.1 0
  have hz : w.cell? ⟨lb, 1, none⟩ = some (.int .i64 1) := (blk_cell hS.1.2.2.2.2.2.1 1).trans hls
  have hfz := blk_frozen hS.1.2.2.2.2.2.1 1
  have hft := blk_frozen hS.2.1 0
  clear hS hf hb0
  go_enter Try.func42, Try.ntmps42
  go_upto_region 1 with (fail)
  clear hv hz hfz hft
  replace HS := Aside0.mk (GSt.set HS.out HF.out 1 (.int .i64 0))
  replace HB0 : Aside0 (b0 ≤ (w.setCell ⟨lb, 1, none⟩ (.int .i64 0)).heap.size) := ⟨by simpa using HB0.out⟩
  generalize w.setCell ⟨lb, 1, none⟩ (.int .i64 0) = ws at HS HB0 ⊢
  have hlt : 1 < ls.size := (Array.getElem?_eq_some_iff.1 hls).1
  have HLS : Aside0 ((ls.setIfInBounds 1 (.int .i64 0))[1]? = some (.int .i64 0)) := ⟨by simp [hlt]⟩
  clear hls hlt
  have hv : ws.cell? ⟨bv, 0, none⟩ = some (.slice (some ⟨lb, 0, none⟩) 4 4) := blk_cell HS.out.1.2.2.2.2.1 0
  have hz : ws.cell? ⟨lb, 1, none⟩ = some (.int .i64 0) := (blk_cell HS.out.1.2.2.2.2.2.1 1).trans HLS.out
  have ht : ws.cell? ⟨bt, 0, none⟩ = some (.slice A xs.length c) := blk_cell HS.out.2.1 0
  generalize hlx : xs.length = lx at HS ht hx ⊢
  have HLX := Aside0.mk hlx
  clear hlx
  go_wp2_with (first | (at_builtin; refine Kd.R_append (Kd.int .i64) (w0 := ws) b0 rfl (.tmp 15) (.tmp 17) 29 3 (.int .i64 0) 8 rfl Try.underlying29 info3 rfl (by decide) (by omega) (.slice A lx c) xs 1 [.int .i64 1] (fun _ => True) (fun _ => False) rfl rfl ?aP (fun _ hk => hk.elim) ?aF ?aO ?aB ?aS ?aL ?_; (case aP => exact rfl); (case aF => exact (fun _ _ => trivial)); (case aO => exact HS.out.2.2); (case aB => exact Below.refl _ _); (case aS => exact HB0.out); (case aL => (have := HLX.out; omega)); intro va w2 ho hb hgr hat; obtain ⟨gq, cq, hva, _⟩ := Kd.R_form ho (by simp); (have hva2 : va = .slice (some ⟨gq, 0, none⟩) (lx + 1) cq := by (rw [hva]; simp [HLX.out])); subst hva2; have HO := Aside0.mk ho; have HB := Aside0.mk hb; have HBT := Aside0.mk ((hb.block bt HF.out.2.2.1.2.2.2.2.2).trans HS.out.2.1); have hbt : w2.cell? ⟨bt, 0, none⟩ = some (.slice A lx c) := blk_cell HBT.out 0; have hbf := blk_frozen HBT.out 0; have HSZ : Aside0 (b0 ≤ w2.heap.size) := ⟨Nat.le_trans HB0.out hb.size⟩; clear ho hb hgr hat hva) | fail)
  go_end0
  refine ⟨rfl, by simpa using HSZ.out, gq, cq, ?_⟩
  rw [HLX.out]
  exact GSt.app HS.out HF.out HO.out HB.out
set_option maxHeartbeats 8000000 in
set_option maxRecDepth 100000 in
theorem dec_2 (w0 : World) (bn bl n0 n1 n2 ln : Nat) (mx : Int) (bu br B bv lb bt b0 : Nat) (hf : Near w0 bn bl n0 n1 n2 ln bu br B bv lb bt b0) (ls : Array Value) (hls : ls[2]? = some (.int .i64 1)) (A : Option Addr) (c : Nat) (xs : List Int) (hx : xs.length ≤ 10) (w : World) (hS : GSt w0 bn bl n0 n1 n2 ln mx bu br B bv lb bt b0 ls (.slice A xs.length c) xs w) (hb0 : b0 ≤ w.heap.size) :
    Calls Try.prog 42 #[.int .i64 2, .pointer (some ⟨bv, 0, none⟩), .pointer (some ⟨bt, 0, none⟩)] w fun e w' => e = .returned (.tuple #[]) ∧ b0 ≤ w'.heap.size ∧ ∃ g c', GSt w0 bn bl n0 n1 n2 ln mx bu br B bv lb bt b0 (ls.setIfInBounds 2 (.int .i64 0)) (.slice (some ⟨g, 0, none⟩) (xs.length + 1) c') (xs ++ [2]) w' := by
  have HS := Aside0.mk hS
  have HF := Aside0.mk hf
  have HB0 := Aside0.mk hb0
  have hv : w.cell? ⟨bv, 0, none⟩ = some (.slice (some ⟨lb, 0, none⟩) 4 4) := blk_cell hS.1.2.2.2.2.1 0
  have hz : w.cell? ⟨lb, 2, none⟩ = some (.int .i64 1) := (blk_cell hS.1.2.2.2.2.2.1 2).trans hls
  have hfz := blk_frozen hS.1.2.2.2.2.2.1 2
  have hft := blk_frozen hS.2.1 0
  clear hS hf hb0
  go_enter Try.func42, Try.ntmps42
  go_upto_region 1 with (fail)
  clear hv hz hfz hft
  replace HS := Aside0.mk (GSt.set HS.out HF.out 2 (.int .i64 0))
  replace HB0 : Aside0 (b0 ≤ (w.setCell ⟨lb, 2, none⟩ (.int .i64 0)).heap.size) := ⟨by simpa using HB0.out⟩
  generalize w.setCell ⟨lb, 2, none⟩ (.int .i64 0) = ws at HS HB0 ⊢
  have hlt : 2 < ls.size := (Array.getElem?_eq_some_iff.1 hls).1
  have HLS : Aside0 ((ls.setIfInBounds 2 (.int .i64 0))[2]? = some (.int .i64 0)) := ⟨by simp [hlt]⟩
  clear hls hlt
  have hv : ws.cell? ⟨bv, 0, none⟩ = some (.slice (some ⟨lb, 0, none⟩) 4 4) := blk_cell HS.out.1.2.2.2.2.1 0
  have hz : ws.cell? ⟨lb, 2, none⟩ = some (.int .i64 0) := (blk_cell HS.out.1.2.2.2.2.2.1 2).trans HLS.out
  have ht : ws.cell? ⟨bt, 0, none⟩ = some (.slice A xs.length c) := blk_cell HS.out.2.1 0
  generalize hlx : xs.length = lx at HS ht hx ⊢
  have HLX := Aside0.mk hlx
  clear hlx
  go_wp2_with (first | (at_builtin; refine Kd.R_append (Kd.int .i64) (w0 := ws) b0 rfl (.tmp 15) (.tmp 17) 29 3 (.int .i64 0) 8 rfl Try.underlying29 info3 rfl (by decide) (by omega) (.slice A lx c) xs 2 [.int .i64 2] (fun _ => True) (fun _ => False) rfl rfl ?aP (fun _ hk => hk.elim) ?aF ?aO ?aB ?aS ?aL ?_; (case aP => exact rfl); (case aF => exact (fun _ _ => trivial)); (case aO => exact HS.out.2.2); (case aB => exact Below.refl _ _); (case aS => exact HB0.out); (case aL => (have := HLX.out; omega)); intro va w2 ho hb hgr hat; obtain ⟨gq, cq, hva, _⟩ := Kd.R_form ho (by simp); (have hva2 : va = .slice (some ⟨gq, 0, none⟩) (lx + 1) cq := by (rw [hva]; simp [HLX.out])); subst hva2; have HO := Aside0.mk ho; have HB := Aside0.mk hb; have HBT := Aside0.mk ((hb.block bt HF.out.2.2.1.2.2.2.2.2).trans HS.out.2.1); have hbt : w2.cell? ⟨bt, 0, none⟩ = some (.slice A lx c) := blk_cell HBT.out 0; have hbf := blk_frozen HBT.out 0; have HSZ : Aside0 (b0 ≤ w2.heap.size) := ⟨Nat.le_trans HB0.out hb.size⟩; clear ho hb hgr hat hva) | fail)
  go_end0
  refine ⟨rfl, by simpa using HSZ.out, gq, cq, ?_⟩
  rw [HLX.out]
  exact GSt.app HS.out HF.out HO.out HB.out
set_option maxHeartbeats 8000000 in
set_option maxRecDepth 100000 in
theorem dec_3 (w0 : World) (bn bl n0 n1 n2 ln : Nat) (mx : Int) (bu br B bv lb bt b0 : Nat) (hf : Near w0 bn bl n0 n1 n2 ln bu br B bv lb bt b0) (ls : Array Value) (hls : ls[3]? = some (.int .i64 1)) (A : Option Addr) (c : Nat) (xs : List Int) (hx : xs.length ≤ 10) (w : World) (hS : GSt w0 bn bl n0 n1 n2 ln mx bu br B bv lb bt b0 ls (.slice A xs.length c) xs w) (hb0 : b0 ≤ w.heap.size) :
    Calls Try.prog 42 #[.int .i64 3, .pointer (some ⟨bv, 0, none⟩), .pointer (some ⟨bt, 0, none⟩)] w fun e w' => e = .returned (.tuple #[]) ∧ b0 ≤ w'.heap.size ∧ ∃ g c', GSt w0 bn bl n0 n1 n2 ln mx bu br B bv lb bt b0 (ls.setIfInBounds 3 (.int .i64 0)) (.slice (some ⟨g, 0, none⟩) (xs.length + 1) c') (xs ++ [3]) w' := by
  have HS := Aside0.mk hS
  have HF := Aside0.mk hf
  have HB0 := Aside0.mk hb0
  have hv : w.cell? ⟨bv, 0, none⟩ = some (.slice (some ⟨lb, 0, none⟩) 4 4) := blk_cell hS.1.2.2.2.2.1 0
  have hz : w.cell? ⟨lb, 3, none⟩ = some (.int .i64 1) := (blk_cell hS.1.2.2.2.2.2.1 3).trans hls
  have hfz := blk_frozen hS.1.2.2.2.2.2.1 3
  have hft := blk_frozen hS.2.1 0
  clear hS hf hb0
  go_enter Try.func42, Try.ntmps42
  go_upto_region 1 with (fail)
  clear hv hz hfz hft
  replace HS := Aside0.mk (GSt.set HS.out HF.out 3 (.int .i64 0))
  replace HB0 : Aside0 (b0 ≤ (w.setCell ⟨lb, 3, none⟩ (.int .i64 0)).heap.size) := ⟨by simpa using HB0.out⟩
  generalize w.setCell ⟨lb, 3, none⟩ (.int .i64 0) = ws at HS HB0 ⊢
  have hlt : 3 < ls.size := (Array.getElem?_eq_some_iff.1 hls).1
  have HLS : Aside0 ((ls.setIfInBounds 3 (.int .i64 0))[3]? = some (.int .i64 0)) := ⟨by simp [hlt]⟩
  clear hls hlt
  have hv : ws.cell? ⟨bv, 0, none⟩ = some (.slice (some ⟨lb, 0, none⟩) 4 4) := blk_cell HS.out.1.2.2.2.2.1 0
  have hz : ws.cell? ⟨lb, 3, none⟩ = some (.int .i64 0) := (blk_cell HS.out.1.2.2.2.2.2.1 3).trans HLS.out
  have ht : ws.cell? ⟨bt, 0, none⟩ = some (.slice A xs.length c) := blk_cell HS.out.2.1 0
  generalize hlx : xs.length = lx at HS ht hx ⊢
  have HLX := Aside0.mk hlx
  clear hlx
  go_wp2_with (first | (at_builtin; refine Kd.R_append (Kd.int .i64) (w0 := ws) b0 rfl (.tmp 15) (.tmp 17) 29 3 (.int .i64 0) 8 rfl Try.underlying29 info3 rfl (by decide) (by omega) (.slice A lx c) xs 3 [.int .i64 3] (fun _ => True) (fun _ => False) rfl rfl ?aP (fun _ hk => hk.elim) ?aF ?aO ?aB ?aS ?aL ?_; (case aP => exact rfl); (case aF => exact (fun _ _ => trivial)); (case aO => exact HS.out.2.2); (case aB => exact Below.refl _ _); (case aS => exact HB0.out); (case aL => (have := HLX.out; omega)); intro va w2 ho hb hgr hat; obtain ⟨gq, cq, hva, _⟩ := Kd.R_form ho (by simp); (have hva2 : va = .slice (some ⟨gq, 0, none⟩) (lx + 1) cq := by (rw [hva]; simp [HLX.out])); subst hva2; have HO := Aside0.mk ho; have HB := Aside0.mk hb; have HBT := Aside0.mk ((hb.block bt HF.out.2.2.1.2.2.2.2.2).trans HS.out.2.1); have hbt : w2.cell? ⟨bt, 0, none⟩ = some (.slice A lx c) := blk_cell HBT.out 0; have hbf := blk_frozen HBT.out 0; have HSZ : Aside0 (b0 ≤ w2.heap.size) := ⟨Nat.le_trans HB0.out hb.size⟩; clear ho hb hgr hat hva) | fail)
  go_end0
  refine ⟨rfl, by simpa using HSZ.out, gq, cq, ?_⟩
  rw [HLX.out]
  exact GSt.app HS.out HF.out HO.out HB.out
end Go.Proofs.Ytbeochkimihglaa.PHl
