/- heaviest.forward over the unit. -/
import Derived.Test.YtbeochkimihglaaH6
import Derived.Outline
namespace Go.Proofs.Ytbeochkimihglaa.PHl
open Go.RowKit Go.Proofs.YtbeochkimihglaaW.PrintWords Go.Proofs.YtbeochkimihglaaW.PrintLast Go.Proofs.YtbeochkimihglaaW.PrintMore
set_option linter.unusedVariables false
set_option linter.unusedSimpArgs false
theorem r_elem {W : World} {base g n c : Nat} {xs : List Int} (h : Kd.R (Kd.int .i64) 3 W base (fun _ => True) (.slice (some ⟨g, 0, none⟩) n c) xs) (j : Nat) (hj : j < xs.length) : W.cell? ⟨g, j, none⟩ = some (.int .i64 (xs.getD j 0)) := by
  obtain ⟨hn, _, hC⟩ := Kd.R_reads' h
  obtain ⟨_, _, hC⟩ := hC
  obtain ⟨ad, had, hC⟩ := hC (by omega)
  obtain rfl := Option.some.inj had
  obtain ⟨q, _, k, f⟩ := hC j (xs.getD j 0) (by rw [List.getD_eq_getElem?_getD, List.getElem?_eq_getElem hj]; rfl)
  have k' : q = [.int .i64 (xs.getD j 0)] := k
  subst k'
  have := f 0 _ rfl
  rw [add_plain] at this
  simpa [Kd.int, Kd.scalar] using this
theorem blk_at3 (w : World) (A B C : Obj) : (((w.alloc A).alloc B).alloc C).heap[w.heap.size + 1 + 1]? = some C := by
  have h := heap_alloc_new ((w.alloc A).alloc B) C
  rwa [show ((w.alloc A).alloc B).heap.size = w.heap.size + 1 + 1 by simp] at h
theorem blk_at4 (w : World) (A B C D : Obj) : ((((w.alloc A).alloc B).alloc C).alloc D).heap[w.heap.size + 1 + 1 + 1]? = some D := by
  have h := heap_alloc_new (((w.alloc A).alloc B).alloc C) D
  rwa [show (((w.alloc A).alloc B).alloc C).heap.size = w.heap.size + 1 + 1 + 1 by simp] at h
set_option maxHeartbeats 8000000 in
set_option maxRecDepth 100000 in
theorem on_dec_0 (w0 : World) (bn bl n0 n1 n2 ln : Nat) (mx : Int) (bu br B bv lb bt b0 : Nat) (hf : Near w0 bn bl n0 n1 n2 ln bu br B bv lb bt b0) (A : Option Addr) (c : Nat) (w : World) (hS : GSt w0 bn bl n0 n1 n2 ln mx bu br B bv lb bt b0 #[.int .i64 0, .int .i64 1, .int .i64 1, .int .i64 1] (.slice A 0 c) [] w) (hb0 : b0 ≤ w.heap.size) :
    Calls Try.prog 39 #[.int .i64 0, .func (.func 42) #[] #[.pointer (some ⟨bv, 0, none⟩), .pointer (some ⟨bt, 0, none⟩)], .pointer (some ⟨bu, 0, none⟩), .pointer (some ⟨br, 0, none⟩)] w fun e w' =>
      e = .returned (.tuple #[]) ∧ b0 ≤ w'.heap.size ∧ ∃ g c', GSt w0 bn bl n0 n1 n2 ln mx bu br B bv lb bt b0 #[.int .i64 0, .int .i64 0, .int .i64 1, .int .i64 1] (.slice (some ⟨g, 0, none⟩) 1 c') [1] w' := by
  have hu32 := Try.underlying32
  have HS := Aside0.mk hS
  have HF := Aside0.mk hf
  have HB0 := Aside0.mk hb0
  clear hS hf hb0
  obtain ⟨hN, hL, h0, h1, h1', h2, hln, hln'⟩ := HS.out.1.1.reads
  have hbu : ∀ i, w.cell? ⟨bu, i, none⟩ = (#[.string ⟨#[]⟩, .slice (some ⟨bn, 0, none⟩) 4 4, .slice (some ⟨bl, 0, none⟩) 1 1, .slice none 0 0, .slice none 0 0, .slice none 0 0, .slice none 0 0, .slice none 0 0, .slice none 0 0, .slice none 0 0] : Array Value)[i]? := fun i => blk_cell HS.out.1.2.1 i
  have hbr : w.cell? ⟨br, 0, none⟩ = some (.slice (some ⟨B, 0, none⟩) 4 4) := blk_cell HS.out.1.2.2.1 0
  have hB : ∀ i, w.cell? ⟨B, i, none⟩ = (#[.bool true, .bool true, .bool true, .bool true] : Array Value)[i]? := fun i => blk_cell HS.out.1.2.2.2.1 i
  go_enter Try.func39, Try.ntmps39
  go_wp2_with fail
  refine wp_loop_rounds 6 ?_
  rw [rounds_succ]
  go_wp2_with fail
  refine (back_01 bn bl n0 n1 n2 ln mx _ HS.out.1.1).mono ?_
  rintro e wa1 ⟨rfl, hb⟩
  replace HS := Aside0.mk (HS.out.below hb)
  replace HB0 := Aside0.mk (Nat.le_trans HB0.out hb.size)
  clear hb
  clear hN hL h0 h1 h1' h2 hln hln' hbu hbr hB
  obtain ⟨hN, hL, h0, h1, h1', h2, hln, hln'⟩ := HS.out.1.1.reads
  have hbu : ∀ i, wa1.cell? ⟨bu, i, none⟩ = (#[.string ⟨#[]⟩, .slice (some ⟨bn, 0, none⟩) 4 4, .slice (some ⟨bl, 0, none⟩) 1 1, .slice none 0 0, .slice none 0 0, .slice none 0 0, .slice none 0 0, .slice none 0 0, .slice none 0 0, .slice none 0 0] : Array Value)[i]? := fun i => blk_cell HS.out.1.2.1 i
  have hbr : wa1.cell? ⟨br, 0, none⟩ = some (.slice (some ⟨B, 0, none⟩) 4 4) := blk_cell HS.out.1.2.2.1 0
  have hB : ∀ i, wa1.cell? ⟨B, i, none⟩ = (#[.bool true, .bool true, .bool true, .bool true] : Array Value)[i]? := fun i => blk_cell HS.out.1.2.2.2.1 i
  go_wp2_with fail
  refine (dec_1 w0 bn bl n0 n1 n2 ln mx bu br B bv lb bt b0 HF.out #[.int .i64 0, .int .i64 1, .int .i64 1, .int .i64 1] rfl (A) c [] (by decide) wa1 HS.out HB0.out).mono ?_
  rintro e wb1 ⟨rfl, hb0, gq1, cq1, hS⟩
  replace hS : GSt w0 bn bl n0 n1 n2 ln mx bu br B bv lb bt b0 #[.int .i64 0, .int .i64 0, .int .i64 1, .int .i64 1] (.slice (some ⟨gq1, 0, none⟩) 1 cq1) [1] wb1 := hS
  replace HS := Aside0.mk hS
  replace HB0 := Aside0.mk hb0
  clear hS hb0
  clear hN hL h0 h1 h1' h2 hln hln' hbu hbr hB
  obtain ⟨hN, hL, h0, h1, h1', h2, hln, hln'⟩ := HS.out.1.1.reads
  have hbu : ∀ i, wb1.cell? ⟨bu, i, none⟩ = (#[.string ⟨#[]⟩, .slice (some ⟨bn, 0, none⟩) 4 4, .slice (some ⟨bl, 0, none⟩) 1 1, .slice none 0 0, .slice none 0 0, .slice none 0 0, .slice none 0 0, .slice none 0 0, .slice none 0 0, .slice none 0 0] : Array Value)[i]? := fun i => blk_cell HS.out.1.2.1 i
  have hbr : wb1.cell? ⟨br, 0, none⟩ = some (.slice (some ⟨B, 0, none⟩) 4 4) := blk_cell HS.out.1.2.2.1 0
  have hB : ∀ i, wb1.cell? ⟨B, i, none⟩ = (#[.bool true, .bool true, .bool true, .bool true] : Array Value)[i]? := fun i => blk_cell HS.out.1.2.2.2.1 i
  go_wp2_with fail
  rw [rounds_succ]
  go_wp2_with fail
  go_end0
  exact ⟨rfl, HB0.out, _, _, HS.out⟩
set_option maxHeartbeats 8000000 in
set_option maxRecDepth 100000 in
theorem on_dec_1 (w0 : World) (bn bl n0 n1 n2 ln : Nat) (mx : Int) (bu br B bv lb bt b0 : Nat) (hf : Near w0 bn bl n0 n1 n2 ln bu br B bv lb bt b0) (A : Option Addr) (c : Nat) (w : World) (hS : GSt w0 bn bl n0 n1 n2 ln mx bu br B bv lb bt b0 #[.int .i64 0, .int .i64 0, .int .i64 1, .int .i64 1] (.slice A 0 c) [] w) (hb0 : b0 ≤ w.heap.size) :
    Calls Try.prog 39 #[.int .i64 1, .func (.func 42) #[] #[.pointer (some ⟨bv, 0, none⟩), .pointer (some ⟨bt, 0, none⟩)], .pointer (some ⟨bu, 0, none⟩), .pointer (some ⟨br, 0, none⟩)] w fun e w' =>
      e = .returned (.tuple #[]) ∧ b0 ≤ w'.heap.size ∧ ∃ g c', GSt w0 bn bl n0 n1 n2 ln mx bu br B bv lb bt b0 #[.int .i64 0, .int .i64 0, .int .i64 0, .int .i64 0] (.slice (some ⟨g, 0, none⟩) 2 c') [2, 3] w' := by
  have hu32 := Try.underlying32
  have HS := Aside0.mk hS
  have HF := Aside0.mk hf
  have HB0 := Aside0.mk hb0
  clear hS hf hb0
  obtain ⟨hN, hL, h0, h1, h1', h2, hln, hln'⟩ := HS.out.1.1.reads
  have hbu : ∀ i, w.cell? ⟨bu, i, none⟩ = (#[.string ⟨#[]⟩, .slice (some ⟨bn, 0, none⟩) 4 4, .slice (some ⟨bl, 0, none⟩) 1 1, .slice none 0 0, .slice none 0 0, .slice none 0 0, .slice none 0 0, .slice none 0 0, .slice none 0 0, .slice none 0 0] : Array Value)[i]? := fun i => blk_cell HS.out.1.2.1 i
  have hbr : w.cell? ⟨br, 0, none⟩ = some (.slice (some ⟨B, 0, none⟩) 4 4) := blk_cell HS.out.1.2.2.1 0
  have hB : ∀ i, w.cell? ⟨B, i, none⟩ = (#[.bool true, .bool true, .bool true, .bool true] : Array Value)[i]? := fun i => blk_cell HS.out.1.2.2.2.1 i
  go_enter Try.func39, Try.ntmps39
  go_wp2_with fail
  refine wp_loop_rounds 6 ?_
  rw [rounds_succ]
  go_wp2_with fail
  refine (back_12 bn bl n0 n1 n2 ln mx _ HS.out.1.1).mono ?_
  rintro e wa1 ⟨rfl, hb⟩
  replace HS := Aside0.mk (HS.out.below hb)
  replace HB0 := Aside0.mk (Nat.le_trans HB0.out hb.size)
  clear hb
  clear hN hL h0 h1 h1' h2 hln hln' hbu hbr hB
  obtain ⟨hN, hL, h0, h1, h1', h2, hln, hln'⟩ := HS.out.1.1.reads
  have hbu : ∀ i, wa1.cell? ⟨bu, i, none⟩ = (#[.string ⟨#[]⟩, .slice (some ⟨bn, 0, none⟩) 4 4, .slice (some ⟨bl, 0, none⟩) 1 1, .slice none 0 0, .slice none 0 0, .slice none 0 0, .slice none 0 0, .slice none 0 0, .slice none 0 0, .slice none 0 0] : Array Value)[i]? := fun i => blk_cell HS.out.1.2.1 i
  have hbr : wa1.cell? ⟨br, 0, none⟩ = some (.slice (some ⟨B, 0, none⟩) 4 4) := blk_cell HS.out.1.2.2.1 0
  have hB : ∀ i, wa1.cell? ⟨B, i, none⟩ = (#[.bool true, .bool true, .bool true, .bool true] : Array Value)[i]? := fun i => blk_cell HS.out.1.2.2.2.1 i
  go_wp2_with fail
  refine (dec_2 w0 bn bl n0 n1 n2 ln mx bu br B bv lb bt b0 HF.out #[.int .i64 0, .int .i64 0, .int .i64 1, .int .i64 1] rfl (A) c [] (by decide) wa1 HS.out HB0.out).mono ?_
  rintro e wb1 ⟨rfl, hb0, gq1, cq1, hS⟩
  replace hS : GSt w0 bn bl n0 n1 n2 ln mx bu br B bv lb bt b0 #[.int .i64 0, .int .i64 0, .int .i64 0, .int .i64 1] (.slice (some ⟨gq1, 0, none⟩) 1 cq1) [2] wb1 := hS
  replace HS := Aside0.mk hS
  replace HB0 := Aside0.mk hb0
  clear hS hb0
  clear hN hL h0 h1 h1' h2 hln hln' hbu hbr hB
  obtain ⟨hN, hL, h0, h1, h1', h2, hln, hln'⟩ := HS.out.1.1.reads
  have hbu : ∀ i, wb1.cell? ⟨bu, i, none⟩ = (#[.string ⟨#[]⟩, .slice (some ⟨bn, 0, none⟩) 4 4, .slice (some ⟨bl, 0, none⟩) 1 1, .slice none 0 0, .slice none 0 0, .slice none 0 0, .slice none 0 0, .slice none 0 0, .slice none 0 0, .slice none 0 0] : Array Value)[i]? := fun i => blk_cell HS.out.1.2.1 i
  have hbr : wb1.cell? ⟨br, 0, none⟩ = some (.slice (some ⟨B, 0, none⟩) 4 4) := blk_cell HS.out.1.2.2.1 0
  have hB : ∀ i, wb1.cell? ⟨B, i, none⟩ = (#[.bool true, .bool true, .bool true, .bool true] : Array Value)[i]? := fun i => blk_cell HS.out.1.2.2.2.1 i
  go_wp2_with fail
  rw [rounds_succ]
  go_wp2_with fail
  refine (back_13 bn bl n0 n1 n2 ln mx _ HS.out.1.1).mono ?_
  rintro e wa2 ⟨rfl, hb⟩
  replace HS := Aside0.mk (HS.out.below hb)
  replace HB0 := Aside0.mk (Nat.le_trans HB0.out hb.size)
  clear hb
  clear hN hL h0 h1 h1' h2 hln hln' hbu hbr hB
  obtain ⟨hN, hL, h0, h1, h1', h2, hln, hln'⟩ := HS.out.1.1.reads
  have hbu : ∀ i, wa2.cell? ⟨bu, i, none⟩ = (#[.string ⟨#[]⟩, .slice (some ⟨bn, 0, none⟩) 4 4, .slice (some ⟨bl, 0, none⟩) 1 1, .slice none 0 0, .slice none 0 0, .slice none 0 0, .slice none 0 0, .slice none 0 0, .slice none 0 0, .slice none 0 0] : Array Value)[i]? := fun i => blk_cell HS.out.1.2.1 i
  have hbr : wa2.cell? ⟨br, 0, none⟩ = some (.slice (some ⟨B, 0, none⟩) 4 4) := blk_cell HS.out.1.2.2.1 0
  have hB : ∀ i, wa2.cell? ⟨B, i, none⟩ = (#[.bool true, .bool true, .bool true, .bool true] : Array Value)[i]? := fun i => blk_cell HS.out.1.2.2.2.1 i
  go_wp2_with fail
  refine (dec_3 w0 bn bl n0 n1 n2 ln mx bu br B bv lb bt b0 HF.out #[.int .i64 0, .int .i64 0, .int .i64 0, .int .i64 1] rfl (some ⟨gq1, 0, none⟩) cq1 [2] (by decide) wa2 HS.out HB0.out).mono ?_
  rintro e wb2 ⟨rfl, hb0, gq2, cq2, hS⟩
  replace hS : GSt w0 bn bl n0 n1 n2 ln mx bu br B bv lb bt b0 #[.int .i64 0, .int .i64 0, .int .i64 0, .int .i64 0] (.slice (some ⟨gq2, 0, none⟩) 2 cq2) [2, 3] wb2 := hS
  replace HS := Aside0.mk hS
  replace HB0 := Aside0.mk hb0
  clear hS hb0
  clear hN hL h0 h1 h1' h2 hln hln' hbu hbr hB
  obtain ⟨hN, hL, h0, h1, h1', h2, hln, hln'⟩ := HS.out.1.1.reads
  have hbu : ∀ i, wb2.cell? ⟨bu, i, none⟩ = (#[.string ⟨#[]⟩, .slice (some ⟨bn, 0, none⟩) 4 4, .slice (some ⟨bl, 0, none⟩) 1 1, .slice none 0 0, .slice none 0 0, .slice none 0 0, .slice none 0 0, .slice none 0 0, .slice none 0 0, .slice none 0 0] : Array Value)[i]? := fun i => blk_cell HS.out.1.2.1 i
  have hbr : wb2.cell? ⟨br, 0, none⟩ = some (.slice (some ⟨B, 0, none⟩) 4 4) := blk_cell HS.out.1.2.2.1 0
  have hB : ∀ i, wb2.cell? ⟨B, i, none⟩ = (#[.bool true, .bool true, .bool true, .bool true] : Array Value)[i]? := fun i => blk_cell HS.out.1.2.2.2.1 i
  go_wp2_with fail
  rw [rounds_succ]
  go_wp2_with fail
  go_end0
  exact ⟨rfl, HB0.out, _, _, HS.out⟩
set_option maxHeartbeats 8000000 in
set_option maxRecDepth 100000 in
theorem on_dec_3 (w0 : World) (bn bl n0 n1 n2 ln : Nat) (mx : Int) (bu br B bv lb bt b0 : Nat) (hf : Near w0 bn bl n0 n1 n2 ln bu br B bv lb bt b0) (A : Option Addr) (c : Nat) (w : World) (hS : GSt w0 bn bl n0 n1 n2 ln mx bu br B bv lb bt b0 #[.int .i64 0, .int .i64 0, .int .i64 0, .int .i64 0] (.slice A 1 c) [2] w) (hb0 : b0 ≤ w.heap.size) :
    Calls Try.prog 39 #[.int .i64 3, .func (.func 42) #[] #[.pointer (some ⟨bv, 0, none⟩), .pointer (some ⟨bt, 0, none⟩)], .pointer (some ⟨bu, 0, none⟩), .pointer (some ⟨br, 0, none⟩)] w fun e w' =>
      e = .returned (.tuple #[]) ∧ b0 ≤ w'.heap.size ∧ GSt w0 bn bl n0 n1 n2 ln mx bu br B bv lb bt b0 #[.int .i64 0, .int .i64 0, .int .i64 0, .int .i64 0] (.slice A 1 c) [2] w' := by
  have hu32 := Try.underlying32
  have HS := Aside0.mk hS
  have HF := Aside0.mk hf
  have HB0 := Aside0.mk hb0
  clear hS hf hb0
  obtain ⟨hN, hL, h0, h1, h1', h2, hln, hln'⟩ := HS.out.1.1.reads
  have hbu : ∀ i, w.cell? ⟨bu, i, none⟩ = (#[.string ⟨#[]⟩, .slice (some ⟨bn, 0, none⟩) 4 4, .slice (some ⟨bl, 0, none⟩) 1 1, .slice none 0 0, .slice none 0 0, .slice none 0 0, .slice none 0 0, .slice none 0 0, .slice none 0 0, .slice none 0 0] : Array Value)[i]? := fun i => blk_cell HS.out.1.2.1 i
  have hbr : w.cell? ⟨br, 0, none⟩ = some (.slice (some ⟨B, 0, none⟩) 4 4) := blk_cell HS.out.1.2.2.1 0
  have hB : ∀ i, w.cell? ⟨B, i, none⟩ = (#[.bool true, .bool true, .bool true, .bool true] : Array Value)[i]? := fun i => blk_cell HS.out.1.2.2.2.1 i
  go_enter Try.func39, Try.ntmps39
  go_wp2_with fail
  refine wp_loop_rounds 6 ?_
  rw [rounds_succ]
  go_wp2_with fail
  go_end0
  exact ⟨rfl, HB0.out, HS.out⟩
set_option maxHeartbeats 8000000 in
set_option maxRecDepth 100000 in
theorem on_dec_2 (w0 : World) (bn bl n0 n1 n2 ln : Nat) (mx : Int) (bu br B bv lb bt b0 : Nat) (hf : Near w0 bn bl n0 n1 n2 ln bu br B bv lb bt b0) (A : Option Addr) (c : Nat) (w : World) (hS : GSt w0 bn bl n0 n1 n2 ln mx bu br B bv lb bt b0 #[.int .i64 0, .int .i64 0, .int .i64 0, .int .i64 0] (.slice A 0 c) [] w) (hb0 : b0 ≤ w.heap.size) :
    Calls Try.prog 39 #[.int .i64 2, .func (.func 42) #[] #[.pointer (some ⟨bv, 0, none⟩), .pointer (some ⟨bt, 0, none⟩)], .pointer (some ⟨bu, 0, none⟩), .pointer (some ⟨br, 0, none⟩)] w fun e w' =>
      e = .returned (.tuple #[]) ∧ b0 ≤ w'.heap.size ∧ GSt w0 bn bl n0 n1 n2 ln mx bu br B bv lb bt b0 #[.int .i64 0, .int .i64 0, .int .i64 0, .int .i64 0] (.slice A 0 c) [] w' := by
  have hu32 := Try.underlying32
  have HS := Aside0.mk hS
  have HF := Aside0.mk hf
  have HB0 := Aside0.mk hb0
  clear hS hf hb0
  obtain ⟨hN, hL, h0, h1, h1', h2, hln, hln'⟩ := HS.out.1.1.reads
  have hbu : ∀ i, w.cell? ⟨bu, i, none⟩ = (#[.string ⟨#[]⟩, .slice (some ⟨bn, 0, none⟩) 4 4, .slice (some ⟨bl, 0, none⟩) 1 1, .slice none 0 0, .slice none 0 0, .slice none 0 0, .slice none 0 0, .slice none 0 0, .slice none 0 0, .slice none 0 0] : Array Value)[i]? := fun i => blk_cell HS.out.1.2.1 i
  have hbr : w.cell? ⟨br, 0, none⟩ = some (.slice (some ⟨B, 0, none⟩) 4 4) := blk_cell HS.out.1.2.2.1 0
  have hB : ∀ i, w.cell? ⟨B, i, none⟩ = (#[.bool true, .bool true, .bool true, .bool true] : Array Value)[i]? := fun i => blk_cell HS.out.1.2.2.2.1 i
  go_enter Try.func39, Try.ntmps39
  go_wp2_with fail
  refine wp_loop_rounds 6 ?_
  rw [rounds_succ]
  go_wp2_with fail
  refine (back_21 bn bl n0 n1 n2 ln mx _ HS.out.1.1).mono ?_
  rintro e wa1 ⟨rfl, hb⟩
  replace HS := Aside0.mk (HS.out.below hb)
  replace HB0 := Aside0.mk (Nat.le_trans HB0.out hb.size)
  clear hb
  clear hN hL h0 h1 h1' h2 hln hln' hbu hbr hB
  obtain ⟨hN, hL, h0, h1, h1', h2, hln, hln'⟩ := HS.out.1.1.reads
  have hbu : ∀ i, wa1.cell? ⟨bu, i, none⟩ = (#[.string ⟨#[]⟩, .slice (some ⟨bn, 0, none⟩) 4 4, .slice (some ⟨bl, 0, none⟩) 1 1, .slice none 0 0, .slice none 0 0, .slice none 0 0, .slice none 0 0, .slice none 0 0, .slice none 0 0, .slice none 0 0] : Array Value)[i]? := fun i => blk_cell HS.out.1.2.1 i
  have hbr : wa1.cell? ⟨br, 0, none⟩ = some (.slice (some ⟨B, 0, none⟩) 4 4) := blk_cell HS.out.1.2.2.1 0
  have hB : ∀ i, wa1.cell? ⟨B, i, none⟩ = (#[.bool true, .bool true, .bool true, .bool true] : Array Value)[i]? := fun i => blk_cell HS.out.1.2.2.2.1 i
  go_wp2_with fail
  rw [rounds_succ]
  go_wp2_with fail
  go_end0
  exact ⟨rfl, HB0.out, HS.out⟩
set_option maxHeartbeats 8000000 in
set_option maxRecDepth 100000 in
theorem forward_calls (bn bl n0 n1 n2 ln : Nat) (mx : Int) (w : World) (hU : UnitW w bn bl n0 n1 n2 ln mx) (B : Nat) (hR : Blk w B #[.bool true, .bool true, .bool true, .bool true] 4) :
    Calls Try.prog 20 #[UV bn bl, .slice (some ⟨B, 0, none⟩) 4 4] w fun e w' => e = .returned (.bool true) ∧ Below w.heap.size w w' := by
  have hu32 := Try.underlying32
  have HU := Aside0.mk hU
  have HR := Aside0.mk hR
  have HLT := Aside0.mk hU.lts
  have HLB := Aside0.mk (blk_lt hR)
  clear hU hR
  have hmk : ∀ W : World, (Instr.makeSlice 29 (.int .i64 4) (.int .i64 4)).run Try.prog W = .ok (.slice (some ⟨W.heap.size, 0, none⟩) 4 4) (W.alloc (.cells #[.int .i64 0, .int .i64 0, .int .i64 0, .int .i64 0] 3)) := fun W => by kernel_rfl
  go_enter Try.func20, Try.ntmps20
  go_wp2_with fail
  have hb4 := (below_alloc (below_alloc (below_alloc (below_alloc (Below.refl w.heap.size w) (.cells #[.string ⟨#[]⟩, .slice (some ⟨bn, 0, none⟩) 4 4, .slice (some ⟨bl, 0, none⟩) 1 1, .slice none 0 0, .slice none 0 0, .slice none 0 0, .slice none 0 0, .slice none 0 0, .slice none 0 0, .slice none 0 0] 32)) (.cells #[.slice (some ⟨B, 0, none⟩) 4 4] 41)) (.cells #[.int .i64 0, .int .i64 0, .int .i64 0, .int .i64 0] 3)) (.cells #[.slice (some ⟨w.heap.size + 1 + 1, 0, none⟩) 4 4] 29))
  have HS : Aside0 (FSt w bn bl n0 n1 n2 ln mx w.heap.size (w.heap.size + 1) B (w.heap.size + 1 + 1 + 1) (w.heap.size + 1 + 1) #[.int .i64 0, .int .i64 0, .int .i64 0, .int .i64 0] ((((w.alloc (.cells #[.string ⟨#[]⟩, .slice (some ⟨bn, 0, none⟩) 4 4, .slice (some ⟨bl, 0, none⟩) 1 1, .slice none 0 0, .slice none 0 0, .slice none 0 0, .slice none 0 0, .slice none 0 0, .slice none 0 0, .slice none 0 0] 32)).alloc (.cells #[.slice (some ⟨B, 0, none⟩) 4 4] 41)).alloc (.cells #[.int .i64 0, .int .i64 0, .int .i64 0, .int .i64 0] 3)).alloc (.cells #[.slice (some ⟨w.heap.size + 1 + 1, 0, none⟩) 4 4] 29))) := ⟨HU.out.below hb4, blk_alloc (blk_alloc (blk_alloc (heap_alloc_new w _) _) _) _, blk_alloc (blk_alloc (heap_alloc2_new w _ _) _) _, blk_below HR.out hb4, blk_at4 w _ _ _ _, blk_alloc (blk_at3 w _ _ _) _, hb4⟩
  have HF : Aside0 (Far w bn bl n0 n1 n2 ln (w.heap.size + 1 + 1)) := ⟨by have := HLT.out; unfold Far; omega⟩
  clear hb4
  generalize (((w.alloc (.cells #[.string ⟨#[]⟩, .slice (some ⟨bn, 0, none⟩) 4 4, .slice (some ⟨bl, 0, none⟩) 1 1, .slice none 0 0, .slice none 0 0, .slice none 0 0, .slice none 0 0, .slice none 0 0, .slice none 0 0, .slice none 0 0] 32)).alloc (.cells #[.slice (some ⟨B, 0, none⟩) 4 4] 41)).alloc (.cells #[.int .i64 0, .int .i64 0, .int .i64 0, .int .i64 0] 3)).alloc (.cells #[.slice (some ⟨w.heap.size + 1 + 1, 0, none⟩) 4 4] 29) = W4 at HS ⊢
  obtain ⟨bu, HBU⟩ : ∃ bu, Aside0 (bu = w.heap.size) := ⟨_, ⟨rfl⟩⟩
  rw [← HBU.out] at HS HF ⊢
  refine wp_loop_rounds 6 ?_
  rw [rounds_succ]
  go_wp2_with fail
  refine (on_inc_0 w bn bl n0 n1 n2 ln mx bu (bu + 1) B (bu + 1 + 1 + 1) (bu + 1 + 1) HF.out _ HS.out).mono ?_
  rintro e wc0 ⟨rfl, hS⟩
  replace HS := Aside0.mk hS
  clear hS
  go_wp2_with fail
  rw [rounds_succ]
  go_wp2_with fail
  refine (on_inc_1 w bn bl n0 n1 n2 ln mx bu (bu + 1) B (bu + 1 + 1 + 1) (bu + 1 + 1) HF.out _ HS.out).mono ?_
  rintro e wc1 ⟨rfl, hS⟩
  replace HS := Aside0.mk hS
  clear hS
  go_wp2_with fail
  rw [rounds_succ]
  go_wp2_with fail
  refine (on_inc_2 w bn bl n0 n1 n2 ln mx bu (bu + 1) B (bu + 1 + 1 + 1) (bu + 1 + 1) HF.out _ HS.out).mono ?_
  rintro e wc2 ⟨rfl, hS⟩
  replace HS := Aside0.mk hS
  clear hS
  go_wp2_with fail
  rw [rounds_succ]
  go_wp2_with fail
  refine (on_inc_3 w bn bl n0 n1 n2 ln mx bu (bu + 1) B (bu + 1 + 1 + 1) (bu + 1 + 1) HF.out _ HS.out).mono ?_
  rintro e wc3 ⟨rfl, hS⟩
  replace HS := Aside0.mk hS
  clear hS
  have hv : wc3.cell? ⟨bu + 1 + 1 + 1, 0, none⟩ = some (.slice (some ⟨bu + 1 + 1, 0, none⟩) 4 4) := blk_cell HS.out.2.2.2.2.1 0
  have lv : bu + 1 + 1 + 1 < wc3.heap.size := blk_lt HS.out.2.2.2.2.1
  have lvA : ∀ k, bu + 1 + 1 + 1 < wc3.heap.size + k := fun k => by omega
  have hbuc : wc3.cell? ⟨bu, 1, none⟩ = some (.slice (some ⟨bn, 0, none⟩) 4 4) := blk_cell HS.out.2.1 1
  go_wp2_with fail
  rw [rounds_succ]
  go_wp2_with fail
  clear hv lv lvA hbuc
  have hb5 := below_alloc (Below.refl wc3.heap.size wc3) (.cells #[.slice none 0 0] 29)
  have HS5 := Aside0.mk (HS.out.below hb5)
  have BT := Aside0.mk (heap_alloc_new wc3 (.cells #[.slice none 0 0] 29))
  have HNW := Aside0.mk (HS.out.2.2.2.2.2.2.size)
  have HV3 := Aside0.mk (blk_lt HS.out.2.2.2.2.1)
  have HBW := Aside0.mk (HS.out.1.lts)
  have HBB := Aside0.mk (blk_lt HS.out.2.2.2.1)
  have HB0E : Aside0 ((wc3.alloc (.cells #[.slice none 0 0] 29)).heap.size = wc3.heap.size + 1) := ⟨by simp⟩
  clear hb5 HS
  generalize wc3.alloc (.cells #[.slice none 0 0] 29) = w5 at HS5 BT HB0E ⊢
  obtain ⟨bt, HBT⟩ : ∃ bt, Aside0 (bt = wc3.heap.size) := ⟨_, ⟨rfl⟩⟩
  rw [← HBT.out] at BT HB0E HNW HV3 HBW HBB ⊢
  obtain ⟨b0, HB0⟩ : ∃ b0, Aside0 (b0 = w5.heap.size) := ⟨_, ⟨rfl⟩⟩
  have HNR : Aside0 (Near w bn bl n0 n1 n2 ln bu (bu + 1) B (bu + 1 + 1 + 1) (bu + 1 + 1) bt b0) := ⟨HF.out, by have := HBW.out; have := HB0E.out; have := HB0.out; omega, by have := HV3.out; have := HBB.out; have := HB0E.out; have := HB0.out; omega, HNW.out, by have := HNW.out; have := HB0E.out; have := HB0.out; omega, by have := HBW.out; omega, by have := HV3.out; omega⟩
  have HG : Aside0 (GSt w bn bl n0 n1 n2 ln mx bu (bu + 1) B (bu + 1 + 1 + 1) (bu + 1 + 1) bt b0 #[.int .i64 0, .int .i64 1, .int .i64 1, .int .i64 1] (.slice none 0 0) [] w5) := ⟨HS5.out, BT.out, Kd.R_nil _ _ _ _ _⟩
  have HB0S : Aside0 (b0 ≤ w5.heap.size) := ⟨Nat.le_of_eq HB0.out⟩
  clear HS5 BT HNW HV3 HBW HBB HB0E HB0
  have hl : ∀ i, w5.cell? ⟨bu + 1 + 1, i, none⟩ = (#[.int .i64 0, .int .i64 1, .int .i64 1, .int .i64 1] : Array Value)[i]? := fun i => blk_cell HG.out.1.2.2.2.2.2.1 i
  have ht : w5.cell? ⟨bt, 0, none⟩ = some (.slice none 0 0) := blk_cell HG.out.2.1 0
  refine wp_loop_rounds 6 ?_
  rw [rounds_succ]
  go_wp2_with (first | (at_builtin; refine Kd.R_append (Kd.int .i64) (w0 := w5) b0 rfl (.tmp 38) (.tmp 40) 29 3 (.int .i64 0) 8 rfl Try.underlying29 info3 rfl (by decide) (by omega) (.slice none 0 0) [] 0 [.int .i64 0] (fun _ => True) (fun _ => False) rfl rfl ?aP (fun _ hk => hk.elim) ?aF ?aO ?aB ?aS ?aL ?_; (case aP => exact rfl); (case aF => exact (fun _ _ => trivial)); (case aO => exact HG.out.2.2); (case aB => exact Below.refl _ _); (case aS => exact HB0S.out); (case aL => simp); intro va w6 ho hb hgr hat; obtain ⟨gq, cq, hva, _⟩ := Kd.R_form ho (by simp); (have hva2 : va = .slice (some ⟨gq, 0, none⟩) 1 cq := hva); subst hva2; have HO := Aside0.mk ho; have HB := Aside0.mk hb; have HBT6 := Aside0.mk ((hb.block bt HNR.out.2.2.1.2.2.2.2.2).trans HG.out.2.1); have hbt : w6.cell? ⟨bt, 0, none⟩ = some (.slice none 0 0) := blk_cell HBT6.out 0; have hbf := blk_frozen HBT6.out 0; have HSZ : Aside0 (b0 ≤ w6.heap.size) := ⟨Nat.le_trans HB0S.out hb.size⟩; clear ho hb hgr hat hva) | fail)
  clear hl ht hbt hbf
  have HG2 := Aside0.mk (GSt.app HG.out HNR.out HO.out HB.out)
  replace HG2 : Aside0 (GSt w bn bl n0 n1 n2 ln mx bu (bu + 1) B (bu + 1 + 1 + 1) (bu + 1 + 1) bt b0 #[.int .i64 0, .int .i64 1, .int .i64 1, .int .i64 1] (.slice (some ⟨gq, 0, none⟩) 1 cq) [0] (w6.setCell ⟨bt, 0, none⟩ (.slice (some ⟨gq, 0, none⟩) 1 cq))) := HG2
  have HS6 : Aside0 (b0 ≤ (w6.setCell ⟨bt, 0, none⟩ (.slice (some ⟨gq, 0, none⟩) 1 cq)).heap.size) := ⟨by simpa using HSZ.out⟩
  clear HG HO HB HBT6 HSZ
  generalize w6.setCell ⟨bt, 0, none⟩ (.slice (some ⟨gq, 0, none⟩) 1 cq) = w7 at HG2 HS6 ⊢
  have hl : ∀ i, w7.cell? ⟨bu + 1 + 1, i, none⟩ = (#[.int .i64 0, .int .i64 1, .int .i64 1, .int .i64 1] : Array Value)[i]? := fun i => blk_cell HG2.out.1.2.2.2.2.2.1 i
  have ht : w7.cell? ⟨bt, 0, none⟩ = some (.slice (some ⟨gq, 0, none⟩) 1 cq) := blk_cell HG2.out.2.1 0
  rw [rounds_succ]
  go_wp2_with fail
  rw [rounds_succ]
  go_wp2_with fail
  rw [rounds_succ]
  go_wp2_with fail
  rw [rounds_succ]
  go_wp2_with fail
  clear hl ht
  refine wp_loop_rounds 6 ?_
  have ht : w7.cell? ⟨bt, 0, none⟩ = some (.slice (some ⟨gq, 0, none⟩) 1 cq) := blk_cell HG2.out.2.1 0
  have he : w7.cell? ⟨gq, 0, none⟩ = some (.int .i64 0) := r_elem HG2.out.2.2 0 (by decide)
  have htf := blk_frozen HG2.out.2.1 0
  have hcp : 1 ≤ cq := (Kd.R_reads' HG2.out.2.2).2.1
  rw [rounds_succ]
  go_wp2_with fail
  clear ht he htf hcp
  replace HG2 : Aside0 (GSt w bn bl n0 n1 n2 ln mx bu (bu + 1) B (bu + 1 + 1 + 1) (bu + 1 + 1) bt b0 #[.int .i64 0, .int .i64 1, .int .i64 1, .int .i64 1] (.slice (some ⟨gq, 0, none⟩) 0 cq) [] (w7.setCell ⟨bt, 0, none⟩ (.slice (some ⟨gq, 0, none⟩) 0 cq))) := ⟨GSt.app HG2.out HNR.out (Kd.R_take HG2.out.2.2 (m := 0) (by decide)) (Below.refl _ _)⟩
  replace HS6 : Aside0 (b0 ≤ (w7.setCell ⟨bt, 0, none⟩ (.slice (some ⟨gq, 0, none⟩) 0 cq)).heap.size) := ⟨by simpa using HS6.out⟩
  refine (on_dec_0 w bn bl n0 n1 n2 ln mx bu (bu + 1) B (bu + 1 + 1 + 1) (bu + 1 + 1) bt b0 HNR.out (some ⟨gq, 0, none⟩) cq _ HG2.out HS6.out).mono ?_
  rintro e wd0 ⟨rfl, hb0, gd0, cd0, hS⟩
  replace HG2 := Aside0.mk hS
  replace HS6 := Aside0.mk hb0
  clear hS hb0
  go_wp2_with fail
  have ht : wd0.cell? ⟨bt, 0, none⟩ = some (.slice (some ⟨gd0, 0, none⟩) 1 cd0) := blk_cell HG2.out.2.1 0
  have he : wd0.cell? ⟨gd0, 0, none⟩ = some (.int .i64 1) := r_elem HG2.out.2.2 0 (by decide)
  have htf := blk_frozen HG2.out.2.1 0
  have hcp : 1 ≤ cd0 := (Kd.R_reads' HG2.out.2.2).2.1
  rw [rounds_succ]
  go_wp2_with fail
  clear ht he htf hcp
  replace HG2 : Aside0 (GSt w bn bl n0 n1 n2 ln mx bu (bu + 1) B (bu + 1 + 1 + 1) (bu + 1 + 1) bt b0 #[.int .i64 0, .int .i64 0, .int .i64 1, .int .i64 1] (.slice (some ⟨gd0, 0, none⟩) 0 cd0) [] (wd0.setCell ⟨bt, 0, none⟩ (.slice (some ⟨gd0, 0, none⟩) 0 cd0))) := ⟨GSt.app HG2.out HNR.out (Kd.R_take HG2.out.2.2 (m := 0) (by decide)) (Below.refl _ _)⟩
  replace HS6 : Aside0 (b0 ≤ (wd0.setCell ⟨bt, 0, none⟩ (.slice (some ⟨gd0, 0, none⟩) 0 cd0)).heap.size) := ⟨by simpa using HS6.out⟩
  refine (on_dec_1 w bn bl n0 n1 n2 ln mx bu (bu + 1) B (bu + 1 + 1 + 1) (bu + 1 + 1) bt b0 HNR.out (some ⟨gd0, 0, none⟩) cd0 _ HG2.out HS6.out).mono ?_
  rintro e wd1 ⟨rfl, hb0, gd1, cd1, hS⟩
  replace HG2 := Aside0.mk hS
  replace HS6 := Aside0.mk hb0
  clear hS hb0
  go_wp2_with fail
  have ht : wd1.cell? ⟨bt, 0, none⟩ = some (.slice (some ⟨gd1, 0, none⟩) 2 cd1) := blk_cell HG2.out.2.1 0
  have he : wd1.cell? ⟨gd1, 1, none⟩ = some (.int .i64 3) := r_elem HG2.out.2.2 1 (by decide)
  have htf := blk_frozen HG2.out.2.1 0
  have hcp : 2 ≤ cd1 := (Kd.R_reads' HG2.out.2.2).2.1
  rw [rounds_succ]
  go_wp2_with fail
  clear ht he htf hcp
  replace HG2 : Aside0 (GSt w bn bl n0 n1 n2 ln mx bu (bu + 1) B (bu + 1 + 1 + 1) (bu + 1 + 1) bt b0 #[.int .i64 0, .int .i64 0, .int .i64 0, .int .i64 0] (.slice (some ⟨gd1, 0, none⟩) 1 cd1) [2] (wd1.setCell ⟨bt, 0, none⟩ (.slice (some ⟨gd1, 0, none⟩) 1 cd1))) := ⟨GSt.app HG2.out HNR.out (Kd.R_take HG2.out.2.2 (m := 1) (by decide)) (Below.refl _ _)⟩
  replace HS6 : Aside0 (b0 ≤ (wd1.setCell ⟨bt, 0, none⟩ (.slice (some ⟨gd1, 0, none⟩) 1 cd1)).heap.size) := ⟨by simpa using HS6.out⟩
  refine (on_dec_3 w bn bl n0 n1 n2 ln mx bu (bu + 1) B (bu + 1 + 1 + 1) (bu + 1 + 1) bt b0 HNR.out (some ⟨gd1, 0, none⟩) cd1 _ HG2.out HS6.out).mono ?_
  rintro e wd2 ⟨rfl, hb0, hS⟩
  replace HG2 := Aside0.mk hS
  replace HS6 := Aside0.mk hb0
  clear hS hb0
  go_wp2_with fail
  have ht : wd2.cell? ⟨bt, 0, none⟩ = some (.slice (some ⟨gd1, 0, none⟩) 1 cd1) := blk_cell HG2.out.2.1 0
  have he : wd2.cell? ⟨gd1, 0, none⟩ = some (.int .i64 2) := r_elem HG2.out.2.2 0 (by decide)
  have htf := blk_frozen HG2.out.2.1 0
  have hcp : 1 ≤ cd1 := (Kd.R_reads' HG2.out.2.2).2.1
  rw [rounds_succ]
  go_wp2_with fail
  clear ht he htf hcp
  replace HG2 : Aside0 (GSt w bn bl n0 n1 n2 ln mx bu (bu + 1) B (bu + 1 + 1 + 1) (bu + 1 + 1) bt b0 #[.int .i64 0, .int .i64 0, .int .i64 0, .int .i64 0] (.slice (some ⟨gd1, 0, none⟩) 0 cd1) [] (wd2.setCell ⟨bt, 0, none⟩ (.slice (some ⟨gd1, 0, none⟩) 0 cd1))) := ⟨GSt.app HG2.out HNR.out (Kd.R_take HG2.out.2.2 (m := 0) (by decide)) (Below.refl _ _)⟩
  replace HS6 : Aside0 (b0 ≤ (wd2.setCell ⟨bt, 0, none⟩ (.slice (some ⟨gd1, 0, none⟩) 0 cd1)).heap.size) := ⟨by simpa using HS6.out⟩
  refine (on_dec_2 w bn bl n0 n1 n2 ln mx bu (bu + 1) B (bu + 1 + 1 + 1) (bu + 1 + 1) bt b0 HNR.out (some ⟨gd1, 0, none⟩) cd1 _ HG2.out HS6.out).mono ?_
  rintro e wd3 ⟨rfl, hb0, hS⟩
  replace HG2 := Aside0.mk hS
  replace HS6 := Aside0.mk hb0
  clear hS hb0
  go_wp2_with fail
  have ht : wd3.cell? ⟨bt, 0, none⟩ = some (.slice (some ⟨gd1, 0, none⟩) 0 cd1) := blk_cell HG2.out.2.1 0
  have hbuc : wd3.cell? ⟨bu, 1, none⟩ = some (.slice (some ⟨bn, 0, none⟩) 4 4) := blk_cell HG2.out.1.2.1 1
  rw [rounds_succ]
  go_wp2_with fail
  go_ret
  exact ⟨rfl, HG2.out.1.2.2.2.2.2.2⟩
end Go.Proofs.Ytbeochkimihglaa.PHl
