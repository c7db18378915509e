/- the unit of the example. -/
import Derived.Test.YtbeochkimihglaaH26
namespace Go.Proofs.Ytbeochkimihglaa.PHl
open Go.RowKit Go.Proofs.YtbeochkimihglaaW.PrintWords Go.Proofs.YtbeochkimihglaaW.PrintLast Go.Proofs.YtbeochkimihglaaW.PrintMore
set_option linter.unusedVariables false
set_option linter.unusedSimpArgs false
theorem at15_0 (w : World) (o0 o1 o2 o3 o4 o5 o6 o7 o8 o9 o10 o11 o12 o13 o14 : Obj) : (((((((((((((((w.alloc o0).alloc o1).alloc o2).alloc o3).alloc o4).alloc o5).alloc o6).alloc o7).alloc o8).alloc o9).alloc o10).alloc o11).alloc o12).alloc o13).alloc o14).heap[w.heap.size]? = some o0 := by
  show (((((((((((((((w.heap.push o0).push o1).push o2).push o3).push o4).push o5).push o6).push o7).push o8).push o9).push o10).push o11).push o12).push o13).push o14)[w.heap.size]? = some o0
  simp only [Array.getElem?_push, Array.size_push]
  repeat (first | rw [if_neg (by omega)] | rw [if_pos (by omega)])
  exact if_pos trivial
theorem at15_1 (w : World) (o0 o1 o2 o3 o4 o5 o6 o7 o8 o9 o10 o11 o12 o13 o14 : Obj) : (((((((((((((((w.alloc o0).alloc o1).alloc o2).alloc o3).alloc o4).alloc o5).alloc o6).alloc o7).alloc o8).alloc o9).alloc o10).alloc o11).alloc o12).alloc o13).alloc o14).heap[w.heap.size + 1]? = some o1 := by
  show (((((((((((((((w.heap.push o0).push o1).push o2).push o3).push o4).push o5).push o6).push o7).push o8).push o9).push o10).push o11).push o12).push o13).push o14)[w.heap.size + 1]? = some o1
  simp only [Array.getElem?_push, Array.size_push]
  repeat (first | rw [if_neg (by omega)] | rw [if_pos (by omega)])
  exact if_pos trivial
theorem at15_2 (w : World) (o0 o1 o2 o3 o4 o5 o6 o7 o8 o9 o10 o11 o12 o13 o14 : Obj) : (((((((((((((((w.alloc o0).alloc o1).alloc o2).alloc o3).alloc o4).alloc o5).alloc o6).alloc o7).alloc o8).alloc o9).alloc o10).alloc o11).alloc o12).alloc o13).alloc o14).heap[w.heap.size + 1 + 1]? = some o2 := by
  show (((((((((((((((w.heap.push o0).push o1).push o2).push o3).push o4).push o5).push o6).push o7).push o8).push o9).push o10).push o11).push o12).push o13).push o14)[w.heap.size + 1 + 1]? = some o2
  simp only [Array.getElem?_push, Array.size_push]
  repeat (first | rw [if_neg (by omega)] | rw [if_pos (by omega)])
  exact if_pos trivial
theorem at15_3 (w : World) (o0 o1 o2 o3 o4 o5 o6 o7 o8 o9 o10 o11 o12 o13 o14 : Obj) : (((((((((((((((w.alloc o0).alloc o1).alloc o2).alloc o3).alloc o4).alloc o5).alloc o6).alloc o7).alloc o8).alloc o9).alloc o10).alloc o11).alloc o12).alloc o13).alloc o14).heap[w.heap.size + 1 + 1 + 1]? = some o3 := by
  show (((((((((((((((w.heap.push o0).push o1).push o2).push o3).push o4).push o5).push o6).push o7).push o8).push o9).push o10).push o11).push o12).push o13).push o14)[w.heap.size + 1 + 1 + 1]? = some o3
  simp only [Array.getElem?_push, Array.size_push]
  repeat (first | rw [if_neg (by omega)] | rw [if_pos (by omega)])
  exact if_pos trivial
theorem at15_4 (w : World) (o0 o1 o2 o3 o4 o5 o6 o7 o8 o9 o10 o11 o12 o13 o14 : Obj) : (((((((((((((((w.alloc o0).alloc o1).alloc o2).alloc o3).alloc o4).alloc o5).alloc o6).alloc o7).alloc o8).alloc o9).alloc o10).alloc o11).alloc o12).alloc o13).alloc o14).heap[w.heap.size + 1 + 1 + 1 + 1]? = some o4 := by
  show (((((((((((((((w.heap.push o0).push o1).push o2).push o3).push o4).push o5).push o6).push o7).push o8).push o9).push o10).push o11).push o12).push o13).push o14)[w.heap.size + 1 + 1 + 1 + 1]? = some o4
  simp only [Array.getElem?_push, Array.size_push]
  repeat (first | rw [if_neg (by omega)] | rw [if_pos (by omega)])
  exact if_pos trivial
theorem at15_5 (w : World) (o0 o1 o2 o3 o4 o5 o6 o7 o8 o9 o10 o11 o12 o13 o14 : Obj) : (((((((((((((((w.alloc o0).alloc o1).alloc o2).alloc o3).alloc o4).alloc o5).alloc o6).alloc o7).alloc o8).alloc o9).alloc o10).alloc o11).alloc o12).alloc o13).alloc o14).heap[w.heap.size + 1 + 1 + 1 + 1 + 1]? = some o5 := by
  show (((((((((((((((w.heap.push o0).push o1).push o2).push o3).push o4).push o5).push o6).push o7).push o8).push o9).push o10).push o11).push o12).push o13).push o14)[w.heap.size + 1 + 1 + 1 + 1 + 1]? = some o5
  simp only [Array.getElem?_push, Array.size_push]
  repeat (first | rw [if_neg (by omega)] | rw [if_pos (by omega)])
  exact if_pos trivial
theorem at15_6 (w : World) (o0 o1 o2 o3 o4 o5 o6 o7 o8 o9 o10 o11 o12 o13 o14 : Obj) : (((((((((((((((w.alloc o0).alloc o1).alloc o2).alloc o3).alloc o4).alloc o5).alloc o6).alloc o7).alloc o8).alloc o9).alloc o10).alloc o11).alloc o12).alloc o13).alloc o14).heap[w.heap.size + 1 + 1 + 1 + 1 + 1 + 1]? = some o6 := by
  show (((((((((((((((w.heap.push o0).push o1).push o2).push o3).push o4).push o5).push o6).push o7).push o8).push o9).push o10).push o11).push o12).push o13).push o14)[w.heap.size + 1 + 1 + 1 + 1 + 1 + 1]? = some o6
  simp only [Array.getElem?_push, Array.size_push]
  repeat (first | rw [if_neg (by omega)] | rw [if_pos (by omega)])
  exact if_pos trivial
theorem at15_7 (w : World) (o0 o1 o2 o3 o4 o5 o6 o7 o8 o9 o10 o11 o12 o13 o14 : Obj) : (((((((((((((((w.alloc o0).alloc o1).alloc o2).alloc o3).alloc o4).alloc o5).alloc o6).alloc o7).alloc o8).alloc o9).alloc o10).alloc o11).alloc o12).alloc o13).alloc o14).heap[w.heap.size + 1 + 1 + 1 + 1 + 1 + 1 + 1]? = some o7 := by
  show (((((((((((((((w.heap.push o0).push o1).push o2).push o3).push o4).push o5).push o6).push o7).push o8).push o9).push o10).push o11).push o12).push o13).push o14)[w.heap.size + 1 + 1 + 1 + 1 + 1 + 1 + 1]? = some o7
  simp only [Array.getElem?_push, Array.size_push]
  repeat (first | rw [if_neg (by omega)] | rw [if_pos (by omega)])
  exact if_pos trivial
theorem at15_8 (w : World) (o0 o1 o2 o3 o4 o5 o6 o7 o8 o9 o10 o11 o12 o13 o14 : Obj) : (((((((((((((((w.alloc o0).alloc o1).alloc o2).alloc o3).alloc o4).alloc o5).alloc o6).alloc o7).alloc o8).alloc o9).alloc o10).alloc o11).alloc o12).alloc o13).alloc o14).heap[w.heap.size + 1 + 1 + 1 + 1 + 1 + 1 + 1 + 1]? = some o8 := by
  show (((((((((((((((w.heap.push o0).push o1).push o2).push o3).push o4).push o5).push o6).push o7).push o8).push o9).push o10).push o11).push o12).push o13).push o14)[w.heap.size + 1 + 1 + 1 + 1 + 1 + 1 + 1 + 1]? = some o8
  simp only [Array.getElem?_push, Array.size_push]
  repeat (first | rw [if_neg (by omega)] | rw [if_pos (by omega)])
  exact if_pos trivial
theorem at15_9 (w : World) (o0 o1 o2 o3 o4 o5 o6 o7 o8 o9 o10 o11 o12 o13 o14 : Obj) : (((((((((((((((w.alloc o0).alloc o1).alloc o2).alloc o3).alloc o4).alloc o5).alloc o6).alloc o7).alloc o8).alloc o9).alloc o10).alloc o11).alloc o12).alloc o13).alloc o14).heap[w.heap.size + 1 + 1 + 1 + 1 + 1 + 1 + 1 + 1 + 1]? = some o9 := by
  show (((((((((((((((w.heap.push o0).push o1).push o2).push o3).push o4).push o5).push o6).push o7).push o8).push o9).push o10).push o11).push o12).push o13).push o14)[w.heap.size + 1 + 1 + 1 + 1 + 1 + 1 + 1 + 1 + 1]? = some o9
  simp only [Array.getElem?_push, Array.size_push]
  repeat (first | rw [if_neg (by omega)] | rw [if_pos (by omega)])
  exact if_pos trivial
theorem at15_10 (w : World) (o0 o1 o2 o3 o4 o5 o6 o7 o8 o9 o10 o11 o12 o13 o14 : Obj) : (((((((((((((((w.alloc o0).alloc o1).alloc o2).alloc o3).alloc o4).alloc o5).alloc o6).alloc o7).alloc o8).alloc o9).alloc o10).alloc o11).alloc o12).alloc o13).alloc o14).heap[w.heap.size + 1 + 1 + 1 + 1 + 1 + 1 + 1 + 1 + 1 + 1]? = some o10 := by
  show (((((((((((((((w.heap.push o0).push o1).push o2).push o3).push o4).push o5).push o6).push o7).push o8).push o9).push o10).push o11).push o12).push o13).push o14)[w.heap.size + 1 + 1 + 1 + 1 + 1 + 1 + 1 + 1 + 1 + 1]? = some o10
  simp only [Array.getElem?_push, Array.size_push]
  repeat (first | rw [if_neg (by omega)] | rw [if_pos (by omega)])
  exact if_pos trivial
theorem at15_11 (w : World) (o0 o1 o2 o3 o4 o5 o6 o7 o8 o9 o10 o11 o12 o13 o14 : Obj) : (((((((((((((((w.alloc o0).alloc o1).alloc o2).alloc o3).alloc o4).alloc o5).alloc o6).alloc o7).alloc o8).alloc o9).alloc o10).alloc o11).alloc o12).alloc o13).alloc o14).heap[w.heap.size + 1 + 1 + 1 + 1 + 1 + 1 + 1 + 1 + 1 + 1 + 1]? = some o11 := by
  show (((((((((((((((w.heap.push o0).push o1).push o2).push o3).push o4).push o5).push o6).push o7).push o8).push o9).push o10).push o11).push o12).push o13).push o14)[w.heap.size + 1 + 1 + 1 + 1 + 1 + 1 + 1 + 1 + 1 + 1 + 1]? = some o11
  simp only [Array.getElem?_push, Array.size_push]
  repeat (first | rw [if_neg (by omega)] | rw [if_pos (by omega)])
  exact if_pos trivial
theorem at15_12 (w : World) (o0 o1 o2 o3 o4 o5 o6 o7 o8 o9 o10 o11 o12 o13 o14 : Obj) : (((((((((((((((w.alloc o0).alloc o1).alloc o2).alloc o3).alloc o4).alloc o5).alloc o6).alloc o7).alloc o8).alloc o9).alloc o10).alloc o11).alloc o12).alloc o13).alloc o14).heap[w.heap.size + 1 + 1 + 1 + 1 + 1 + 1 + 1 + 1 + 1 + 1 + 1 + 1]? = some o12 := by
  show (((((((((((((((w.heap.push o0).push o1).push o2).push o3).push o4).push o5).push o6).push o7).push o8).push o9).push o10).push o11).push o12).push o13).push o14)[w.heap.size + 1 + 1 + 1 + 1 + 1 + 1 + 1 + 1 + 1 + 1 + 1 + 1]? = some o12
  simp only [Array.getElem?_push, Array.size_push]
  repeat (first | rw [if_neg (by omega)] | rw [if_pos (by omega)])
  exact if_pos trivial
theorem at15_13 (w : World) (o0 o1 o2 o3 o4 o5 o6 o7 o8 o9 o10 o11 o12 o13 o14 : Obj) : (((((((((((((((w.alloc o0).alloc o1).alloc o2).alloc o3).alloc o4).alloc o5).alloc o6).alloc o7).alloc o8).alloc o9).alloc o10).alloc o11).alloc o12).alloc o13).alloc o14).heap[w.heap.size + 1 + 1 + 1 + 1 + 1 + 1 + 1 + 1 + 1 + 1 + 1 + 1 + 1]? = some o13 := by
  show (((((((((((((((w.heap.push o0).push o1).push o2).push o3).push o4).push o5).push o6).push o7).push o8).push o9).push o10).push o11).push o12).push o13).push o14)[w.heap.size + 1 + 1 + 1 + 1 + 1 + 1 + 1 + 1 + 1 + 1 + 1 + 1 + 1]? = some o13
  simp only [Array.getElem?_push, Array.size_push]
  repeat (first | rw [if_neg (by omega)] | rw [if_pos (by omega)])
  exact if_pos trivial
theorem at15_14 (w : World) (o0 o1 o2 o3 o4 o5 o6 o7 o8 o9 o10 o11 o12 o13 o14 : Obj) : (((((((((((((((w.alloc o0).alloc o1).alloc o2).alloc o3).alloc o4).alloc o5).alloc o6).alloc o7).alloc o8).alloc o9).alloc o10).alloc o11).alloc o12).alloc o13).alloc o14).heap[w.heap.size + 1 + 1 + 1 + 1 + 1 + 1 + 1 + 1 + 1 + 1 + 1 + 1 + 1 + 1]? = some o14 := by
  show (((((((((((((((w.heap.push o0).push o1).push o2).push o3).push o4).push o5).push o6).push o7).push o8).push o9).push o10).push o11).push o12).push o13).push o14)[w.heap.size + 1 + 1 + 1 + 1 + 1 + 1 + 1 + 1 + 1 + 1 + 1 + 1 + 1 + 1]? = some o14
  simp only [Array.getElem?_push, Array.size_push]
  repeat (first | rw [if_neg (by omega)] | rw [if_pos (by omega)])
  exact if_pos trivial
theorem info32 : (Try.prog.info? 32).map (·.size) = some 10 := by kernel_rfl
theorem info34 : (Try.prog.info? 34).map (·.size) = some 2 := by kernel_rfl
set_option maxHeartbeats 8000000 in
set_option maxRecDepth 100000 in
theorem loop_calls (w : World) : Calls Try.prog 4 #[] w fun e w' => ∃ bn bl n0 n1 n2 ln be k0 k1 k2 k3 kt, e = .returned (.tuple #[UV bn bl, CV be kt]) ∧ UnitW w' bn bl n0 n1 n2 ln 3 ∧ CostW w' be k0 k1 k2 k3 kt 2 4 1 6 1 0 ∧ w.heap.size ≤ bl ∧ Below w.heap.size w w' := by
  have hu32 := Try.underlying32
  have hu34 := Try.underlying34
  have hu38 := Try.underlying38
  have hu46 := Try.underlying46
  go_enter Try.func4, Try.ntmps4
  go_wp2_with fail
  refine bodyPost_ret (results_cc rfl _ _ (w.heap.size) (w.heap.size + 1) 32 34 #[.string ⟨#[]⟩, .slice (some ⟨w.heap.size + 1 + 1 + 1 + 1 + 1, 0, none⟩) 4 4, .slice (some ⟨w.heap.size + 1 + 1 + 1 + 1 + 1 + 1 + 1, 0, none⟩) 1 1, .slice none 0 0, .slice none 0 0, .slice none 0 0, .slice none 0 0, .slice none 0 0, .slice none 0 0, .slice none 0 0] #[.slice (some ⟨w.heap.size + 1 + 1 + 1 + 1 + 1 + 1 + 1 + 1 + 1 + 1 + 1 + 1 + 1, 0, none⟩) 4 4, .slice (some ⟨w.heap.size + 1 + 1 + 1 + 1 + 1 + 1 + 1 + 1 + 1 + 1 + 1 + 1 + 1 + 1, 0, none⟩) 1 1] (0, 0) (0, 0) _ _ rfl (at15_0 w _ _ _ _ _ _ _ _ _ _ _ _ _ _ _) Try.underlying32 rfl info32 rfl (at15_1 w _ _ _ _ _ _ _ _ _ _ _ _ _ _ _) Try.underlying34 rfl info34) rfl ?_
  exact ⟨w.heap.size + 1 + 1 + 1 + 1 + 1, w.heap.size + 1 + 1 + 1 + 1 + 1 + 1 + 1, w.heap.size + 1 + 1, w.heap.size + 1 + 1 + 1, w.heap.size + 1 + 1 + 1 + 1, w.heap.size + 1 + 1 + 1 + 1 + 1 + 1, w.heap.size + 1 + 1 + 1 + 1 + 1 + 1 + 1 + 1 + 1 + 1 + 1 + 1 + 1, w.heap.size + 1 + 1 + 1 + 1 + 1 + 1 + 1 + 1 + 1, w.heap.size + 1 + 1 + 1 + 1 + 1 + 1 + 1 + 1 + 1 + 1, w.heap.size + 1 + 1 + 1 + 1 + 1 + 1 + 1 + 1 + 1 + 1 + 1, w.heap.size + 1 + 1 + 1 + 1 + 1 + 1 + 1 + 1 + 1 + 1 + 1 + 1, w.heap.size + 1 + 1 + 1 + 1 + 1 + 1 + 1 + 1 + 1 + 1 + 1 + 1 + 1 + 1, rfl, ⟨at15_5 w _ _ _ _ _ _ _ _ _ _ _ _ _ _ _, at15_7 w _ _ _ _ _ _ _ _ _ _ _ _ _ _ _, at15_2 w _ _ _ _ _ _ _ _ _ _ _ _ _ _ _, at15_3 w _ _ _ _ _ _ _ _ _ _ _ _ _ _ _, at15_4 w _ _ _ _ _ _ _ _ _ _ _ _ _ _ _, at15_6 w _ _ _ _ _ _ _ _ _ _ _ _ _ _ _⟩, ⟨at15_13 w _ _ _ _ _ _ _ _ _ _ _ _ _ _ _, at15_9 w _ _ _ _ _ _ _ _ _ _ _ _ _ _ _, at15_10 w _ _ _ _ _ _ _ _ _ _ _ _ _ _ _, at15_11 w _ _ _ _ _ _ _ _ _ _ _ _ _ _ _, at15_12 w _ _ _ _ _ _ _ _ _ _ _ _ _ _ _, at15_14 w _ _ _ _ _ _ _ _ _ _ _ _ _ _ _⟩, by omega, below_alloc (below_alloc (below_alloc (below_alloc (below_alloc (below_alloc (below_alloc (below_alloc (below_alloc (below_alloc (below_alloc (below_alloc (below_alloc (below_alloc (below_alloc (Below.refl _ _) _) _) _) _) _) _) _) _) _) _) _) _) _) _) _⟩
end Go.Proofs.Ytbeochkimihglaa.PHl
