/-
  No cell of these rows narrows 'for every input' (looked for: loops, veiled, ifaces, maps, wideKeys, modest, calm, conditions, laid).
  DERIVED. THE GIVEN ROWS OF THIS SEAT. 4 by the template 'for every input the law returns true; each argument reads behind the call as it read before'; 0 by the template 'total and deterministic' (their statements: YtgpdnfhmmeaoeaaTotals.lean).
  GIVEN WITH THE SEED: the statements are not yours to turn. If you find one false, say at which input.
  Laid BY PROGRAM, IN A SANDBOX (cutbox-rows.mjs): the forced cells as the released guide's own fill.sh prints them over the translation 3bbf9de01a912d6f… (all of the seat's roots in one cut). By AI agents, Wed Nov 11 2026. No macro, syntax, notation, axiom, sorry.
-/
import Derived.Test.YtgpdnfhmmeaoeaaChecked
import GoSem.Claim
import GoSem.ClaimJoined
import GoSem.ClaimMapViews
import Derived.JoinedTies
import Derived.KernelRfl
namespace Go.Proofs.Ytgpdnfhmmeaoeaa
/- THE CELL 'sum', in the pinned program and in every row, IS THE sha256 OF THE DUMP (.gsa) THAT YtgpdnfhmmeaoeaaProg.lean LOADS. Nothing in Lean hashes anything: it is a label: what it is worth is what the hold of that sum in a sandbox is worth. -/
noncomputable def Try.pinned : Pinned := { name := "ytgpdnfhmmeaoeaa", sum := "3bbf9de01a912d6f354fb0b17dd287c878989a3e69e5b4c104b7b2587b082f69", checked := Try.checked }
namespace Rows
def none {H : Type} : Left H := { results := [], args := [] }

/-- 'timeboundlaw38.EvictCommon': WHATEVER THE INPUT: true; the input reads as it did. -/
def evictCommonSpec : ChangeSpec := { name := "evictCommon", fn := fun _ => fun
  | [d] => { results := [.lit (.bool true)], args := [d] }
  | _ => none }
def evictCommonRow : OpenClaim := { program := "ytgpdnfhmmeaoeaa", sum := "3bbf9de01a912d6f354fb0b17dd287c878989a3e69e5b4c104b7b2587b082f69", func := "timebound/timeboundlaw38.EvictCommon", spec := "evictCommon", unfollowed := true, recurses := true, apart := false }
def EvictCommonSaid : Prop := evictCommonRow.holds Try.pinned (OpenSpec.ofChange evictCommonSpec)

/-- ITS FALSE NEIGHBOUR: 'it returns false'. Refute it at one input. -/
def evictCommonWrong : ChangeSpec := { name := "evictCommon", fn := fun _ => fun
  | [d] => { results := [.lit (.bool false)], args := [d] }
  | _ => none }
def EvictCommonWrongFalsely : Prop := evictCommonRow.holds Try.pinned (OpenSpec.ofChange evictCommonWrong)

/-- 'timeboundlaw38.EvictApart': WHATEVER THE INPUT: true; the input reads as it did. -/
def evictApartSpec : ChangeSpec := { name := "evictApart", fn := fun _ => fun
  | [d] => { results := [.lit (.bool true)], args := [d] }
  | _ => none }
def evictApartRow : OpenClaim := { program := "ytgpdnfhmmeaoeaa", sum := "3bbf9de01a912d6f354fb0b17dd287c878989a3e69e5b4c104b7b2587b082f69", func := "timebound/timeboundlaw38.EvictApart", spec := "evictApart", unfollowed := true, recurses := true, apart := false }
def EvictApartSaid : Prop := evictApartRow.holds Try.pinned (OpenSpec.ofChange evictApartSpec)

/-- ITS FALSE NEIGHBOUR: 'it returns false'. Refute it at one input. -/
def evictApartWrong : ChangeSpec := { name := "evictApart", fn := fun _ => fun
  | [d] => { results := [.lit (.bool false)], args := [d] }
  | _ => none }
def EvictApartWrongFalsely : Prop := evictApartRow.holds Try.pinned (OpenSpec.ofChange evictApartWrong)

/-- 'timeboundlaw40.BlockingTimes': WHATEVER THE INPUT: true; the input reads as it did. -/
def blockingTimesSpec : ChangeSpec := { name := "blockingTimes", fn := fun _ => fun
  | [d1, d2, d3, d4, d5] => { results := [.lit (.bool true)], args := [d1, d2, d3, d4, d5] }
  | _ => none }
def blockingTimesRow : OpenClaim := { program := "ytgpdnfhmmeaoeaa", sum := "3bbf9de01a912d6f354fb0b17dd287c878989a3e69e5b4c104b7b2587b082f69", func := "timebound/timeboundlaw40.BlockingTimes", spec := "blockingTimes", unfollowed := true, recurses := true, apart := false }
def BlockingTimesSaid : Prop := blockingTimesRow.holds Try.pinned (OpenSpec.ofChange blockingTimesSpec)

/-- ITS FALSE NEIGHBOUR: 'it returns false'. Refute it at one input. -/
def blockingTimesWrong : ChangeSpec := { name := "blockingTimes", fn := fun _ => fun
  | [d1, d2, d3, d4, d5] => { results := [.lit (.bool false)], args := [d1, d2, d3, d4, d5] }
  | _ => none }
def BlockingTimesWrongFalsely : Prop := blockingTimesRow.holds Try.pinned (OpenSpec.ofChange blockingTimesWrong)

/-- 'timeboundlaw40.BlockingGrows': WHATEVER THE INPUT: true; the input reads as it did. -/
def blockingGrowsSpec : ChangeSpec := { name := "blockingGrows", fn := fun _ => fun
  | [d] => { results := [.lit (.bool true)], args := [d] }
  | _ => none }
def blockingGrowsRow : OpenClaim := { program := "ytgpdnfhmmeaoeaa", sum := "3bbf9de01a912d6f354fb0b17dd287c878989a3e69e5b4c104b7b2587b082f69", func := "timebound/timeboundlaw40.BlockingGrows", spec := "blockingGrows", unfollowed := true, recurses := true, apart := false }
def BlockingGrowsSaid : Prop := blockingGrowsRow.holds Try.pinned (OpenSpec.ofChange blockingGrowsSpec)

/-- ITS FALSE NEIGHBOUR: 'it returns false'. Refute it at one input. -/
def blockingGrowsWrong : ChangeSpec := { name := "blockingGrows", fn := fun _ => fun
  | [d] => { results := [.lit (.bool false)], args := [d] }
  | _ => none }
def BlockingGrowsWrongFalsely : Prop := blockingGrowsRow.holds Try.pinned (OpenSpec.ofChange blockingGrowsWrong)

/- THE SECOND FORM. 'bulk': how many values and letters a reading holds, each counted each time it is reached (what is shared counts as often as it is met; a slice's spare places count too). A statement '..UptoSaid' is the law's where the arguments, and the package variables that the reading takes, are together of bulk at most 1048576: NARROWER than '..Said'. Prove '..Said' where nothing that the law and all that it calls make is longer than what came in: it says more and counts as full. Else prove '..UptoSaid'. A law counts once. -/
mutual
def uptoBulk {H : Type} : DataW H → Nat
  | .lit (.string bytes) => bytes.length + 1
  | .lit _ => 1
  | .nil => 1
  | .ptr d => uptoBulk d + 1
  | .slice elems spare => uptoBulkAll elems + uptoBulkAll spare + 1
  | .agg parts => uptoBulkAll parts + 1
  | .iface _ d => uptoBulk d + 1
  | .map entries => uptoBulkEntries entries + 1
  | .held _ => 1
def uptoBulkAll {H : Type} : List (DataW H) → Nat
  | [] => 0
  | d :: r => uptoBulk d + uptoBulkAll r
def uptoBulkEntries {H : Type} : List (Lit × DataW H) → Nat
  | [] => 0
  | x :: r => uptoBulkEntry x + uptoBulkEntries r
def uptoBulkEntry {H : Type} : Lit × DataW H → Nat
  | (.string bytes, d) => bytes.length + uptoBulk d + 1
  | (_, d) => uptoBulk d + 1
 end
def uptoSmall : (H : Type) → List (DataW H) → Bool := fun _ ds => decide (uptoBulkAll ds ≤ 1048576)
def OpenSpec.upto (s : _root_.Go.ChangeSpec) : _root_.Go.OpenSpec := { _root_.Go.OpenSpec.ofChange s with cond := some uptoSmall }

/-- 'timeboundlaw38.EvictCommon', WHERE WHAT IT READS IS OF BULK AT MOST 1048576: true; the input reads as it did. -/
def evictCommonUptoRow : OpenClaim := { program := "ytgpdnfhmmeaoeaa", sum := "3bbf9de01a912d6f354fb0b17dd287c878989a3e69e5b4c104b7b2587b082f69", func := "timebound/timeboundlaw38.EvictCommon", spec := "evictCommon", unfollowed := true, recurses := true, apart := false, narrowed := true }
def EvictCommonUptoSaid : Prop := evictCommonUptoRow.holds Try.pinned (OpenSpec.upto evictCommonSpec)

/-- 'timeboundlaw38.EvictApart', WHERE WHAT IT READS IS OF BULK AT MOST 1048576: true; the input reads as it did. -/
def evictApartUptoRow : OpenClaim := { program := "ytgpdnfhmmeaoeaa", sum := "3bbf9de01a912d6f354fb0b17dd287c878989a3e69e5b4c104b7b2587b082f69", func := "timebound/timeboundlaw38.EvictApart", spec := "evictApart", unfollowed := true, recurses := true, apart := false, narrowed := true }
def EvictApartUptoSaid : Prop := evictApartUptoRow.holds Try.pinned (OpenSpec.upto evictApartSpec)

/-- 'timeboundlaw40.BlockingTimes', WHERE WHAT IT READS IS OF BULK AT MOST 1048576: true; the input reads as it did. -/
def blockingTimesUptoRow : OpenClaim := { program := "ytgpdnfhmmeaoeaa", sum := "3bbf9de01a912d6f354fb0b17dd287c878989a3e69e5b4c104b7b2587b082f69", func := "timebound/timeboundlaw40.BlockingTimes", spec := "blockingTimes", unfollowed := true, recurses := true, apart := false, narrowed := true }
def BlockingTimesUptoSaid : Prop := blockingTimesUptoRow.holds Try.pinned (OpenSpec.upto blockingTimesSpec)

/-- 'timeboundlaw40.BlockingGrows', WHERE WHAT IT READS IS OF BULK AT MOST 1048576: true; the input reads as it did. -/
def blockingGrowsUptoRow : OpenClaim := { program := "ytgpdnfhmmeaoeaa", sum := "3bbf9de01a912d6f354fb0b17dd287c878989a3e69e5b4c104b7b2587b082f69", func := "timebound/timeboundlaw40.BlockingGrows", spec := "blockingGrows", unfollowed := true, recurses := true, apart := false, narrowed := true }
def BlockingGrowsUptoSaid : Prop := blockingGrowsUptoRow.holds Try.pinned (OpenSpec.upto blockingGrowsSpec)

end Rows
end Go.Proofs.Ytgpdnfhmmeaoeaa
