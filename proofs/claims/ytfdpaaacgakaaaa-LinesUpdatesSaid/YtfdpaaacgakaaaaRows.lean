/-
  No cell of these rows narrows 'for every input' (looked for: loops, veiled, ifaces, maps, wideKeys, modest, calm, conditions, laid).
  DERIVED. THE GIVEN ROWS OF THIS SEAT. 11 by the template 'for every input the law returns true; each argument reads behind the call as it read before'; 0 by the template 'total and deterministic' (their statements: YtfdpaaacgakaaaaTotals.lean).
  GIVEN WITH THE SEED: the statements are not yours to turn. If you find one false, say at which input.
  Laid BY PROGRAM, IN A SANDBOX (cutbox-rows.mjs): the forced cells as the released guide's own fill.sh prints them over the translation 4c7d7af989dc7d76… (all of the seat's roots in one cut). By AI agents, Wed Nov 11 2026. No macro, syntax, notation, axiom, sorry.
-/
import Derived.Test.YtfdpaaacgakaaaaChecked
import GoSem.Claim
import GoSem.ClaimJoined
import GoSem.ClaimMapViews
import Derived.JoinedTies
import Derived.KernelRfl
namespace Go.Proofs.Ytfdpaaacgakaaaa
/- THE CELL 'sum', in the pinned program and in every row, IS THE sha256 OF THE DUMP (.gsa) THAT YtfdpaaacgakaaaaProg.lean LOADS. Nothing in Lean hashes anything: it is a label: what it is worth is what the hold of that sum in a sandbox is worth. -/
noncomputable def Try.pinned : Pinned := { name := "ytfdpaaacgakaaaa", sum := "4c7d7af989dc7d76becb07abf7e8abcfec2607fad5f7b1b5acdd9e973a824247", checked := Try.checked }
namespace Rows
def none {H : Type} : Left H := { results := [], args := [] }

/-- 'topiarylaw01.EditIdle': WHATEVER THE INPUT: true; the input reads as it did. -/
def editIdleSpec : ChangeSpec := { name := "editIdle", fn := fun _ => fun
  | [d1, d2] => { results := [.lit (.bool true)], args := [d1, d2] }
  | _ => none }
def editIdleRow : OpenClaim := { program := "ytfdpaaacgakaaaa", sum := "4c7d7af989dc7d76becb07abf7e8abcfec2607fad5f7b1b5acdd9e973a824247", func := "topiary/topiarylaw01.EditIdle", spec := "editIdle", apart := false }
def EditIdleSaid : Prop := editIdleRow.holds Try.pinned (OpenSpec.ofChange editIdleSpec)

/-- ITS FALSE NEIGHBOUR: 'it returns false'. Refute it at one input. -/
def editIdleWrong : ChangeSpec := { name := "editIdle", fn := fun _ => fun
  | [d1, d2] => { results := [.lit (.bool false)], args := [d1, d2] }
  | _ => none }
def EditIdleWrongFalsely : Prop := editIdleRow.holds Try.pinned (OpenSpec.ofChange editIdleWrong)

/-- 'topiarylaw03.LinesStarts': WHATEVER THE INPUT: true; the input reads as it did. -/
def linesStartsSpec : ChangeSpec := { name := "linesStarts", fn := fun _ => fun
  | [d] => { results := [.lit (.bool true)], args := [d] }
  | _ => none }
def linesStartsRow : OpenClaim := { program := "ytfdpaaacgakaaaa", sum := "4c7d7af989dc7d76becb07abf7e8abcfec2607fad5f7b1b5acdd9e973a824247", func := "topiary/topiarylaw03.LinesStarts", spec := "linesStarts", apart := false }
def LinesStartsSaid : Prop := linesStartsRow.holds Try.pinned (OpenSpec.ofChange linesStartsSpec)

/-- ITS FALSE NEIGHBOUR: 'it returns false'. Refute it at one input. -/
def linesStartsWrong : ChangeSpec := { name := "linesStarts", fn := fun _ => fun
  | [d] => { results := [.lit (.bool false)], args := [d] }
  | _ => none }
def LinesStartsWrongFalsely : Prop := linesStartsRow.holds Try.pinned (OpenSpec.ofChange linesStartsWrong)

/-- 'topiarylaw03.LinesJoins': WHATEVER THE INPUT: true; the input reads as it did. -/
def linesJoinsSpec : ChangeSpec := { name := "linesJoins", fn := fun _ => fun
  | [d1, d2] => { results := [.lit (.bool true)], args := [d1, d2] }
  | _ => none }
def linesJoinsRow : OpenClaim := { program := "ytfdpaaacgakaaaa", sum := "4c7d7af989dc7d76becb07abf7e8abcfec2607fad5f7b1b5acdd9e973a824247", func := "topiary/topiarylaw03.LinesJoins", spec := "linesJoins", apart := false }
def LinesJoinsSaid : Prop := linesJoinsRow.holds Try.pinned (OpenSpec.ofChange linesJoinsSpec)

/-- ITS FALSE NEIGHBOUR: 'it returns false'. Refute it at one input. -/
def linesJoinsWrong : ChangeSpec := { name := "linesJoins", fn := fun _ => fun
  | [d1, d2] => { results := [.lit (.bool false)], args := [d1, d2] }
  | _ => none }
def LinesJoinsWrongFalsely : Prop := linesJoinsRow.holds Try.pinned (OpenSpec.ofChange linesJoinsWrong)

/-- 'topiarylaw01.EditApplies': WHATEVER THE INPUT: true; the input reads as it did. -/
def editAppliesSpec : ChangeSpec := { name := "editApplies", fn := fun _ => fun
  | [d1, d2] => { results := [.lit (.bool true)], args := [d1, d2] }
  | _ => none }
def editAppliesRow : OpenClaim := { program := "ytfdpaaacgakaaaa", sum := "4c7d7af989dc7d76becb07abf7e8abcfec2607fad5f7b1b5acdd9e973a824247", func := "topiary/topiarylaw01.EditApplies", spec := "editApplies", apart := false }
def EditAppliesSaid : Prop := editAppliesRow.holds Try.pinned (OpenSpec.ofChange editAppliesSpec)

/-- ITS FALSE NEIGHBOUR: 'it returns false'. Refute it at one input. -/
def editAppliesWrong : ChangeSpec := { name := "editApplies", fn := fun _ => fun
  | [d1, d2] => { results := [.lit (.bool false)], args := [d1, d2] }
  | _ => none }
def EditAppliesWrongFalsely : Prop := editAppliesRow.holds Try.pinned (OpenSpec.ofChange editAppliesWrong)

/-- 'topiarylaw01.EditBack': WHATEVER THE INPUT: true; the input reads as it did. -/
def editBackSpec : ChangeSpec := { name := "editBack", fn := fun _ => fun
  | [d1, d2] => { results := [.lit (.bool true)], args := [d1, d2] }
  | _ => none }
def editBackRow : OpenClaim := { program := "ytfdpaaacgakaaaa", sum := "4c7d7af989dc7d76becb07abf7e8abcfec2607fad5f7b1b5acdd9e973a824247", func := "topiary/topiarylaw01.EditBack", spec := "editBack", apart := false }
def EditBackSaid : Prop := editBackRow.holds Try.pinned (OpenSpec.ofChange editBackSpec)

/-- ITS FALSE NEIGHBOUR: 'it returns false'. Refute it at one input. -/
def editBackWrong : ChangeSpec := { name := "editBack", fn := fun _ => fun
  | [d1, d2] => { results := [.lit (.bool false)], args := [d1, d2] }
  | _ => none }
def EditBackWrongFalsely : Prop := editBackRow.holds Try.pinned (OpenSpec.ofChange editBackWrong)

/-- 'topiarylaw01.EditAll': WHATEVER THE INPUT: true; the input reads as it did. -/
def editAllSpec : ChangeSpec := { name := "editAll", fn := fun _ => fun
  | [d1, d2] => { results := [.lit (.bool true)], args := [d1, d2] }
  | _ => none }
def editAllRow : OpenClaim := { program := "ytfdpaaacgakaaaa", sum := "4c7d7af989dc7d76becb07abf7e8abcfec2607fad5f7b1b5acdd9e973a824247", func := "topiary/topiarylaw01.EditAll", spec := "editAll", apart := false }
def EditAllSaid : Prop := editAllRow.holds Try.pinned (OpenSpec.ofChange editAllSpec)

/-- ITS FALSE NEIGHBOUR: 'it returns false'. Refute it at one input. -/
def editAllWrong : ChangeSpec := { name := "editAll", fn := fun _ => fun
  | [d1, d2] => { results := [.lit (.bool false)], args := [d1, d2] }
  | _ => none }
def EditAllWrongFalsely : Prop := editAllRow.holds Try.pinned (OpenSpec.ofChange editAllWrong)

/-- 'topiarylaw03.LinesAt': WHATEVER THE INPUT: true; the input reads as it did. -/
def linesAtSpec : ChangeSpec := { name := "linesAt", fn := fun _ => fun
  | [d1, d2, d3] => { results := [.lit (.bool true)], args := [d1, d2, d3] }
  | _ => none }
def linesAtRow : OpenClaim := { program := "ytfdpaaacgakaaaa", sum := "4c7d7af989dc7d76becb07abf7e8abcfec2607fad5f7b1b5acdd9e973a824247", func := "topiary/topiarylaw03.LinesAt", spec := "linesAt", apart := false }
def LinesAtSaid : Prop := linesAtRow.holds Try.pinned (OpenSpec.ofChange linesAtSpec)

/-- ITS FALSE NEIGHBOUR: 'it returns false'. Refute it at one input. -/
def linesAtWrong : ChangeSpec := { name := "linesAt", fn := fun _ => fun
  | [d1, d2, d3] => { results := [.lit (.bool false)], args := [d1, d2, d3] }
  | _ => none }
def LinesAtWrongFalsely : Prop := linesAtRow.holds Try.pinned (OpenSpec.ofChange linesAtWrong)

/-- 'topiarylaw01.EditDiffs': WHATEVER THE INPUT: true; the input reads as it did. -/
def editDiffsSpec : ChangeSpec := { name := "editDiffs", fn := fun _ => fun
  | [d1, d2] => { results := [.lit (.bool true)], args := [d1, d2] }
  | _ => none }
def editDiffsRow : OpenClaim := { program := "ytfdpaaacgakaaaa", sum := "4c7d7af989dc7d76becb07abf7e8abcfec2607fad5f7b1b5acdd9e973a824247", func := "topiary/topiarylaw01.EditDiffs", spec := "editDiffs", apart := false }
def EditDiffsSaid : Prop := editDiffsRow.holds Try.pinned (OpenSpec.ofChange editDiffsSpec)

/-- ITS FALSE NEIGHBOUR: 'it returns false'. Refute it at one input. -/
def editDiffsWrong : ChangeSpec := { name := "editDiffs", fn := fun _ => fun
  | [d1, d2] => { results := [.lit (.bool false)], args := [d1, d2] }
  | _ => none }
def EditDiffsWrongFalsely : Prop := editDiffsRow.holds Try.pinned (OpenSpec.ofChange editDiffsWrong)

/-- 'topiarylaw01.EditBoth': WHATEVER THE INPUT: true; the input reads as it did. -/
def editBothSpec : ChangeSpec := { name := "editBoth", fn := fun _ => fun
  | [d1, d2] => { results := [.lit (.bool true)], args := [d1, d2] }
  | _ => none }
def editBothRow : OpenClaim := { program := "ytfdpaaacgakaaaa", sum := "4c7d7af989dc7d76becb07abf7e8abcfec2607fad5f7b1b5acdd9e973a824247", func := "topiary/topiarylaw01.EditBoth", spec := "editBoth", apart := false }
def EditBothSaid : Prop := editBothRow.holds Try.pinned (OpenSpec.ofChange editBothSpec)

/-- ITS FALSE NEIGHBOUR: 'it returns false'. Refute it at one input. -/
def editBothWrong : ChangeSpec := { name := "editBoth", fn := fun _ => fun
  | [d1, d2] => { results := [.lit (.bool false)], args := [d1, d2] }
  | _ => none }
def EditBothWrongFalsely : Prop := editBothRow.holds Try.pinned (OpenSpec.ofChange editBothWrong)

/-- 'topiarylaw03.LinesPlaces': WHATEVER THE INPUT: true; the input reads as it did. -/
def linesPlacesSpec : ChangeSpec := { name := "linesPlaces", fn := fun _ => fun
  | [d1, d2] => { results := [.lit (.bool true)], args := [d1, d2] }
  | _ => none }
def linesPlacesRow : OpenClaim := { program := "ytfdpaaacgakaaaa", sum := "4c7d7af989dc7d76becb07abf7e8abcfec2607fad5f7b1b5acdd9e973a824247", func := "topiary/topiarylaw03.LinesPlaces", spec := "linesPlaces", unfollowed := true, recurses := true, apart := false }
def LinesPlacesSaid : Prop := linesPlacesRow.holds Try.pinned (OpenSpec.ofChange linesPlacesSpec)

/-- ITS FALSE NEIGHBOUR: 'it returns false'. Refute it at one input. -/
def linesPlacesWrong : ChangeSpec := { name := "linesPlaces", fn := fun _ => fun
  | [d1, d2] => { results := [.lit (.bool false)], args := [d1, d2] }
  | _ => none }
def LinesPlacesWrongFalsely : Prop := linesPlacesRow.holds Try.pinned (OpenSpec.ofChange linesPlacesWrong)

/-- 'topiarylaw03.LinesUpdates': WHATEVER THE INPUT: true; the input reads as it did. -/
def linesUpdatesSpec : ChangeSpec := { name := "linesUpdates", fn := fun _ => fun
  | [d1, d2, d3] => { results := [.lit (.bool true)], args := [d1, d2, d3] }
  | _ => none }
def linesUpdatesRow : OpenClaim := { program := "ytfdpaaacgakaaaa", sum := "4c7d7af989dc7d76becb07abf7e8abcfec2607fad5f7b1b5acdd9e973a824247", func := "topiary/topiarylaw03.LinesUpdates", spec := "linesUpdates", inPlace := ["internal/bytealg.CountString", "internal/bytealg.IndexByteString", "internal/bytealg.IndexString"], named := ["internal/bytealg.MaxLen"], apart := false }
def LinesUpdatesSaid : Prop := linesUpdatesRow.holds Try.pinned (OpenSpec.ofChange linesUpdatesSpec)

/-- ITS FALSE NEIGHBOUR: 'it returns false'. Refute it at one input. -/
def linesUpdatesWrong : ChangeSpec := { name := "linesUpdates", fn := fun _ => fun
  | [d1, d2, d3] => { results := [.lit (.bool false)], args := [d1, d2, d3] }
  | _ => none }
def LinesUpdatesWrongFalsely : Prop := linesUpdatesRow.holds Try.pinned (OpenSpec.ofChange linesUpdatesWrong)

/- THE SECOND FORM. 'bulk': how many values and letters a reading holds, each counted each time it is reached (what is shared counts as often as it is met; a slice's spare places count too). A statement '..UptoSaid' is the law's where the arguments, and the package variables that the reading takes, are together of bulk at most 1048576: NARROWER than '..Said'. Prove '..Said' where nothing that the law and all that it calls make is longer than what came in: it says more and counts as full. Else prove '..UptoSaid'. A law counts once. -/
mutual
def uptoBulk {H : Type} : DataW H → Nat
  | .lit (.string bytes) => bytes.length + 1
  | .lit _ => 1
  | .nil => 1
  | .ptr d => uptoBulk d + 1
  | .slice elems spare => uptoBulkAll elems + uptoBulkAll spare + 1
  | .agg parts => uptoBulkAll parts + 1
  | .iface _ d => uptoBulk d + 1
  | .map entries => uptoBulkEntries entries + 1
  | .held _ => 1
def uptoBulkAll {H : Type} : List (DataW H) → Nat
  | [] => 0
  | d :: r => uptoBulk d + uptoBulkAll r
def uptoBulkEntries {H : Type} : List (Lit × DataW H) → Nat
  | [] => 0
  | x :: r => uptoBulkEntry x + uptoBulkEntries r
def uptoBulkEntry {H : Type} : Lit × DataW H → Nat
  | (.string bytes, d) => bytes.length + uptoBulk d + 1
  | (_, d) => uptoBulk d + 1
 end
def uptoSmall : (H : Type) → List (DataW H) → Bool := fun _ ds => decide (uptoBulkAll ds ≤ 1048576)
def OpenSpec.upto (s : _root_.Go.ChangeSpec) : _root_.Go.OpenSpec := { _root_.Go.OpenSpec.ofChange s with cond := some uptoSmall }

/-- 'topiarylaw01.EditIdle', WHERE WHAT IT READS IS OF BULK AT MOST 1048576: true; the input reads as it did. -/
def editIdleUptoRow : OpenClaim := { program := "ytfdpaaacgakaaaa", sum := "4c7d7af989dc7d76becb07abf7e8abcfec2607fad5f7b1b5acdd9e973a824247", func := "topiary/topiarylaw01.EditIdle", spec := "editIdle", apart := false, narrowed := true }
def EditIdleUptoSaid : Prop := editIdleUptoRow.holds Try.pinned (OpenSpec.upto editIdleSpec)

/-- 'topiarylaw03.LinesStarts', WHERE WHAT IT READS IS OF BULK AT MOST 1048576: true; the input reads as it did. -/
def linesStartsUptoRow : OpenClaim := { program := "ytfdpaaacgakaaaa", sum := "4c7d7af989dc7d76becb07abf7e8abcfec2607fad5f7b1b5acdd9e973a824247", func := "topiary/topiarylaw03.LinesStarts", spec := "linesStarts", apart := false, narrowed := true }
def LinesStartsUptoSaid : Prop := linesStartsUptoRow.holds Try.pinned (OpenSpec.upto linesStartsSpec)

/-- 'topiarylaw03.LinesJoins', WHERE WHAT IT READS IS OF BULK AT MOST 1048576: true; the input reads as it did. -/
def linesJoinsUptoRow : OpenClaim := { program := "ytfdpaaacgakaaaa", sum := "4c7d7af989dc7d76becb07abf7e8abcfec2607fad5f7b1b5acdd9e973a824247", func := "topiary/topiarylaw03.LinesJoins", spec := "linesJoins", apart := false, narrowed := true }
def LinesJoinsUptoSaid : Prop := linesJoinsUptoRow.holds Try.pinned (OpenSpec.upto linesJoinsSpec)

/-- 'topiarylaw01.EditApplies', WHERE WHAT IT READS IS OF BULK AT MOST 1048576: true; the input reads as it did. -/
def editAppliesUptoRow : OpenClaim := { program := "ytfdpaaacgakaaaa", sum := "4c7d7af989dc7d76becb07abf7e8abcfec2607fad5f7b1b5acdd9e973a824247", func := "topiary/topiarylaw01.EditApplies", spec := "editApplies", apart := false, narrowed := true }
def EditAppliesUptoSaid : Prop := editAppliesUptoRow.holds Try.pinned (OpenSpec.upto editAppliesSpec)

/-- 'topiarylaw01.EditBack', WHERE WHAT IT READS IS OF BULK AT MOST 1048576: true; the input reads as it did. -/
def editBackUptoRow : OpenClaim := { program := "ytfdpaaacgakaaaa", sum := "4c7d7af989dc7d76becb07abf7e8abcfec2607fad5f7b1b5acdd9e973a824247", func := "topiary/topiarylaw01.EditBack", spec := "editBack", apart := false, narrowed := true }
def EditBackUptoSaid : Prop := editBackUptoRow.holds Try.pinned (OpenSpec.upto editBackSpec)

/-- 'topiarylaw01.EditAll', WHERE WHAT IT READS IS OF BULK AT MOST 1048576: true; the input reads as it did. -/
def editAllUptoRow : OpenClaim := { program := "ytfdpaaacgakaaaa", sum := "4c7d7af989dc7d76becb07abf7e8abcfec2607fad5f7b1b5acdd9e973a824247", func := "topiary/topiarylaw01.EditAll", spec := "editAll", apart := false, narrowed := true }
def EditAllUptoSaid : Prop := editAllUptoRow.holds Try.pinned (OpenSpec.upto editAllSpec)

/-- 'topiarylaw03.LinesAt', WHERE WHAT IT READS IS OF BULK AT MOST 1048576: true; the input reads as it did. -/
def linesAtUptoRow : OpenClaim := { program := "ytfdpaaacgakaaaa", sum := "4c7d7af989dc7d76becb07abf7e8abcfec2607fad5f7b1b5acdd9e973a824247", func := "topiary/topiarylaw03.LinesAt", spec := "linesAt", apart := false, narrowed := true }
def LinesAtUptoSaid : Prop := linesAtUptoRow.holds Try.pinned (OpenSpec.upto linesAtSpec)

/-- 'topiarylaw01.EditDiffs', WHERE WHAT IT READS IS OF BULK AT MOST 1048576: true; the input reads as it did. -/
def editDiffsUptoRow : OpenClaim := { program := "ytfdpaaacgakaaaa", sum := "4c7d7af989dc7d76becb07abf7e8abcfec2607fad5f7b1b5acdd9e973a824247", func := "topiary/topiarylaw01.EditDiffs", spec := "editDiffs", apart := false, narrowed := true }
def EditDiffsUptoSaid : Prop := editDiffsUptoRow.holds Try.pinned (OpenSpec.upto editDiffsSpec)

/-- 'topiarylaw01.EditBoth', WHERE WHAT IT READS IS OF BULK AT MOST 1048576: true; the input reads as it did. -/
def editBothUptoRow : OpenClaim := { program := "ytfdpaaacgakaaaa", sum := "4c7d7af989dc7d76becb07abf7e8abcfec2607fad5f7b1b5acdd9e973a824247", func := "topiary/topiarylaw01.EditBoth", spec := "editBoth", apart := false, narrowed := true }
def EditBothUptoSaid : Prop := editBothUptoRow.holds Try.pinned (OpenSpec.upto editBothSpec)

/-- 'topiarylaw03.LinesPlaces', WHERE WHAT IT READS IS OF BULK AT MOST 1048576: true; the input reads as it did. -/
def linesPlacesUptoRow : OpenClaim := { program := "ytfdpaaacgakaaaa", sum := "4c7d7af989dc7d76becb07abf7e8abcfec2607fad5f7b1b5acdd9e973a824247", func := "topiary/topiarylaw03.LinesPlaces", spec := "linesPlaces", unfollowed := true, recurses := true, apart := false, narrowed := true }
def LinesPlacesUptoSaid : Prop := linesPlacesUptoRow.holds Try.pinned (OpenSpec.upto linesPlacesSpec)

/-- 'topiarylaw03.LinesUpdates', WHERE WHAT IT READS IS OF BULK AT MOST 1048576: true; the input reads as it did. -/
def linesUpdatesUptoRow : OpenClaim := { program := "ytfdpaaacgakaaaa", sum := "4c7d7af989dc7d76becb07abf7e8abcfec2607fad5f7b1b5acdd9e973a824247", func := "topiary/topiarylaw03.LinesUpdates", spec := "linesUpdates", inPlace := ["internal/bytealg.CountString", "internal/bytealg.IndexByteString", "internal/bytealg.IndexString"], named := ["internal/bytealg.MaxLen"], apart := false, narrowed := true }
def LinesUpdatesUptoSaid : Prop := linesUpdatesUptoRow.holds Try.pinned (OpenSpec.upto linesUpdatesSpec)

end Rows
end Go.Proofs.Ytfdpaaacgakaaaa
