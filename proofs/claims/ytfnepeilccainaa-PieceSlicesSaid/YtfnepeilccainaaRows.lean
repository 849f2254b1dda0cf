/-
  No cell of these rows narrows 'for every input' (looked for: loops, veiled, ifaces, maps, wideKeys, modest, calm, conditions, laid).
  DERIVED. THE GIVEN ROWS OF THIS SEAT. 5 by the template 'for every input the law returns true; each argument reads behind the call as it read before'; 0 by the template 'total and deterministic' (their statements: YtfnepeilccainaaTotals.lean).
  GIVEN WITH THE SEED: the statements are not yours to turn. If you find one false, say at which input.
  Laid BY PROGRAM, IN A SANDBOX (cutbox-rows.mjs): the forced cells as the released guide's own fill.sh prints them over the translation abd2ebce6a9c89ba… (all of the seat's roots in one cut). By AI agents, Wed Nov 11 2026. No macro, syntax, notation, axiom, sorry.
-/
import Derived.Test.YtfnepeilccainaaChecked
import GoSem.Claim
import GoSem.ClaimJoined
import GoSem.ClaimMapViews
import Derived.JoinedTies
import Derived.KernelRfl
namespace Go.Proofs.Ytfnepeilccainaa
/- THE CELL 'sum', in the pinned program and in every row, IS THE sha256 OF THE DUMP (.gsa) THAT YtfnepeilccainaaProg.lean LOADS. Nothing in Lean hashes anything: it is a label: what it is worth is what the hold of that sum in a sandbox is worth. -/
noncomputable def Try.pinned : Pinned := { name := "ytfnepeilccainaa", sum := "abd2ebce6a9c89ba60e7106661d7f6effafe52952c14bc0220a2f1a2cabf85fb", checked := Try.checked }
namespace Rows
def none {H : Type} : Left H := { results := [], args := [] }

/-- 'topiarylaw02.PieceForgets': WHATEVER THE INPUT: true; the input reads as it did. -/
def pieceForgetsSpec : ChangeSpec := { name := "pieceForgets", fn := fun _ => fun
  | [d1, d2] => { results := [.lit (.bool true)], args := [d1, d2] }
  | _ => none }
def pieceForgetsRow : OpenClaim := { program := "ytfnepeilccainaa", sum := "abd2ebce6a9c89ba60e7106661d7f6effafe52952c14bc0220a2f1a2cabf85fb", func := "topiary/topiarylaw02.PieceForgets", spec := "pieceForgets", inPlace := ["sync/atomic.StoreInt64", "sync/atomic.LoadUint32", "internal/abi.NoEscape", "sync/atomic.StoreUint32", "slices.overlaps[topiary/piece.part]", "sync/atomic.AddInt64"], apart := false }
def PieceForgetsSaid : Prop := pieceForgetsRow.holds Try.pinned (OpenSpec.ofChange pieceForgetsSpec)

/-- ITS FALSE NEIGHBOUR: 'it returns false'. Refute it at one input. -/
def pieceForgetsWrong : ChangeSpec := { name := "pieceForgets", fn := fun _ => fun
  | [d1, d2] => { results := [.lit (.bool false)], args := [d1, d2] }
  | _ => none }
def PieceForgetsWrongFalsely : Prop := pieceForgetsRow.holds Try.pinned (OpenSpec.ofChange pieceForgetsWrong)

/-- 'topiarylaw02.PieceBack': WHATEVER THE INPUT: true; the input reads as it did. -/
def pieceBackSpec : ChangeSpec := { name := "pieceBack", fn := fun _ => fun
  | [d1, d2] => { results := [.lit (.bool true)], args := [d1, d2] }
  | _ => none }
def pieceBackRow : OpenClaim := { program := "ytfnepeilccainaa", sum := "abd2ebce6a9c89ba60e7106661d7f6effafe52952c14bc0220a2f1a2cabf85fb", func := "topiary/topiarylaw02.PieceBack", spec := "pieceBack", inPlace := ["sync/atomic.StoreInt64", "sync/atomic.LoadUint32", "internal/abi.NoEscape", "sync/atomic.StoreUint32", "slices.overlaps[topiary/piece.part]", "sync/atomic.AddInt64"], apart := false }
def PieceBackSaid : Prop := pieceBackRow.holds Try.pinned (OpenSpec.ofChange pieceBackSpec)

/-- ITS FALSE NEIGHBOUR: 'it returns false'. Refute it at one input. -/
def pieceBackWrong : ChangeSpec := { name := "pieceBack", fn := fun _ => fun
  | [d1, d2] => { results := [.lit (.bool false)], args := [d1, d2] }
  | _ => none }
def PieceBackWrongFalsely : Prop := pieceBackRow.holds Try.pinned (OpenSpec.ofChange pieceBackWrong)

/-- 'topiarylaw02.PieceActs': WHATEVER THE INPUT: true; the input reads as it did. -/
def pieceActsSpec : ChangeSpec := { name := "pieceActs", fn := fun _ => fun
  | [d1, d2] => { results := [.lit (.bool true)], args := [d1, d2] }
  | _ => none }
def pieceActsRow : OpenClaim := { program := "ytfnepeilccainaa", sum := "abd2ebce6a9c89ba60e7106661d7f6effafe52952c14bc0220a2f1a2cabf85fb", func := "topiary/topiarylaw02.PieceActs", spec := "pieceActs", inPlace := ["sync/atomic.StoreInt64", "sync/atomic.LoadUint32", "internal/abi.NoEscape", "sync/atomic.StoreUint32", "slices.overlaps[topiary/piece.part]", "sync/atomic.AddInt64", "sync/atomic.LoadInt64"], apart := false }
def PieceActsSaid : Prop := pieceActsRow.holds Try.pinned (OpenSpec.ofChange pieceActsSpec)

/-- ITS FALSE NEIGHBOUR: 'it returns false'. Refute it at one input. -/
def pieceActsWrong : ChangeSpec := { name := "pieceActs", fn := fun _ => fun
  | [d1, d2] => { results := [.lit (.bool false)], args := [d1, d2] }
  | _ => none }
def PieceActsWrongFalsely : Prop := pieceActsRow.holds Try.pinned (OpenSpec.ofChange pieceActsWrong)

/-- 'topiarylaw02.PieceSlices': WHATEVER THE INPUT: true; the input reads as it did. -/
def pieceSlicesSpec : ChangeSpec := { name := "pieceSlices", fn := fun _ => fun
  | [d1, d2, d3] => { results := [.lit (.bool true)], args := [d1, d2, d3] }
  | _ => none }
def pieceSlicesRow : OpenClaim := { program := "ytfnepeilccainaa", sum := "abd2ebce6a9c89ba60e7106661d7f6effafe52952c14bc0220a2f1a2cabf85fb", func := "topiary/topiarylaw02.PieceSlices", spec := "pieceSlices", inPlace := ["sync/atomic.StoreInt64", "sync/atomic.LoadUint32", "internal/abi.NoEscape", "sync/atomic.StoreUint32", "slices.overlaps[topiary/piece.part]", "sync/atomic.AddInt64", "sync/atomic.LoadInt64"], apart := false }
def PieceSlicesSaid : Prop := pieceSlicesRow.holds Try.pinned (OpenSpec.ofChange pieceSlicesSpec)

/-- ITS FALSE NEIGHBOUR: 'it returns false'. Refute it at one input. -/
def pieceSlicesWrong : ChangeSpec := { name := "pieceSlices", fn := fun _ => fun
  | [d1, d2, d3] => { results := [.lit (.bool false)], args := [d1, d2, d3] }
  | _ => none }
def PieceSlicesWrongFalsely : Prop := pieceSlicesRow.holds Try.pinned (OpenSpec.ofChange pieceSlicesWrong)

/-- 'topiarylaw02.PieceNews': WHATEVER THE INPUT: true; the input reads as it did. -/
def pieceNewsSpec : ChangeSpec := { name := "pieceNews", fn := fun _ => fun
  | [d] => { results := [.lit (.bool true)], args := [d] }
  | _ => none }
def pieceNewsRow : OpenClaim := { program := "ytfnepeilccainaa", sum := "abd2ebce6a9c89ba60e7106661d7f6effafe52952c14bc0220a2f1a2cabf85fb", func := "topiary/topiarylaw02.PieceNews", spec := "pieceNews", inPlace := ["sync/atomic.StoreInt64", "sync/atomic.LoadUint32", "internal/abi.NoEscape", "sync/atomic.StoreUint32", "slices.overlaps[topiary/piece.part]", "sync/atomic.AddInt64", "sync/atomic.LoadInt64"], apart := false }
def PieceNewsSaid : Prop := pieceNewsRow.holds Try.pinned (OpenSpec.ofChange pieceNewsSpec)

/-- ITS FALSE NEIGHBOUR: 'it returns false'. Refute it at one input. -/
def pieceNewsWrong : ChangeSpec := { name := "pieceNews", fn := fun _ => fun
  | [d] => { results := [.lit (.bool false)], args := [d] }
  | _ => none }
def PieceNewsWrongFalsely : Prop := pieceNewsRow.holds Try.pinned (OpenSpec.ofChange pieceNewsWrong)

/- THE SECOND FORM. 'bulk': how many values and letters a reading holds, each counted each time it is reached (what is shared counts as often as it is met; a slice's spare places count too). A statement '..UptoSaid' is the law's where the arguments, and the package variables that the reading takes, are together of bulk at most 1048576: NARROWER than '..Said'. Prove '..Said' where nothing that the law and all that it calls make is longer than what came in: it says more and counts as full. Else prove '..UptoSaid'. A law counts once. -/
mutual
def uptoBulk {H : Type} : DataW H → Nat
  | .lit (.string bytes) => bytes.length + 1
  | .lit _ => 1
  | .nil => 1
  | .ptr d => uptoBulk d + 1
  | .slice elems spare => uptoBulkAll elems + uptoBulkAll spare + 1
  | .agg parts => uptoBulkAll parts + 1
  | .iface _ d => uptoBulk d + 1
  | .map entries => uptoBulkEntries entries + 1
  | .held _ => 1
def uptoBulkAll {H : Type} : List (DataW H) → Nat
  | [] => 0
  | d :: r => uptoBulk d + uptoBulkAll r
def uptoBulkEntries {H : Type} : List (Lit × DataW H) → Nat
  | [] => 0
  | x :: r => uptoBulkEntry x + uptoBulkEntries r
def uptoBulkEntry {H : Type} : Lit × DataW H → Nat
  | (.string bytes, d) => bytes.length + uptoBulk d + 1
  | (_, d) => uptoBulk d + 1
 end
def uptoSmall : (H : Type) → List (DataW H) → Bool := fun _ ds => decide (uptoBulkAll ds ≤ 1048576)
def OpenSpec.upto (s : _root_.Go.ChangeSpec) : _root_.Go.OpenSpec := { _root_.Go.OpenSpec.ofChange s with cond := some uptoSmall }

/-- 'topiarylaw02.PieceForgets', WHERE WHAT IT READS IS OF BULK AT MOST 1048576: true; the input reads as it did. -/
def pieceForgetsUptoRow : OpenClaim := { program := "ytfnepeilccainaa", sum := "abd2ebce6a9c89ba60e7106661d7f6effafe52952c14bc0220a2f1a2cabf85fb", func := "topiary/topiarylaw02.PieceForgets", spec := "pieceForgets", inPlace := ["sync/atomic.StoreInt64", "sync/atomic.LoadUint32", "internal/abi.NoEscape", "sync/atomic.StoreUint32", "slices.overlaps[topiary/piece.part]", "sync/atomic.AddInt64"], apart := false, narrowed := true }
def PieceForgetsUptoSaid : Prop := pieceForgetsUptoRow.holds Try.pinned (OpenSpec.upto pieceForgetsSpec)

/-- 'topiarylaw02.PieceBack', WHERE WHAT IT READS IS OF BULK AT MOST 1048576: true; the input reads as it did. -/
def pieceBackUptoRow : OpenClaim := { program := "ytfnepeilccainaa", sum := "abd2ebce6a9c89ba60e7106661d7f6effafe52952c14bc0220a2f1a2cabf85fb", func := "topiary/topiarylaw02.PieceBack", spec := "pieceBack", inPlace := ["sync/atomic.StoreInt64", "sync/atomic.LoadUint32", "internal/abi.NoEscape", "sync/atomic.StoreUint32", "slices.overlaps[topiary/piece.part]", "sync/atomic.AddInt64"], apart := false, narrowed := true }
def PieceBackUptoSaid : Prop := pieceBackUptoRow.holds Try.pinned (OpenSpec.upto pieceBackSpec)

/-- 'topiarylaw02.PieceActs', WHERE WHAT IT READS IS OF BULK AT MOST 1048576: true; the input reads as it did. -/
def pieceActsUptoRow : OpenClaim := { program := "ytfnepeilccainaa", sum := "abd2ebce6a9c89ba60e7106661d7f6effafe52952c14bc0220a2f1a2cabf85fb", func := "topiary/topiarylaw02.PieceActs", spec := "pieceActs", inPlace := ["sync/atomic.StoreInt64", "sync/atomic.LoadUint32", "internal/abi.NoEscape", "sync/atomic.StoreUint32", "slices.overlaps[topiary/piece.part]", "sync/atomic.AddInt64", "sync/atomic.LoadInt64"], apart := false, narrowed := true }
def PieceActsUptoSaid : Prop := pieceActsUptoRow.holds Try.pinned (OpenSpec.upto pieceActsSpec)

/-- 'topiarylaw02.PieceSlices', WHERE WHAT IT READS IS OF BULK AT MOST 1048576: true; the input reads as it did. -/
def pieceSlicesUptoRow : OpenClaim := { program := "ytfnepeilccainaa", sum := "abd2ebce6a9c89ba60e7106661d7f6effafe52952c14bc0220a2f1a2cabf85fb", func := "topiary/topiarylaw02.PieceSlices", spec := "pieceSlices", inPlace := ["sync/atomic.StoreInt64", "sync/atomic.LoadUint32", "internal/abi.NoEscape", "sync/atomic.StoreUint32", "slices.overlaps[topiary/piece.part]", "sync/atomic.AddInt64", "sync/atomic.LoadInt64"], apart := false, narrowed := true }
def PieceSlicesUptoSaid : Prop := pieceSlicesUptoRow.holds Try.pinned (OpenSpec.upto pieceSlicesSpec)

/-- 'topiarylaw02.PieceNews', WHERE WHAT IT READS IS OF BULK AT MOST 1048576: true; the input reads as it did. -/
def pieceNewsUptoRow : OpenClaim := { program := "ytfnepeilccainaa", sum := "abd2ebce6a9c89ba60e7106661d7f6effafe52952c14bc0220a2f1a2cabf85fb", func := "topiary/topiarylaw02.PieceNews", spec := "pieceNews", inPlace := ["sync/atomic.StoreInt64", "sync/atomic.LoadUint32", "internal/abi.NoEscape", "sync/atomic.StoreUint32", "slices.overlaps[topiary/piece.part]", "sync/atomic.AddInt64", "sync/atomic.LoadInt64"], apart := false, narrowed := true }
def PieceNewsUptoSaid : Prop := pieceNewsUptoRow.holds Try.pinned (OpenSpec.upto pieceNewsSpec)

end Rows
end Go.Proofs.Ytfnepeilccainaa
