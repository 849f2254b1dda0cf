/- Proved here: what the functions below come to: walks printed by a program, over contracts of this claim. -/
import Derived.Test.YtfdpaaacgakaaaaProg
import Derived.Below
import Derived.Deep.Draws
import Derived.Deep.AppendLies
import Derived.Maps.AppendAt
import Derived.OwnWalk
import Derived.Laws.BytesArg
import Derived.Laws.MakeOwn
import Derived.Laws.OwnMore
import Derived.Deep.OwnRows
import Derived.Tactics
import Derived.Lib.ConvBytes
import Derived.Laws.Slices
import Derived.WalkKit
import Derived.KernelRfl
import Derived.RowKit3
import Derived.Deep.LoopGhost
import Derived.Deep.QuietTactic
import Derived.BigQuiet
import Derived.WideLaws
import Derived.Deep.DeepCutAuto
import Derived.Deep.CutBlock
import Derived.Deep.RegionHeld3
import Derived.Laws.Rows
import Derived.Lib.AppendStr
import Derived.ArgAppend
import Derived.Laws.IdiomCopy
import Derived.OrdersHeld
import Derived.Laws.BitsLemmas
import Derived.RowKit
import Derived.Test.YtfdpaaacgakaaaaShelf
import Derived.IntWalk
import Derived.LoopN
import Derived.WalkSpells
import Derived.Test.YtfdpaaacgakaaaaWWords
import Derived.Test.YtfdpaaacgakaaaaWLast
import Derived.Test.YtfdpaaacgakaaaaWTab
import Derived.Test.YtfdpaaacgakaaaaWFour
import Derived.Test.YtfdpaaacgakaaaaWQPut
import Derived.Test.YtfdpaaacgakaaaaWApart
import Derived.Test.YtfdpaaacgakaaaaWArr
import Derived.Test.YtfdpaaacgakaaaaWZeros
import Derived.Test.YtfdpaaacgakaaaaWFoot
import Derived.Test.YtfdpaaacgakaaaaWKept
import Derived.Test.YtfdpaaacgakaaaaWShare
import Derived.Test.YtfdpaaacgakaaaaWN
import Derived.Test.YtfdpaaacgakaaaaWFootNe
import Derived.Test.YtfdpaaacgakaaaaWAt
import Derived.Test.YtfdpaaacgakaaaaWEqStruct
import Derived.Test.YtfdpaaacgakaaaaWRepsOne
import Derived.Test.YtfdpaaacgakaaaaWInv
import Derived.Test.YtfdpaaacgakaaaaWInvWords
import Derived.Test.YtfdpaaacgakaaaaWGuard
import Derived.Test.YtfdpaaacgakaaaaWNEv
import Derived.Test.YtfdpaaacgakaaaaWMore
namespace Go.Proofs.Ytfdpaaacgakaaaa.PLinesUpdates
open Go.RowKit Go.Proofs.YtfdpaaacgakaaaaW.PrintWords Go.Proofs.YtfdpaaacgakaaaaW.PrintLast Go.Proofs.YtfdpaaacgakaaaaW.PrintMore
attribute [local go_sem] max2_int min2_int max_two min_two max_three min_three max_four min_four   -- for this text's walks alone
set_option linter.unusedVariables false
set_option linter.unusedSimpArgs false



def errW : Option Int → Value
  | none => .nilIface
  | some c => .iface 0 (.int .i64 c)
theorem errW_none : errW none = .nilIface := rfl
theorem errW_some (c : Int) : errW (some c) = .iface 0 (.int .i64 c) := rfl

theorem info3 : (Try.prog.info? 3).map (fun i => (i.zero, i.size, i.bytes)) = some (some (.int .i64 0), 1, 8) := by kernel_rfl
theorem info5 : (Try.prog.info? 5).map (fun i => (i.zero, i.size, i.bytes)) = some (some (.int .u8 0), 1, 1) := by kernel_rfl
-- the values' own types

end Go.Proofs.Ytfdpaaacgakaaaa.PLinesUpdates
