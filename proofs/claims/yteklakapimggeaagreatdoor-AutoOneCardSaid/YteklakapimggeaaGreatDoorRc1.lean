/- Proved here: a part of the proof, told one step at a time: DenRn3. No condition but those each theorem names. -/
import Derived.Test.YteklakapimggeaaGreatDoorRa1
import Derived.KernelRfl
namespace Go.Proofs.YteklakapimggeaaGreatDoor.Den
open Go Go.Proofs
set_option linter.unusedVariables false
theorem w_a6 : (adv 60 w_i6 w_x6.env).1 = 3 := by kernel_rfl
theorem w_b6 : (isReg (adv 60 w_i6 w_x6.env).2 && (C.keep 22 (hdId (adv 60 w_i6 w_x6.env).2)).isNone && (hdDraw (adv 60 w_i6 w_x6.env).2 || (deferO (hdOps (adv 60 w_i6 w_x6.env).2).toList).isNone)) = true := by kernel_rfl
theorem w_r6 {α : Type} (k : Nat) (N : X → Option α) : regD C (callGS C (goS C (k + 4027))) (fun x => forceX x N) (hdOps (adv 60 w_i6 w_x6.env).2) (hdDraw (adv 60 w_i6 w_x6.env).2) w_x6 = N w_x7 := by kernel_rfl
theorem w_s6 {α : Type} {f : Func} {re : Refs} {df : DF} {fin : Refs → X → Option α} (k : Nat) : goS C (k + 4031) α false 22 f re df w_i6 w_x6 fin = goS C (k + 4027) α false 22 f re df w_i7 w_x7 fin := reg_ok (k := k + 4027) (by omega) w_a6 w_b6 (w_r6 k)
end Go.Proofs.YteklakapimggeaaGreatDoor.Den
