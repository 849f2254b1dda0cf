/- Proved here: a part of the proof, told one step at a time: DenRn4. No condition but those each theorem names. -/
import Derived.Test.YteklakapimggeaaGreatDoorRa1
import Derived.KernelRfl
namespace Go.Proofs.YteklakapimggeaaGreatDoor.Den
open Go Go.Proofs
set_option linter.unusedVariables false
theorem w_a8 : (adv 60 w_i8 w_x8.env).1 = 3 := by kernel_rfl
theorem w_b8 : (isReg (adv 60 w_i8 w_x8.env).2 && (C.keep 22 (hdId (adv 60 w_i8 w_x8.env).2)).isNone && (hdDraw (adv 60 w_i8 w_x8.env).2 || (deferO (hdOps (adv 60 w_i8 w_x8.env).2).toList).isNone)) = true := by kernel_rfl
theorem w_r8 {α : Type} (k : Nat) (N : X → Option α) : regD C (callGS C (goS C (k + 4018))) (fun x => forceX x N) (hdOps (adv 60 w_i8 w_x8.env).2) (hdDraw (adv 60 w_i8 w_x8.env).2) w_x8 = N w_x9 := by kernel_rfl
theorem w_s8 {α : Type} {f : Func} {re : Refs} {df : DF} {fin : Refs → X → Option α} (k : Nat) : goS C (k + 4022) α false 22 f re df w_i8 w_x8 fin = goS C (k + 4018) α false 22 f re df w_i9 w_x9 fin := reg_ok (k := k + 4018) (by omega) w_a8 w_b8 (w_r8 k)
end Go.Proofs.YteklakapimggeaaGreatDoor.Den
