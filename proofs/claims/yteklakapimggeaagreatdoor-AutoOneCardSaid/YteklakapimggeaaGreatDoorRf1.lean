/- Proved here: a part of the proof, told one step at a time: DenRn6. No condition but those each theorem names. -/
import Derived.Test.YteklakapimggeaaGreatDoorRa1
import Derived.KernelRfl
namespace Go.Proofs.YteklakapimggeaaGreatDoor.Den
open Go Go.Proofs
set_option linter.unusedVariables false
theorem w_a13 : (adv 60 w_i13 w_x13.env).1 = 1 := by kernel_rfl
theorem w_b13 : (isReg (adv 60 w_i13 w_x13.env).2 && (C.keep 22 (hdId (adv 60 w_i13 w_x13.env).2)).isNone && (hdDraw (adv 60 w_i13 w_x13.env).2 || (deferO (hdOps (adv 60 w_i13 w_x13.env).2).toList).isNone)) = true := by kernel_rfl
theorem w_r13 {α : Type} (k : Nat) (N : X → Option α) : regD C (callGS C (goS C (k + 4003))) (fun x => forceX x N) (hdOps (adv 60 w_i13 w_x13.env).2) (hdDraw (adv 60 w_i13 w_x13.env).2) w_x13 = N w_x14 := by kernel_rfl
theorem w_s13 {α : Type} {f : Func} {re : Refs} {df : DF} {fin : Refs → X → Option α} (k : Nat) : goS C (k + 4005) α false 22 f re df w_i13 w_x13 fin = goS C (k + 4003) α false 22 f re df w_i14 w_x14 fin := reg_ok (k := k + 4003) (by omega) w_a13 w_b13 (w_r13 k)
end Go.Proofs.YteklakapimggeaaGreatDoor.Den
