/- Proved here: a part of the proof, told one step at a time: DenRn2. No condition but those each theorem names. -/
import Derived.Test.YteklakapimggeaaGreatDoorRa1
import Derived.KernelRfl
namespace Go.Proofs.YteklakapimggeaaGreatDoor.Den
open Go Go.Proofs
set_option linter.unusedVariables false
theorem w_a1 : (adv 60 w_i1 w_x1.env).1 = 1 := by kernel_rfl
theorem w_b1 : (isReg (adv 60 w_i1 w_x1.env).2 && (C.keep 22 (hdId (adv 60 w_i1 w_x1.env).2)).isNone && (hdDraw (adv 60 w_i1 w_x1.env).2 || (deferO (hdOps (adv 60 w_i1 w_x1.env).2).toList).isNone)) = true := by kernel_rfl
theorem w_r1 {α : Type} (k : Nat) (N : X → Option α) : regD C (callGS C (goS C (k + 4046))) (fun x => forceX x N) (hdOps (adv 60 w_i1 w_x1.env).2) (hdDraw (adv 60 w_i1 w_x1.env).2) w_x1 = N w_x2 := by kernel_rfl
theorem w_s1 {α : Type} {f : Func} {re : Refs} {df : DF} {fin : Refs → X → Option α} (k : Nat) : goS C (k + 4048) α false 22 f re df w_i1 w_x1 fin = goS C (k + 4046) α false 22 f re df w_i2 w_x2 fin := reg_ok (k := k + 4046) (by omega) w_a1 w_b1 (w_r1 k)
end Go.Proofs.YteklakapimggeaaGreatDoor.Den
