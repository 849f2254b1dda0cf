/- Proved here: a part of the proof, told one step at a time: DenRn5. No condition but those each theorem names. -/
import Derived.Test.YteklakapimggeaaGreatDoorRa1
import Derived.KernelRfl
namespace Go.Proofs.YteklakapimggeaaGreatDoor.Den
open Go Go.Proofs
set_option linter.unusedVariables false
theorem w_a10 : (adv 60 w_i10 w_x10.env).1 = 3 := by kernel_rfl
theorem w_b10 : (isReg (adv 60 w_i10 w_x10.env).2 && (C.keep 22 (hdId (adv 60 w_i10 w_x10.env).2)).isNone && (hdDraw (adv 60 w_i10 w_x10.env).2 || (deferO (hdOps (adv 60 w_i10 w_x10.env).2).toList).isNone)) = true := by kernel_rfl
theorem w_r10 {α : Type} (k : Nat) (N : X → Option α) : regD C (callGS C (goS C (k + 4009))) (fun x => forceX x N) (hdOps (adv 60 w_i10 w_x10.env).2) (hdDraw (adv 60 w_i10 w_x10.env).2) w_x10 = N w_x11 := by kernel_rfl
theorem w_s10 {α : Type} {f : Func} {re : Refs} {df : DF} {fin : Refs → X → Option α} (k : Nat) : goS C (k + 4013) α false 22 f re df w_i10 w_x10 fin = goS C (k + 4009) α false 22 f re df w_i11 w_x11 fin := reg_ok (k := k + 4009) (by omega) w_a10 w_b10 (w_r10 k)
theorem w_a12 : (adv 60 w_i12 w_x12.env).1 = 1 := by kernel_rfl
theorem w_b12 : (isReg (adv 60 w_i12 w_x12.env).2 && (C.keep 22 (hdId (adv 60 w_i12 w_x12.env).2)).isNone && (hdDraw (adv 60 w_i12 w_x12.env).2 || (deferO (hdOps (adv 60 w_i12 w_x12.env).2).toList).isNone)) = true := by kernel_rfl
theorem w_r12 {α : Type} (k : Nat) (N : X → Option α) : regD C (callGS C (goS C (k + 4005))) (fun x => forceX x N) (hdOps (adv 60 w_i12 w_x12.env).2) (hdDraw (adv 60 w_i12 w_x12.env).2) w_x12 = N w_x13 := by kernel_rfl
theorem w_s12 {α : Type} {f : Func} {re : Refs} {df : DF} {fin : Refs → X → Option α} (k : Nat) : goS C (k + 4007) α false 22 f re df w_i12 w_x12 fin = goS C (k + 4005) α false 22 f re df w_i13 w_x13 fin := reg_ok (k := k + 4005) (by omega) w_a12 w_b12 (w_r12 k)
end Go.Proofs.YteklakapimggeaaGreatDoor.Den
