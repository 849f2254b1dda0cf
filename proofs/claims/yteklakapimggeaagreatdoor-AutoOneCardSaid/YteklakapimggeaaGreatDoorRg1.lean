/- Proved here: a part of the proof, told one step at a time: DenRn. No condition but those each theorem names. -/
import Derived.Test.YteklakapimggeaaGreatDoorRa1
import Derived.Test.YteklakapimggeaaGreatDoorRb1
import Derived.Test.YteklakapimggeaaGreatDoorRc1
import Derived.Test.YteklakapimggeaaGreatDoorRd1
import Derived.Test.YteklakapimggeaaGreatDoorRe1
import Derived.Test.YteklakapimggeaaGreatDoorRf1
import Derived.Test.YteklakapimggeaaGreatDoorKf
import Derived.KernelRfl
namespace Go.Proofs.YteklakapimggeaaGreatDoor.Den
open Go Go.Proofs
set_option linter.unusedVariables false
theorem w_a3 : (adv 60 w_i3 w_x3.env).1 = 3 := by kernel_rfl
theorem w_b3 : (isReg (adv 60 w_i3 w_x3.env).2 && (C.keep 22 (hdId (adv 60 w_i3 w_x3.env).2)).isNone && !(hdDraw (adv 60 w_i3 w_x3.env).2)) = true := by kernel_rfl
noncomputable def w_d : Call := match deferO (hdOps (adv 60 w_i3 w_x3.env).2).toList with | some c => c | none => ⟨.value (.tmp 0), #[], #[]⟩
theorem w_d3 : deferO (hdOps (adv 60 w_i3 w_x3.env).2).toList = some w_d := by kernel_rfl
def w_df : FuncId × List AV := (41, [(.p 0 []), (.p 1 []), (.p 2 [])])
theorem w_r3 {α : Type} (k : Nat) (N : X → FuncId × List AV → Option α) : opsD C (callGS C (goS C (k + 4039))) (hdOps (adv 60 w_i3 w_x3.env).2).toList (fun x => match deferA x.env w_d with | none => none | some d => forceX x fun x => N x d) (hdOps (adv 60 w_i3 w_x3.env).2).toList.dropLast [] w_x3.st.length w_x3.env (w_x3.st ++ List.replicate ((hdOps (adv 60 w_i3 w_x3.env).2).toList.dropLast.map fun o => slotsOf o.op).sum Blk.dead) [] = N w_x4 w_df := by kernel_rfl
theorem w_s3 {α : Type} {f : Func} {re : Refs} {df : DF} {fin : Refs → X → Option α} (k : Nat) : goS C (k + 4043) α false 22 f re df w_i3 w_x3 fin = goS C (k + 4039) α false 22 f re (w_df :: df) w_i4 w_x4 fin := def_ok (k := k + 4039) (by omega) w_a3 w_b3 w_d3 (w_r3 k)
theorem w_a15 : (adv 60 w_i15 w_x15.env).1 = 0 := by kernel_rfl
noncomputable def w_f : Func := Tryz.f22
def w_o : List AV := [.g [.l 62 [(.g [(.s (bs [97])), (.l 213 [(.g [(.i .i64 1), (.g [(.i .u64 0), (.i .u64 8589934592), (.i .u64 0), (.i .u64 0)])])]), (.b false)])], .l 9 [(.s (bs [115]))], .l 148 [(.g [(.i .i64 0), (.i .i64 0)]), (.g [(.i .i64 0), (.i .i64 0)])], .l 64 [(.g [(.i .i64 2), (.l 3 [(.i .i64 1), (.i .i64 2)]), (.i .i64 1)]), (.g [(.i .i64 2), (.l 3 []), (.i .i64 0)])], .i .i64 2], .i .i64 0, .i .i64 0]
theorem w_e (k : Nat) : goS C (k + 4000 + 1) (List AV) false 22 w_f (refE C 0 (C.pm 22) (parL w_f)) [w_df] (adv 60 w_i15 w_x15.env).2 w_x15 (finish C 22 w_f) = some w_o := by kernel_rfl
theorem w_in (m : Nat) : callS C m 22 [w_txt] = goS C m (List AV) false 22 w_f (refE C 0 (C.pm 22) (parL w_f)) [] w_i0 w_x0 (finish C 22 w_f) := call_in (c := w_c) Tryz.func22 (by kernel_rfl) (by kernel_rfl)
theorem w_call (k : Nat) : call C (k + 4050) 22 [w_txt] = some w_o := by
 rw [← callS_eq]
 have e : callS C (k + 4050) 22 [w_txt] = goS C (k + 4050) (List AV) false 22 w_f (refE C 0 (C.pm 22) (parL w_f)) [] w_i0 w_x0 (finish C 22 w_f) := w_in _
 rw [e, w_s0, w_s1, w_s2, w_s3, w_s4, w_s5, w_s6, w_s7, w_s8, w_s9, w_s10, w_s11, w_s12, w_s13, w_s14]
 have := adv_ok (C := C) (n := 22) (f := w_f) (re := refE C 0 (C.pm 22) (parL w_f)) (fin := finish C 22 w_f) 60 (k + 4000 + 1) w_i15 w_x15 [w_df]
 rw [w_a15] at this
 exact this.trans (w_e k)
theorem D_parse : D gram_Parse [w_txt] = some w_o := D_fin (c := 4050) (by rfl) (fun k => w_call k) Lt.ret rfl
end Go.Proofs.YteklakapimggeaaGreatDoor.Den
