/- Proved here: a part of the proof, told one step at a time: DenEqN, DenEq. No condition but those each theorem names. -/
import Derived.Test.YteklakapimggeaaGreatDoorQa1
import Derived.Test.YteklakapimggeaaGreatDoorKf
import Derived.Test.YteklakapimggeaaGreatDoorQb1
import Derived.Test.YteklakapimggeaaGreatDoorQc1
import Derived.Test.YteklakapimggeaaGreatDoorQd1
import Derived.Test.YteklakapimggeaaGreatDoorQe1
namespace Go.Proofs.YteklakapimggeaaGreatDoor.Den
open Go Go.Proofs
set_option linter.unusedVariables false
theorem l2_r (k : Nat) (y0 : ByteArray) (y1 : Int) (N : X → Option (List AV)) : regD C (callG C (go C (k + 10))) N (rOps (cAt [1, 1, 0, 0, 0, 0, 0] b67)) false ⟨[(AV.s y0), AV.u, AV.u, (AV.i .i64 y1), AV.u, AV.u, AV.u, AV.u, AV.u, AV.u, AV.u, AV.u, AV.u, AV.u, AV.u, AV.u, AV.u, AV.u, AV.u, AV.u, AV.u, AV.u, AV.u, AV.u, AV.u, AV.u, AV.u, AV.u, AV.u, AV.u, AV.u, AV.u, AV.u, AV.u, AV.u], []⟩ =
  if (decide (y1 < ((ByteArray.size y0 : Nat) : Int))) = true then
  if 0 ≤ y1 ∧ y1 < ((ByteArray.size y0 : Nat) : Int) then
   (callP C (callF C (k + 10)) 99 [(AV.i .u8 ((((y0).data.getD (Int.toNat y1) 0).toNat : Nat) : Int))]).bind fun o1 =>
    if (AV.bool (List.headD o1 .u)) = false then
    if (decide (y1 > (0 : Int))) = true then
     if 0 ≤ y1 ∧ y1 < ((ByteArray.size y0 : Nat) : Int) then
      if (decide (((((y0).data.getD (Int.toNat y1) 0).toNat : Nat) : Int) ≥ (48 : Int))) = true then
       if 0 ≤ y1 ∧ y1 < ((ByteArray.size y0 : Nat) : Int) then
        N ⟨[(AV.s y0), AV.u, AV.u, (AV.i .i64 y1), (AV.i .i64 y1), (AV.s y0), (AV.i .i64 ((ByteArray.size y0 : Nat) : Int)), (AV.b (decide (y1 < ((ByteArray.size y0 : Nat) : Int)))), (AV.b true), (AV.s y0), (AV.i .i64 y1), (AV.i .u8 ((((y0).data.getD (Int.toNat y1) 0).toNat : Nat) : Int)), (AV.b (AV.bool (List.headD o1 .u))), (AV.b false), (AV.i .i64 y1), (AV.b (decide (y1 > (0 : Int)))), (AV.b true), (AV.s y0), (AV.i .i64 y1), (AV.i .u8 ((((y0).data.getD (Int.toNat y1) 0).toNat : Nat) : Int)), (AV.b (decide (((((y0).data.getD (Int.toNat y1) 0).toNat : Nat) : Int) ≥ (48 : Int)))), (AV.b (decide (((((y0).data.getD (Int.toNat y1) 0).toNat : Nat) : Int) ≥ (48 : Int)))), (AV.b true), (AV.s y0), (AV.i .i64 y1), (AV.i .u8 ((((y0).data.getD (Int.toNat y1) 0).toNat : Nat) : Int)), (AV.b (decide (((((y0).data.getD (Int.toNat y1) 0).toNat : Nat) : Int) ≤ (57 : Int)))), (AV.b (decide (((((y0).data.getD (Int.toNat y1) 0).toNat : Nat) : Int) ≤ (57 : Int)))), (AV.b (decide (((((y0).data.getD (Int.toNat y1) 0).toNat : Nat) : Int) ≤ (57 : Int)))), (AV.b (decide (((((y0).data.getD (Int.toNat y1) 0).toNat : Nat) : Int) ≤ (57 : Int)))), AV.u, AV.u, AV.u, AV.u, AV.u], [Blk.dead, Blk.dead, Blk.dead, Blk.dead, Blk.dead, Blk.dead, Blk.dead, Blk.dead]⟩
       else
        none
      else
       N ⟨[(AV.s y0), AV.u, AV.u, (AV.i .i64 y1), (AV.i .i64 y1), (AV.s y0), (AV.i .i64 ((ByteArray.size y0 : Nat) : Int)), (AV.b (decide (y1 < ((ByteArray.size y0 : Nat) : Int)))), (AV.b true), (AV.s y0), (AV.i .i64 y1), (AV.i .u8 ((((y0).data.getD (Int.toNat y1) 0).toNat : Nat) : Int)), (AV.b (AV.bool (List.headD o1 .u))), (AV.b false), (AV.i .i64 y1), (AV.b (decide (y1 > (0 : Int)))), (AV.b true), (AV.s y0), (AV.i .i64 y1), (AV.i .u8 ((((y0).data.getD (Int.toNat y1) 0).toNat : Nat) : Int)), (AV.b (decide (((((y0).data.getD (Int.toNat y1) 0).toNat : Nat) : Int) ≥ (48 : Int)))), (AV.b (decide (((((y0).data.getD (Int.toNat y1) 0).toNat : Nat) : Int) ≥ (48 : Int)))), (AV.b false), (AV.t []), (AV.t []), (AV.t []), (AV.t []), (AV.b false), (AV.b false), (AV.b false), AV.u, AV.u, AV.u, AV.u, AV.u], [Blk.dead, Blk.dead, Blk.dead, Blk.dead, Blk.dead, Blk.dead, Blk.dead, Blk.dead]⟩
     else
      none
    else
     N ⟨[(AV.s y0), AV.u, AV.u, (AV.i .i64 y1), (AV.i .i64 y1), (AV.s y0), (AV.i .i64 ((ByteArray.size y0 : Nat) : Int)), (AV.b (decide (y1 < ((ByteArray.size y0 : Nat) : Int)))), (AV.b true), (AV.s y0), (AV.i .i64 y1), (AV.i .u8 ((((y0).data.getD (Int.toNat y1) 0).toNat : Nat) : Int)), (AV.b (AV.bool (List.headD o1 .u))), (AV.b false), (AV.i .i64 y1), (AV.b (decide (y1 > (0 : Int)))), (AV.b false), (AV.t []), (AV.t []), (AV.t []), (AV.t []), (AV.b false), (AV.b false), (AV.t []), (AV.t []), (AV.t []), (AV.t []), (AV.b false), (AV.b false), (AV.b false), AV.u, AV.u, AV.u, AV.u, AV.u], [Blk.dead, Blk.dead, Blk.dead, Blk.dead, Blk.dead, Blk.dead, Blk.dead, Blk.dead]⟩
   else
    N ⟨[(AV.s y0), AV.u, AV.u, (AV.i .i64 y1), (AV.i .i64 y1), (AV.s y0), (AV.i .i64 ((ByteArray.size y0 : Nat) : Int)), (AV.b (decide (y1 < ((ByteArray.size y0 : Nat) : Int)))), (AV.b true), (AV.s y0), (AV.i .i64 y1), (AV.i .u8 ((((y0).data.getD (Int.toNat y1) 0).toNat : Nat) : Int)), (AV.b (AV.bool (List.headD o1 .u))), (AV.b true), (AV.t []), (AV.t []), (AV.t []), (AV.t []), (AV.t []), (AV.t []), (AV.t []), (AV.t []), (AV.t []), (AV.t []), (AV.t []), (AV.t []), (AV.t []), (AV.t []), (AV.b true), (AV.b true), AV.u, AV.u, AV.u, AV.u, AV.u], [Blk.dead, Blk.dead, Blk.dead, Blk.dead, Blk.dead, Blk.dead, Blk.dead, Blk.dead]⟩
  else
   none
 else
  N ⟨[(AV.s y0), AV.u, AV.u, (AV.i .i64 y1), (AV.i .i64 y1), (AV.s y0), (AV.i .i64 ((ByteArray.size y0 : Nat) : Int)), (AV.b (decide (y1 < ((ByteArray.size y0 : Nat) : Int)))), (AV.b false), (AV.t []), (AV.t []), (AV.t []), (AV.t []), (AV.t []), (AV.t []), (AV.t []), (AV.t []), (AV.t []), (AV.t []), (AV.t []), (AV.t []), (AV.t []), (AV.t []), (AV.t []), (AV.t []), (AV.t []), (AV.t []), (AV.t []), (AV.t []), (AV.b false), AV.u, AV.u, AV.u, AV.u, AV.u], [Blk.dead, Blk.dead, Blk.dead, Blk.dead, Blk.dead, Blk.dead, Blk.dead, Blk.dead]⟩ := by kernel_rfl
theorem hA67 : cAt [1, 1, 0, 0, 0, 0, 1] b67 = .cond (.tmp 29) .skip (.exit 0) := by kernel_rfl
theorem hB67 : cAt [1, 1, 0, 0, 0, 1] b67 = .block 1 (.region 3 (rOps (cAt [1, 1, 0, 0, 0, 1, 0] b67)) false) := by kernel_rfl
theorem hL67 : cAt [1, 1, 0, 0, 0] b67 = .seq (.seq (cAt [1, 1, 0, 0, 0, 0, 0] b67) (cAt [1, 1, 0, 0, 0, 0, 1] b67)) (cAt [1, 1, 0, 0, 0, 1] b67) := by kernel_rfl
theorem hk67 : (if false = true then none else C.keep 67 3) = none := by kernel_rfl
theorem hd67 : deferO (rOps (cAt [1, 1, 0, 0, 0, 1, 0] b67)).toList = none := by kernel_rfl
theorem l2_ar (call : CallF) (N : X → Option (List AV)) (y0 : ByteArray) (y1 : Int) (o1 : List AV) : regD C call N (rOps (cAt [1, 1, 0, 0, 0, 1, 0] b67)) false ⟨[(AV.s y0), AV.u, AV.u, (AV.i .i64 y1), (AV.i .i64 y1), (AV.s y0), (AV.i .i64 ((ByteArray.size y0 : Nat) : Int)), (AV.b (decide (y1 < ((ByteArray.size y0 : Nat) : Int)))), (AV.b true), (AV.s y0), (AV.i .i64 y1), (AV.i .u8 ((((y0).data.getD (Int.toNat y1) 0).toNat : Nat) : Int)), (AV.b (AV.bool (List.headD o1 .u))), (AV.b true), (AV.t []), (AV.t []), (AV.t []), (AV.t []), (AV.t []), (AV.t []), (AV.t []), (AV.t []), (AV.t []), (AV.t []), (AV.t []), (AV.t []), (AV.t []), (AV.t []), (AV.b true), (AV.b true), AV.u, AV.u, AV.u, AV.u, AV.u], [Blk.dead, Blk.dead, Blk.dead, Blk.dead, Blk.dead, Blk.dead, Blk.dead, Blk.dead]⟩ = N ⟨[(AV.s y0), AV.u, AV.u, (AV.i .i64 (IntKind.wrap .i64 (y1 + (1 : Int)))), (AV.i .i64 y1), (AV.s y0), (AV.i .i64 ((ByteArray.size y0 : Nat) : Int)), (AV.b (decide (y1 < ((ByteArray.size y0 : Nat) : Int)))), (AV.b true), (AV.s y0), (AV.i .i64 y1), (AV.i .u8 ((((y0).data.getD (Int.toNat y1) 0).toNat : Nat) : Int)), (AV.b (AV.bool (List.headD o1 .u))), (AV.b true), (AV.t []), (AV.t []), (AV.t []), (AV.t []), (AV.t []), (AV.t []), (AV.t []), (AV.t []), (AV.t []), (AV.t []), (AV.t []), (AV.t []), (AV.t []), (AV.t []), (AV.b true), (AV.b true), (AV.i .i64 y1), (AV.i .i64 (IntKind.wrap .i64 (y1 + (1 : Int)))), AV.u, AV.u, AV.u], [Blk.dead, Blk.dead, Blk.dead, Blk.dead, Blk.dead, Blk.dead, Blk.dead, Blk.dead]⟩ := by kernel_rfl
theorem l2_at (k : Nat) (y0 : ByteArray) (y1 : Int) (o1 : List AV) : go C (k + 2) (List AV) false 67 Tryz.f67 [] [] (.code (cAt [1, 1, 0, 0, 0, 0, 0] b67) :: [.code (cAt [1, 1, 0, 0, 0, 0, 1] b67), .code (cAt [1, 1, 0, 0, 0, 1] b67), .lp (cAt [1, 1, 0, 0, 0] b67), .blk 0, .code (cAt [1, 1, 1] b67)]) ⟨[(AV.s y0), AV.u, AV.u, (AV.i .i64 (IntKind.wrap .i64 (y1 + (1 : Int)))), (AV.i .i64 y1), (AV.s y0), (AV.i .i64 ((ByteArray.size y0 : Nat) : Int)), (AV.b (decide (y1 < ((ByteArray.size y0 : Nat) : Int)))), (AV.b true), (AV.s y0), (AV.i .i64 y1), (AV.i .u8 ((((y0).data.getD (Int.toNat y1) 0).toNat : Nat) : Int)), (AV.b (AV.bool (List.headD o1 .u))), (AV.b true), (AV.t []), (AV.t []), (AV.t []), (AV.t []), (AV.t []), (AV.t []), (AV.t []), (AV.t []), (AV.t []), (AV.t []), (AV.t []), (AV.t []), (AV.t []), (AV.t []), (AV.b true), (AV.b true), (AV.i .i64 y1), (AV.i .i64 (IntKind.wrap .i64 (y1 + (1 : Int)))), AV.u, AV.u, AV.u], [Blk.dead, Blk.dead, Blk.dead, Blk.dead, Blk.dead, Blk.dead, Blk.dead, Blk.dead]⟩ (finish C 67 Tryz.f67) = l_word_name_r2 (k + 1) (y0) ((IntKind.wrap .i64 (y1 + (1 : Int)))) := by kernel_rfl
theorem l2_a (k : Nat) (y0 : ByteArray) (y1 : Int) (o1 : List AV) : go C (k + 9) (List AV) false 67 Tryz.f67 [] [] (.code .skip :: .code (cAt [1, 1, 0, 0, 0, 1] b67) :: [.lp (cAt [1, 1, 0, 0, 0] b67), .blk 0, .code (cAt [1, 1, 1] b67)]) ⟨[(AV.s y0), AV.u, AV.u, (AV.i .i64 y1), (AV.i .i64 y1), (AV.s y0), (AV.i .i64 ((ByteArray.size y0 : Nat) : Int)), (AV.b (decide (y1 < ((ByteArray.size y0 : Nat) : Int)))), (AV.b true), (AV.s y0), (AV.i .i64 y1), (AV.i .u8 ((((y0).data.getD (Int.toNat y1) 0).toNat : Nat) : Int)), (AV.b (AV.bool (List.headD o1 .u))), (AV.b true), (AV.t []), (AV.t []), (AV.t []), (AV.t []), (AV.t []), (AV.t []), (AV.t []), (AV.t []), (AV.t []), (AV.t []), (AV.t []), (AV.t []), (AV.t []), (AV.t []), (AV.b true), (AV.b true), AV.u, AV.u, AV.u, AV.u, AV.u], [Blk.dead, Blk.dead, Blk.dead, Blk.dead, Blk.dead, Blk.dead, Blk.dead, Blk.dead]⟩ (finish C 67 Tryz.f67) = l_word_name_r2 (k + 1) (y0) ((IntKind.wrap .i64 (y1 + (1 : Int)))) := by
  rw [go_skip, hB67, go_block, go_reg hk67 hd67, l2_ar]
  dsimp only
  rw [go_blk, go_lp, hL67, go_seq, go_seq, ← hL67]
  exact l2_at k y0 y1 o1
theorem l2_br (call : CallF) (N : X → Option (List AV)) (y0 : ByteArray) (y1 : Int) (o1 : List AV) : regD C call N (rOps (cAt [1, 1, 0, 0, 0, 1, 0] b67)) false ⟨[(AV.s y0), AV.u, AV.u, (AV.i .i64 y1), (AV.i .i64 y1), (AV.s y0), (AV.i .i64 ((ByteArray.size y0 : Nat) : Int)), (AV.b (decide (y1 < ((ByteArray.size y0 : Nat) : Int)))), (AV.b true), (AV.s y0), (AV.i .i64 y1), (AV.i .u8 ((((y0).data.getD (Int.toNat y1) 0).toNat : Nat) : Int)), (AV.b (AV.bool (List.headD o1 .u))), (AV.b false), (AV.i .i64 y1), (AV.b (decide (y1 > (0 : Int)))), (AV.b true), (AV.s y0), (AV.i .i64 y1), (AV.i .u8 ((((y0).data.getD (Int.toNat y1) 0).toNat : Nat) : Int)), (AV.b (decide (((((y0).data.getD (Int.toNat y1) 0).toNat : Nat) : Int) ≥ (48 : Int)))), (AV.b (decide (((((y0).data.getD (Int.toNat y1) 0).toNat : Nat) : Int) ≥ (48 : Int)))), (AV.b true), (AV.s y0), (AV.i .i64 y1), (AV.i .u8 ((((y0).data.getD (Int.toNat y1) 0).toNat : Nat) : Int)), (AV.b (decide (((((y0).data.getD (Int.toNat y1) 0).toNat : Nat) : Int) ≤ (57 : Int)))), (AV.b (decide (((((y0).data.getD (Int.toNat y1) 0).toNat : Nat) : Int) ≤ (57 : Int)))), (AV.b (decide (((((y0).data.getD (Int.toNat y1) 0).toNat : Nat) : Int) ≤ (57 : Int)))), (AV.b (decide (((((y0).data.getD (Int.toNat y1) 0).toNat : Nat) : Int) ≤ (57 : Int)))), AV.u, AV.u, AV.u, AV.u, AV.u], [Blk.dead, Blk.dead, Blk.dead, Blk.dead, Blk.dead, Blk.dead, Blk.dead, Blk.dead]⟩ = N ⟨[(AV.s y0), AV.u, AV.u, (AV.i .i64 (IntKind.wrap .i64 (y1 + (1 : Int)))), (AV.i .i64 y1), (AV.s y0), (AV.i .i64 ((ByteArray.size y0 : Nat) : Int)), (AV.b (decide (y1 < ((ByteArray.size y0 : Nat) : Int)))), (AV.b true), (AV.s y0), (AV.i .i64 y1), (AV.i .u8 ((((y0).data.getD (Int.toNat y1) 0).toNat : Nat) : Int)), (AV.b (AV.bool (List.headD o1 .u))), (AV.b false), (AV.i .i64 y1), (AV.b (decide (y1 > (0 : Int)))), (AV.b true), (AV.s y0), (AV.i .i64 y1), (AV.i .u8 ((((y0).data.getD (Int.toNat y1) 0).toNat : Nat) : Int)), (AV.b (decide (((((y0).data.getD (Int.toNat y1) 0).toNat : Nat) : Int) ≥ (48 : Int)))), (AV.b (decide (((((y0).data.getD (Int.toNat y1) 0).toNat : Nat) : Int) ≥ (48 : Int)))), (AV.b true), (AV.s y0), (AV.i .i64 y1), (AV.i .u8 ((((y0).data.getD (Int.toNat y1) 0).toNat : Nat) : Int)), (AV.b (decide (((((y0).data.getD (Int.toNat y1) 0).toNat : Nat) : Int) ≤ (57 : Int)))), (AV.b (decide (((((y0).data.getD (Int.toNat y1) 0).toNat : Nat) : Int) ≤ (57 : Int)))), (AV.b (decide (((((y0).data.getD (Int.toNat y1) 0).toNat : Nat) : Int) ≤ (57 : Int)))), (AV.b (decide (((((y0).data.getD (Int.toNat y1) 0).toNat : Nat) : Int) ≤ (57 : Int)))), (AV.i .i64 y1), (AV.i .i64 (IntKind.wrap .i64 (y1 + (1 : Int)))), AV.u, AV.u, AV.u], [Blk.dead, Blk.dead, Blk.dead, Blk.dead, Blk.dead, Blk.dead, Blk.dead, Blk.dead]⟩ := by kernel_rfl
theorem l2_bt (k : Nat) (y0 : ByteArray) (y1 : Int) (o1 : List AV) : go C (k + 2) (List AV) false 67 Tryz.f67 [] [] (.code (cAt [1, 1, 0, 0, 0, 0, 0] b67) :: [.code (cAt [1, 1, 0, 0, 0, 0, 1] b67), .code (cAt [1, 1, 0, 0, 0, 1] b67), .lp (cAt [1, 1, 0, 0, 0] b67), .blk 0, .code (cAt [1, 1, 1] b67)]) ⟨[(AV.s y0), AV.u, AV.u, (AV.i .i64 (IntKind.wrap .i64 (y1 + (1 : Int)))), (AV.i .i64 y1), (AV.s y0), (AV.i .i64 ((ByteArray.size y0 : Nat) : Int)), (AV.b (decide (y1 < ((ByteArray.size y0 : Nat) : Int)))), (AV.b true), (AV.s y0), (AV.i .i64 y1), (AV.i .u8 ((((y0).data.getD (Int.toNat y1) 0).toNat : Nat) : Int)), (AV.b (AV.bool (List.headD o1 .u))), (AV.b false), (AV.i .i64 y1), (AV.b (decide (y1 > (0 : Int)))), (AV.b true), (AV.s y0), (AV.i .i64 y1), (AV.i .u8 ((((y0).data.getD (Int.toNat y1) 0).toNat : Nat) : Int)), (AV.b (decide (((((y0).data.getD (Int.toNat y1) 0).toNat : Nat) : Int) ≥ (48 : Int)))), (AV.b (decide (((((y0).data.getD (Int.toNat y1) 0).toNat : Nat) : Int) ≥ (48 : Int)))), (AV.b true), (AV.s y0), (AV.i .i64 y1), (AV.i .u8 ((((y0).data.getD (Int.toNat y1) 0).toNat : Nat) : Int)), (AV.b (decide (((((y0).data.getD (Int.toNat y1) 0).toNat : Nat) : Int) ≤ (57 : Int)))), (AV.b (decide (((((y0).data.getD (Int.toNat y1) 0).toNat : Nat) : Int) ≤ (57 : Int)))), (AV.b (decide (((((y0).data.getD (Int.toNat y1) 0).toNat : Nat) : Int) ≤ (57 : Int)))), (AV.b (decide (((((y0).data.getD (Int.toNat y1) 0).toNat : Nat) : Int) ≤ (57 : Int)))), (AV.i .i64 y1), (AV.i .i64 (IntKind.wrap .i64 (y1 + (1 : Int)))), AV.u, AV.u, AV.u], [Blk.dead, Blk.dead, Blk.dead, Blk.dead, Blk.dead, Blk.dead, Blk.dead, Blk.dead]⟩ (finish C 67 Tryz.f67) = l_word_name_r2 (k + 1) (y0) ((IntKind.wrap .i64 (y1 + (1 : Int)))) := by kernel_rfl
theorem l2_b (k : Nat) (y0 : ByteArray) (y1 : Int) (o1 : List AV) : go C (k + 9) (List AV) false 67 Tryz.f67 [] [] (.code .skip :: .code (cAt [1, 1, 0, 0, 0, 1] b67) :: [.lp (cAt [1, 1, 0, 0, 0] b67), .blk 0, .code (cAt [1, 1, 1] b67)]) ⟨[(AV.s y0), AV.u, AV.u, (AV.i .i64 y1), (AV.i .i64 y1), (AV.s y0), (AV.i .i64 ((ByteArray.size y0 : Nat) : Int)), (AV.b (decide (y1 < ((ByteArray.size y0 : Nat) : Int)))), (AV.b true), (AV.s y0), (AV.i .i64 y1), (AV.i .u8 ((((y0).data.getD (Int.toNat y1) 0).toNat : Nat) : Int)), (AV.b (AV.bool (List.headD o1 .u))), (AV.b false), (AV.i .i64 y1), (AV.b (decide (y1 > (0 : Int)))), (AV.b true), (AV.s y0), (AV.i .i64 y1), (AV.i .u8 ((((y0).data.getD (Int.toNat y1) 0).toNat : Nat) : Int)), (AV.b (decide (((((y0).data.getD (Int.toNat y1) 0).toNat : Nat) : Int) ≥ (48 : Int)))), (AV.b (decide (((((y0).data.getD (Int.toNat y1) 0).toNat : Nat) : Int) ≥ (48 : Int)))), (AV.b true), (AV.s y0), (AV.i .i64 y1), (AV.i .u8 ((((y0).data.getD (Int.toNat y1) 0).toNat : Nat) : Int)), (AV.b (decide (((((y0).data.getD (Int.toNat y1) 0).toNat : Nat) : Int) ≤ (57 : Int)))), (AV.b (decide (((((y0).data.getD (Int.toNat y1) 0).toNat : Nat) : Int) ≤ (57 : Int)))), (AV.b (decide (((((y0).data.getD (Int.toNat y1) 0).toNat : Nat) : Int) ≤ (57 : Int)))), (AV.b (decide (((((y0).data.getD (Int.toNat y1) 0).toNat : Nat) : Int) ≤ (57 : Int)))), AV.u, AV.u, AV.u, AV.u, AV.u], [Blk.dead, Blk.dead, Blk.dead, Blk.dead, Blk.dead, Blk.dead, Blk.dead, Blk.dead]⟩ (finish C 67 Tryz.f67) = l_word_name_r2 (k + 1) (y0) ((IntKind.wrap .i64 (y1 + (1 : Int)))) := by
  rw [go_skip, hB67, go_block, go_reg hk67 hd67, l2_br]
  dsimp only
  rw [go_blk, go_lp, hL67, go_seq, go_seq, ← hL67]
  exact l2_bt k y0 y1 o1
theorem l2_1 (k : Nat) (y0 : ByteArray) (y1 : Int) (o1 : List AV) : go C (k + 10) (List AV) false 67 Tryz.f67 [] [] [.code (cAt [1, 1, 0, 0, 0, 0, 1] b67), .code (cAt [1, 1, 0, 0, 0, 1] b67), .lp (cAt [1, 1, 0, 0, 0] b67), .blk 0, .code (cAt [1, 1, 1] b67)] ⟨[(AV.s y0), AV.u, AV.u, (AV.i .i64 y1), (AV.i .i64 y1), (AV.s y0), (AV.i .i64 ((ByteArray.size y0 : Nat) : Int)), (AV.b (decide (y1 < ((ByteArray.size y0 : Nat) : Int)))), (AV.b true), (AV.s y0), (AV.i .i64 y1), (AV.i .u8 ((((y0).data.getD (Int.toNat y1) 0).toNat : Nat) : Int)), (AV.b (AV.bool (List.headD o1 .u))), (AV.b false), (AV.i .i64 y1), (AV.b (decide (y1 > (0 : Int)))), (AV.b true), (AV.s y0), (AV.i .i64 y1), (AV.i .u8 ((((y0).data.getD (Int.toNat y1) 0).toNat : Nat) : Int)), (AV.b (decide (((((y0).data.getD (Int.toNat y1) 0).toNat : Nat) : Int) ≥ (48 : Int)))), (AV.b (decide (((((y0).data.getD (Int.toNat y1) 0).toNat : Nat) : Int) ≥ (48 : Int)))), (AV.b false), (AV.t []), (AV.t []), (AV.t []), (AV.t []), (AV.b false), (AV.b false), (AV.b false), AV.u, AV.u, AV.u, AV.u, AV.u], [Blk.dead, Blk.dead, Blk.dead, Blk.dead, Blk.dead, Blk.dead, Blk.dead, Blk.dead]⟩ (finish C 67 Tryz.f67) = (if (decide (y1 > (16 : Int))) = true then some [(AV.i .i64 (0 : Int))] else some [(AV.i .i64 y1)]) := by kernel_rfl
theorem l2_2 (k : Nat) (y0 : ByteArray) (y1 : Int) (o1 : List AV) : go C (k + 10) (List AV) false 67 Tryz.f67 [] [] [.code (cAt [1, 1, 0, 0, 0, 0, 1] b67), .code (cAt [1, 1, 0, 0, 0, 1] b67), .lp (cAt [1, 1, 0, 0, 0] b67), .blk 0, .code (cAt [1, 1, 1] b67)] ⟨[(AV.s y0), AV.u, AV.u, (AV.i .i64 y1), (AV.i .i64 y1), (AV.s y0), (AV.i .i64 ((ByteArray.size y0 : Nat) : Int)), (AV.b (decide (y1 < ((ByteArray.size y0 : Nat) : Int)))), (AV.b true), (AV.s y0), (AV.i .i64 y1), (AV.i .u8 ((((y0).data.getD (Int.toNat y1) 0).toNat : Nat) : Int)), (AV.b (AV.bool (List.headD o1 .u))), (AV.b false), (AV.i .i64 y1), (AV.b (decide (y1 > (0 : Int)))), (AV.b false), (AV.t []), (AV.t []), (AV.t []), (AV.t []), (AV.b false), (AV.b false), (AV.t []), (AV.t []), (AV.t []), (AV.t []), (AV.b false), (AV.b false), (AV.b false), AV.u, AV.u, AV.u, AV.u, AV.u], [Blk.dead, Blk.dead, Blk.dead, Blk.dead, Blk.dead, Blk.dead, Blk.dead, Blk.dead]⟩ (finish C 67 Tryz.f67) = (if (decide (y1 > (16 : Int))) = true then some [(AV.i .i64 (0 : Int))] else some [(AV.i .i64 y1)]) := by kernel_rfl
theorem l2_4 (k : Nat) (y0 : ByteArray) (y1 : Int) (o1 : List AV) : go C (k + 10) (List AV) false 67 Tryz.f67 [] [] [.code (cAt [1, 1, 0, 0, 0, 0, 1] b67), .code (cAt [1, 1, 0, 0, 0, 1] b67), .lp (cAt [1, 1, 0, 0, 0] b67), .blk 0, .code (cAt [1, 1, 1] b67)] ⟨[(AV.s y0), AV.u, AV.u, (AV.i .i64 y1), (AV.i .i64 y1), (AV.s y0), (AV.i .i64 ((ByteArray.size y0 : Nat) : Int)), (AV.b (decide (y1 < ((ByteArray.size y0 : Nat) : Int)))), (AV.b false), (AV.t []), (AV.t []), (AV.t []), (AV.t []), (AV.t []), (AV.t []), (AV.t []), (AV.t []), (AV.t []), (AV.t []), (AV.t []), (AV.t []), (AV.t []), (AV.t []), (AV.t []), (AV.t []), (AV.t []), (AV.t []), (AV.t []), (AV.t []), (AV.b false), AV.u, AV.u, AV.u, AV.u, AV.u], [Blk.dead, Blk.dead, Blk.dead, Blk.dead, Blk.dead, Blk.dead, Blk.dead, Blk.dead]⟩ (finish C 67 Tryz.f67) = (if (decide (y1 > (16 : Int))) = true then some [(AV.i .i64 (0 : Int))] else some [(AV.i .i64 y1)]) := by kernel_rfl
theorem l2_3 (k : Nat) (y0 : ByteArray) (y1 : Int) (o1 : List AV) : go C (k + 10) (List AV) false 67 Tryz.f67 [] [] [.code (cAt [1, 1, 0, 0, 0, 0, 1] b67), .code (cAt [1, 1, 0, 0, 0, 1] b67), .lp (cAt [1, 1, 0, 0, 0] b67), .blk 0, .code (cAt [1, 1, 1] b67)] ⟨[(AV.s y0), AV.u, AV.u, (AV.i .i64 y1), (AV.i .i64 y1), (AV.s y0), (AV.i .i64 ((ByteArray.size y0 : Nat) : Int)), (AV.b (decide (y1 < ((ByteArray.size y0 : Nat) : Int)))), (AV.b true), (AV.s y0), (AV.i .i64 y1), (AV.i .u8 ((((y0).data.getD (Int.toNat y1) 0).toNat : Nat) : Int)), (AV.b (AV.bool (List.headD o1 .u))), (AV.b true), (AV.t []), (AV.t []), (AV.t []), (AV.t []), (AV.t []), (AV.t []), (AV.t []), (AV.t []), (AV.t []), (AV.t []), (AV.t []), (AV.t []), (AV.t []), (AV.t []), (AV.b true), (AV.b true), AV.u, AV.u, AV.u, AV.u, AV.u], [Blk.dead, Blk.dead, Blk.dead, Blk.dead, Blk.dead, Blk.dead, Blk.dead, Blk.dead]⟩ (finish C 67 Tryz.f67) = l_word_name_r2 (k + 1) (y0) ((IntKind.wrap .i64 (y1 + (1 : Int)))) := by
  rw [hA67, go_cond (t := true) rfl, if_pos rfl]
  exact l2_a k y0 y1 o1
theorem l2_0x (k : Nat) (y0 : ByteArray) (y1 : Int) (o1 : List AV) : go C (k + 9) (List AV) false 67 Tryz.f67 [] [] (.code (.exit 0) :: .code (cAt [1, 1, 0, 0, 0, 1] b67) :: [.lp (cAt [1, 1, 0, 0, 0] b67), .blk 0, .code (cAt [1, 1, 1] b67)]) ⟨[(AV.s y0), AV.u, AV.u, (AV.i .i64 y1), (AV.i .i64 y1), (AV.s y0), (AV.i .i64 ((ByteArray.size y0 : Nat) : Int)), (AV.b (decide (y1 < ((ByteArray.size y0 : Nat) : Int)))), (AV.b true), (AV.s y0), (AV.i .i64 y1), (AV.i .u8 ((((y0).data.getD (Int.toNat y1) 0).toNat : Nat) : Int)), (AV.b (AV.bool (List.headD o1 .u))), (AV.b false), (AV.i .i64 y1), (AV.b (decide (y1 > (0 : Int)))), (AV.b true), (AV.s y0), (AV.i .i64 y1), (AV.i .u8 ((((y0).data.getD (Int.toNat y1) 0).toNat : Nat) : Int)), (AV.b (decide (((((y0).data.getD (Int.toNat y1) 0).toNat : Nat) : Int) ≥ (48 : Int)))), (AV.b (decide (((((y0).data.getD (Int.toNat y1) 0).toNat : Nat) : Int) ≥ (48 : Int)))), (AV.b true), (AV.s y0), (AV.i .i64 y1), (AV.i .u8 ((((y0).data.getD (Int.toNat y1) 0).toNat : Nat) : Int)), (AV.b (decide (((((y0).data.getD (Int.toNat y1) 0).toNat : Nat) : Int) ≤ (57 : Int)))), (AV.b (decide (((((y0).data.getD (Int.toNat y1) 0).toNat : Nat) : Int) ≤ (57 : Int)))), (AV.b (decide (((((y0).data.getD (Int.toNat y1) 0).toNat : Nat) : Int) ≤ (57 : Int)))), (AV.b (decide (((((y0).data.getD (Int.toNat y1) 0).toNat : Nat) : Int) ≤ (57 : Int)))), AV.u, AV.u, AV.u, AV.u, AV.u], [Blk.dead, Blk.dead, Blk.dead, Blk.dead, Blk.dead, Blk.dead, Blk.dead, Blk.dead]⟩ (finish C 67 Tryz.f67) = (if (decide (y1 > (16 : Int))) = true then some [(AV.i .i64 (0 : Int))] else some [(AV.i .i64 y1)]) := by kernel_rfl
theorem l2_0 (k : Nat) (y0 : ByteArray) (y1 : Int) (o1 : List AV) : go C (k + 10) (List AV) false 67 Tryz.f67 [] [] [.code (cAt [1, 1, 0, 0, 0, 0, 1] b67), .code (cAt [1, 1, 0, 0, 0, 1] b67), .lp (cAt [1, 1, 0, 0, 0] b67), .blk 0, .code (cAt [1, 1, 1] b67)] ⟨[(AV.s y0), AV.u, AV.u, (AV.i .i64 y1), (AV.i .i64 y1), (AV.s y0), (AV.i .i64 ((ByteArray.size y0 : Nat) : Int)), (AV.b (decide (y1 < ((ByteArray.size y0 : Nat) : Int)))), (AV.b true), (AV.s y0), (AV.i .i64 y1), (AV.i .u8 ((((y0).data.getD (Int.toNat y1) 0).toNat : Nat) : Int)), (AV.b (AV.bool (List.headD o1 .u))), (AV.b false), (AV.i .i64 y1), (AV.b (decide (y1 > (0 : Int)))), (AV.b true), (AV.s y0), (AV.i .i64 y1), (AV.i .u8 ((((y0).data.getD (Int.toNat y1) 0).toNat : Nat) : Int)), (AV.b (decide (((((y0).data.getD (Int.toNat y1) 0).toNat : Nat) : Int) ≥ (48 : Int)))), (AV.b (decide (((((y0).data.getD (Int.toNat y1) 0).toNat : Nat) : Int) ≥ (48 : Int)))), (AV.b true), (AV.s y0), (AV.i .i64 y1), (AV.i .u8 ((((y0).data.getD (Int.toNat y1) 0).toNat : Nat) : Int)), (AV.b (decide (((((y0).data.getD (Int.toNat y1) 0).toNat : Nat) : Int) ≤ (57 : Int)))), (AV.b (decide (((((y0).data.getD (Int.toNat y1) 0).toNat : Nat) : Int) ≤ (57 : Int)))), (AV.b (decide (((((y0).data.getD (Int.toNat y1) 0).toNat : Nat) : Int) ≤ (57 : Int)))), (AV.b (decide (((((y0).data.getD (Int.toNat y1) 0).toNat : Nat) : Int) ≤ (57 : Int)))), AV.u, AV.u, AV.u, AV.u, AV.u], [Blk.dead, Blk.dead, Blk.dead, Blk.dead, Blk.dead, Blk.dead, Blk.dead, Blk.dead]⟩ (finish C 67 Tryz.f67) = if (decide (((((y0).data.getD (Int.toNat y1) 0).toNat : Nat) : Int) ≤ (57 : Int))) = true then l_word_name_r2 (k + 1) (y0) ((IntKind.wrap .i64 (y1 + (1 : Int)))) else (if (decide (y1 > (16 : Int))) = true then some [(AV.i .i64 (0 : Int))] else some [(AV.i .i64 y1)]) := by
  rw [hA67, go_cond (t := (decide (((((y0).data.getD (Int.toNat y1) 0).toNat : Nat) : Int) ≤ (57 : Int)))) rfl]
  rw [l2_b k y0 y1 o1, l2_0x k y0 y1 o1]
theorem l2_eq (k : Nat) (y0 : ByteArray) (y1 : Int) : l_word_name_r2 (k + 10) y0 y1 =
  if (decide (y1 < ((ByteArray.size y0 : Nat) : Int))) = true then
  if 0 ≤ y1 ∧ y1 < ((ByteArray.size y0 : Nat) : Int) then
   (callP C (callF C (k + 10)) 99 [(AV.i .u8 ((((y0).data.getD (Int.toNat y1) 0).toNat : Nat) : Int))]).bind fun o1 =>
    if (AV.bool (List.headD o1 .u)) = false then
    if (decide (y1 > (0 : Int))) = true then
     if 0 ≤ y1 ∧ y1 < ((ByteArray.size y0 : Nat) : Int) then
      if (decide (((((y0).data.getD (Int.toNat y1) 0).toNat : Nat) : Int) ≥ (48 : Int))) = true then
       if 0 ≤ y1 ∧ y1 < ((ByteArray.size y0 : Nat) : Int) then
        if (decide (((((y0).data.getD (Int.toNat y1) 0).toNat : Nat) : Int) ≤ (57 : Int))) = true then
         l_word_name_r2 (k + 1) (y0) ((IntKind.wrap .i64 (y1 + (1 : Int))))
        else
         if (decide (y1 > (16 : Int))) = true then
          some [(AV.i .i64 (0 : Int))]
         else
          some [(AV.i .i64 y1)]
       else
        none
      else
       if (decide (y1 > (16 : Int))) = true then
        some [(AV.i .i64 (0 : Int))]
       else
        some [(AV.i .i64 y1)]
     else
      none
    else
     if (decide (y1 > (16 : Int))) = true then
      some [(AV.i .i64 (0 : Int))]
     else
      some [(AV.i .i64 y1)]
   else
    l_word_name_r2 (k + 1) (y0) ((IntKind.wrap .i64 (y1 + (1 : Int))))
  else
   none
 else
  if (decide (y1 > (16 : Int))) = true then
   some [(AV.i .i64 (0 : Int))]
  else
   some [(AV.i .i64 y1)] := by
  refine (l2_r k y0 y1 _).trans ?_
  dsimp only
  simp only [l2_0 k y0 y1, l2_1 k y0 y1, l2_2 k y0 y1, l2_3 k y0 y1, l2_4 k y0 y1 []]
theorem hS67 : b67 = .seq (.region 0 (rOps (cAt [0] b67)) false) (.seq (.region 1 (rOps (cAt [1, 0] b67)) false) (.seq (.block 0 (.loop (cAt [1, 1, 0, 0, 0] b67))) (cAt [1, 1, 1] b67))) := by kernel_rfl
theorem hR67 : cAt [1, 1, 0, 0, 0, 0, 0] b67 = .region 2 (rOps (cAt [1, 1, 0, 0, 0, 0, 0] b67)) false := by kernel_rfl
theorem hc67 (k : Nat) (x0 : ByteArray) : call C (k + 10) word_name [(AV.s x0)] = go C (k + 10) (List AV) false 67 Tryz.f67 [] [] [.code b67] ⟨[AV.s x0, AV.u, AV.u, AV.u, AV.u, AV.u, AV.u, AV.u, AV.u, AV.u, AV.u, AV.u, AV.u, AV.u, AV.u, AV.u, AV.u, AV.u, AV.u, AV.u, AV.u, AV.u, AV.u, AV.u, AV.u, AV.u, AV.u, AV.u, AV.u, AV.u, AV.u, AV.u, AV.u, AV.u, AV.u], []⟩ (finish C 67 Tryz.f67) := by kernel_rfl
theorem h067 : (if false = true then none else C.keep 67 0) = none := by kernel_rfl
theorem h167 : (if false = true then none else C.keep 67 1) = none := by kernel_rfl
theorem hd067 : deferO (rOps (cAt [0] b67)).toList = none := by kernel_rfl
theorem hd167 : deferO (rOps (cAt [1, 0] b67)).toList = none := by kernel_rfl
theorem hr067 (call : CallF) (N : X → Option (List AV)) (x0 : ByteArray) : regD C call N (rOps (cAt [0] b67)) false ⟨[AV.s x0, AV.u, AV.u, AV.u, AV.u, AV.u, AV.u, AV.u, AV.u, AV.u, AV.u, AV.u, AV.u, AV.u, AV.u, AV.u, AV.u, AV.u, AV.u, AV.u, AV.u, AV.u, AV.u, AV.u, AV.u, AV.u, AV.u, AV.u, AV.u, AV.u, AV.u, AV.u, AV.u, AV.u, AV.u], []⟩ = N ⟨[AV.s x0, .u, .i .i64 0, AV.u, AV.u, AV.u, AV.u, AV.u, AV.u, AV.u, AV.u, AV.u, AV.u, AV.u, AV.u, AV.u, AV.u, AV.u, AV.u, AV.u, AV.u, AV.u, AV.u, AV.u, AV.u, AV.u, AV.u, AV.u, AV.u, AV.u, AV.u, AV.u, AV.u, AV.u, AV.u], []⟩ := by kernel_rfl
theorem hr167 (call : CallF) (N : X → Option (List AV)) (x0 : ByteArray) : regD C call N (rOps (cAt [1, 0] b67)) false ⟨[AV.s x0, .u, .i .i64 0, AV.u, AV.u, AV.u, AV.u, AV.u, AV.u, AV.u, AV.u, AV.u, AV.u, AV.u, AV.u, AV.u, AV.u, AV.u, AV.u, AV.u, AV.u, AV.u, AV.u, AV.u, AV.u, AV.u, AV.u, AV.u, AV.u, AV.u, AV.u, AV.u, AV.u, AV.u, AV.u], []⟩ = N ⟨[AV.s x0, .u, .i .i64 0, .i .i64 0, AV.u, AV.u, AV.u, AV.u, AV.u, AV.u, AV.u, AV.u, AV.u, AV.u, AV.u, AV.u, AV.u, AV.u, AV.u, AV.u, AV.u, AV.u, AV.u, AV.u, AV.u, AV.u, AV.u, AV.u, AV.u, AV.u, AV.u, AV.u, AV.u, AV.u, AV.u], []⟩ := by kernel_rfl
theorem hx67 (k : Nat) (x0 : ByteArray) : go C (k + 1) (List AV) false 67 Tryz.f67 [] [] (.code (.region 2 (rOps (cAt [1, 1, 0, 0, 0, 0, 0] b67)) false) :: [.code (cAt [1, 1, 0, 0, 0, 0, 1] b67), .code (cAt [1, 1, 0, 0, 0, 1] b67), .lp (cAt [1, 1, 0, 0, 0] b67), .blk 0, .code (cAt [1, 1, 1] b67)]) ⟨[AV.s x0, .u, .i .i64 0, .i .i64 0, AV.u, AV.u, AV.u, AV.u, AV.u, AV.u, AV.u, AV.u, AV.u, AV.u, AV.u, AV.u, AV.u, AV.u, AV.u, AV.u, AV.u, AV.u, AV.u, AV.u, AV.u, AV.u, AV.u, AV.u, AV.u, AV.u, AV.u, AV.u, AV.u, AV.u, AV.u], []⟩ (finish C 67 Tryz.f67) = l_word_name_r2 k x0 0 := by kernel_rfl
theorem e67 (k : Nat) (x0 : ByteArray) : call C (k + 10) word_name [(AV.s x0)] = l_word_name_r2 (k + 0) (x0) ((0 : Int)) := by
  rw [hc67, hS67, go_seq, go_reg h067 hd067, hr067]
  dsimp only
  rw [go_seq, go_reg h167 hd167, hr167]
  dsimp only
  rw [go_seq, go_block]
  show go C (k + 3 + 1) (List AV) false 67 Tryz.f67 [] [] _ _ _ = _
  rw [show ∀ (k : Nat) (c : Code) (r : List It) (x : X) fin, go C (k + 1) (List AV) false 67 Tryz.f67 [] [] (.code (.loop c) :: r) x fin = go C k (List AV) false 67 Tryz.f67 [] [] (.code c :: .lp c :: r) x fin from fun _ _ _ _ _ => rfl]
  rw [hL67, go_seq, go_seq, ← hL67, hR67]
  exact hx67 k x0
attribute [local irreducible] l_word_name_r2
noncomputable def t_word_name_r2 (Q : Nat → FuncId → List AV → Out) (l_word_name_r2 : Nat → ByteArray → Int → Out) (y0 : ByteArray) (y1 : Int) : Out :=
 if (decide (y1 < ((ByteArray.size y0 : Nat) : Int))) = true then
 if 0 ≤ y1 ∧ y1 < ((ByteArray.size y0 : Nat) : Int) then
  (Q 10 word_letter [(AV.i .u8 ((((y0).data.getD (Int.toNat y1) 0).toNat : Nat) : Int))]).bind fun o1 =>
   if (AV.bool (List.headD o1 .u)) = false then
   if (decide (y1 > (0 : Int))) = true then
    if 0 ≤ y1 ∧ y1 < ((ByteArray.size y0 : Nat) : Int) then
     if (decide (((((y0).data.getD (Int.toNat y1) 0).toNat : Nat) : Int) ≥ (48 : Int))) = true then
      if 0 ≤ y1 ∧ y1 < ((ByteArray.size y0 : Nat) : Int) then
       if (decide (((((y0).data.getD (Int.toNat y1) 0).toNat : Nat) : Int) ≤ (57 : Int))) = true then
        l_word_name_r2 1 (y0) ((IntKind.wrap .i64 (y1 + (1 : Int))))
       else
        if (decide (y1 > (16 : Int))) = true then
         some [(AV.i .i64 (0 : Int))]
        else
         some [(AV.i .i64 y1)]
      else
       none
     else
      if (decide (y1 > (16 : Int))) = true then
       some [(AV.i .i64 (0 : Int))]
      else
       some [(AV.i .i64 y1)]
    else
     none
   else
    if (decide (y1 > (16 : Int))) = true then
     some [(AV.i .i64 (0 : Int))]
    else
     some [(AV.i .i64 y1)]
  else
   l_word_name_r2 1 (y0) ((IntKind.wrap .i64 (y1 + (1 : Int))))
 else
  none
else
 if (decide (y1 > (16 : Int))) = true then
  some [(AV.i .i64 (0 : Int))]
 else
  some [(AV.i .i64 y1)]
theorem e_word_name_r2 (k : Nat) (y0 : ByteArray) (y1 : Int) : l_word_name_r2 (k + 10) y0 y1 = t_word_name_r2 (fun c => callP C (callF C (k + c))) (fun c => l_word_name_r2 (k + c)) y0 y1 := by
 unfold t_word_name_r2
 exact l2_eq k y0 y1
theorem g_word_name_r2 (Q : Nat → Nat → FuncId → List AV → Out) (q : FuncId → List AV → Out) (hQ : ∀ c n a, Lt (fun k => Q k c n a) (q n a)) (l_word_name_r2 : Nat → Nat → ByteArray → Int → Out) (m_word_name_r2 : ByteArray → Int → Out) (h_word_name_r2 : ∀ c a0 a1, Lt (fun k => l_word_name_r2 k c a0 a1) (m_word_name_r2 a0 a1)) (y0 : ByteArray) (y1 : Int) : Lt (fun k => t_word_name_r2 (Q k) (l_word_name_r2 k) y0 y1) (t_word_name_r2 (fun _ => q) (fun _ => m_word_name_r2) y0 y1) := (Lt.ite (Lt.ite (Lt.bind (hQ 10 _ _) fun o1 => (Lt.ite (Lt.ite (Lt.ite (Lt.ite (Lt.ite (Lt.ite (h_word_name_r2 1 _ _) (Lt.ite Lt.ret Lt.ret)) Lt.no) (Lt.ite Lt.ret Lt.ret)) Lt.no) (Lt.ite Lt.ret Lt.ret)) (h_word_name_r2 1 _ _))) Lt.no) (Lt.ite Lt.ret Lt.ret))
theorem d_word_name_r2 (y0 : ByteArray) (y1 : Int) {o : List AV} (h : t_word_name_r2 (fun _ => D) (fun _ => L_word_name_r2) y0 y1 = some o) : L_word_name_r2 y0 y1 = some o := Lt.fin (fun k => e_word_name_r2 k y0 y1) (g_word_name_r2 (fun k c => callP C (callF C (k + c))) D D_lt (fun k c => l_word_name_r2 (k + c)) L_word_name_r2 lt_word_name_r2 y0 y1) h
noncomputable def t_word_name (Q : Nat → FuncId → List AV → Out) (l_word_name_r2 : Nat → ByteArray → Int → Out) (x0 : ByteArray) : Out :=
 l_word_name_r2 0 (x0) ((0 : Int))
theorem t_eq_word_name (Q : Nat → FuncId → List AV → Out) (l : Nat → ByteArray → Int → Out) (x0 : ByteArray) : l 0 x0 0 = t_word_name Q l x0 := rfl
theorem e_word_name (k : Nat) (x0 : ByteArray) : call C (k + 10) word_name [(AV.s x0)] = t_word_name (fun c => callP C (callF C (k + c))) (fun c => l_word_name_r2 (k + c)) x0 := (e67 k x0).trans (t_eq_word_name (fun c => callP C (callF C (k + c))) (fun c => l_word_name_r2 (k + c)) x0)
theorem g_word_name (Q : Nat → Nat → FuncId → List AV → Out) (q : FuncId → List AV → Out) (hQ : ∀ c n a, Lt (fun k => Q k c n a) (q n a)) (l_word_name_r2 : Nat → Nat → ByteArray → Int → Out) (m_word_name_r2 : ByteArray → Int → Out) (h_word_name_r2 : ∀ c a0 a1, Lt (fun k => l_word_name_r2 k c a0 a1) (m_word_name_r2 a0 a1)) (x0 : ByteArray) : Lt (fun k => t_word_name (Q k) (l_word_name_r2 k) x0) (t_word_name (fun _ => q) (fun _ => m_word_name_r2) x0) := (h_word_name_r2 0 _ _)
theorem d_word_name (x0 : ByteArray) {o : List AV} (h : t_word_name (fun _ => D) (fun _ => L_word_name_r2) x0 = some o) : D word_name [(AV.s x0)] = some o := D_fin (by rfl) (fun k => e_word_name k x0) (g_word_name (fun k c => callP C (callF C (k + c))) D D_lt (fun k c => l_word_name_r2 (k + c)) L_word_name_r2 lt_word_name_r2 x0) h
end Go.Proofs.YteklakapimggeaaGreatDoor.Den
