/- Proved here: a part of the evaluator for the model's functions, and that a call does what it says; the parts are told one by one. No condition. -/
import Derived.Test.YtfnepeilccainaaProg
import Derived.Test.YtfnepeilccainaaKg
import Derived.KernelRfl
/- Proved here: what functions of the program come to, an equation each: printed by a program. No condition. -/
namespace Go.Proofs.Ytfnepeilccainaa.Den
open Go Go.Proofs
set_option linter.unusedVariables false
def cAt : List Nat → Code → Code
  | [], c => c
  | i :: p, .seq a b => cAt p (if i = 0 then a else b)
  | i :: p, .cond _ a b => cAt p (if i = 0 then a else b)
  | _ :: p, .block _ c => cAt p c
  | _ :: p, .loop c => cAt p c
  | _, c => c
def rOps : Code → Array Oper
  | .region _ ops _ => ops
  | _ => #[]
def getT {α : Type} (d : α) (n : Nat) : List (Nat × α) → α
  | [] => d
  | q :: qs => if q.1 = n then q.2 else getT d n qs
def inlAll (args : List AV) : Bool := true
def inlNil (args : List AV) : Bool := match args with
  | .z 0 :: _ => true
  | _ => false
def keepT : List (Nat × Nat × List (Nat × Nat × TypeId)) := [(42, 7, [(3, 4, 31), (0, 0, 9), (6, 2, 70), (7, 0, 3)]), (42, 12, [(0, 0, 9), (6, 2, 70), (8, 0, 3)]), (9, 4, [(1, 0, 22), (5, 0, 3)]), (14, 4, [(1, 0, 35), (15, 0, 3), (16, 0, 3)]), (35, 2, [(0, 10, 0), (1, 0, 3), (10, 100, 0), (11, 0, 3), (12, 0, 3)]), (12, 6, [(3, 4, 72), (0, 10, 0), (16, 100, 0), (17, 0, 3), (18, 0, 3)]), (3, 8, [(5, 4, 64), (0, 0, 9), (7, 2, 29), (27, 0, 22), (28, 0, 3), (29, 0, 3)]), (3, 14, [(5, 4, 64), (0, 0, 9), (7, 2, 29), (10, 0, 3)]), (4, 7, [(5, 4, 64), (0, 0, 9), (1, 0, 35), (24, 0, 35), (25, 0, 3), (26, 0, 3)]), (4, 14, [(5, 4, 64), (0, 0, 9), (1, 0, 35), (9, 0, 9), (10, 0, 3), (11, 0, 3), (47, 0, 3), (48, 0, 3)]), (4, 21, [(5, 4, 64), (9, 0, 9), (10, 0, 3), (11, 0, 3), (68, 0, 3), (69, 0, 3)]), (5, 10, [(5, 4, 64), (7, 4, 42), (27, 0, 35), (28, 0, 3), (29, 0, 3)])]
def keepF (n r : Nat) : List (Nat × Nat × List (Nat × Nat × TypeId)) → Option (List (Nat × Nat × TypeId))
  | [] => none
  | q :: qs => if q.1 = n ∧ q.2.1 = r then some q.2.2 else keepF n r qs
noncomputable def C : Cfg := { P := Try.prog, keep := fun n r => keepF n r keepT, pm := fun n => getT [] n [(29, [1, 0]), (30, [1]), (31, [1]), (16, [3]), (35, [1, 0]), (22, [1, 0]), (11, [1, 0]), (13, [1]), (17, [1]), (12, [1]), (18, [3]), (19, [1, 0, 0]), (15, [1, 1, 0])], rm := fun n => getT [] n [], own := fun T => getT [] T [(42, [0, 2]), (64, [0, 4, 5]), (72, [1])], prim := fun _ => none, primS := fun n => getT none n [(45, some insD), (36, some repD), (23, some delD), (26, some bstrD)], ext := fun n => getT none n [(33, some (2, .i64)), (43, some (1, .i64)), (49, some (3, .i64)), (38, some (1, .u32)), (40, some (2, .u32)), (50, some (4, .i64))], inl := fun n => getT none n [(21, some inlAll), (24, some inlAll), (27, some inlAll), (32, some inlAll), (37, some inlAll), (25, some inlAll), (39, some inlAll), (28, some inlAll), (10, some inlAll), (11, some inlNil), (12, some inlNil), (13, some inlNil), (16, some inlNil), (17, some inlNil), (18, some inlNil), (19, some inlNil)] }
theorem hlay : layB C = true := by kernel_rfl
theorem hnam : namesB C = true := by kernel_rfl
theorem hmix : C.P.follows .mixedOrders = true := by rfl
theorem e51 (k : Nat) (x0 : ByteArray) (x1 : Int) (x2 : Int) (x3 : ByteArray) : call C (k + 5) 51 [(AV.s x0), (AV.g [(AV.i .i64 x1), (AV.i .i64 x2), (AV.s x3)])] =
  if (decide (x1 ≥ (0 : Int))) = true then
  if (decide (x2 ≥ (0 : Int))) = true then
   if (decide (x1 ≤ ((ByteArray.size x0 : Nat) : Int))) = true then
    some [(AV.b (decide (x2 ≤ (IntKind.wrap .i64 (((ByteArray.size x0 : Nat) : Int) - x1)))))]
   else
    some [(AV.b false)]
  else
   some [(AV.b false)]
 else
  some [(AV.b false)] := by kernel_rfl
theorem e44 (k : Nat) (x0 : ByteArray) (x1 : Int) (x2 : Int) (x3 : ByteArray) : call C (k + 15) 44 [(AV.s x0), (AV.g [(AV.i .i64 x1), (AV.i .i64 x2), (AV.s x3)])] =
  (callP C (callF C (k + 9)) 51 [(AV.s x0), (AV.g [(AV.i .i64 x1), (AV.i .i64 x2), (AV.s x3)])]).bind fun o1 =>
  if (!(AV.bool (List.headD o1 .u))) = true then
  some [(AV.s ⟨#[]⟩), (AV.i .i64 (2 : Int))]
 else
  if (decide (((ByteArray.size x3 : Nat) : Int) > (4000 : Int))) = false then
   if (decide ((IntKind.wrap .i64 ((IntKind.wrap .i64 (((ByteArray.size x0 : Nat) : Int) - x2)) + ((ByteArray.size x3 : Nat) : Int))) > (4000 : Int))) = true then
    some [(AV.s ⟨#[]⟩), (AV.i .i64 (3 : Int))]
   else
    if 0 ≤ x1 ∧ x1 ≤ ((ByteArray.size x0) : Int) then
     if ByteArray.size (ByteArray.extract x0 0 (Int.toNat x1)) + ByteArray.size x3 ≤ 9223372036854775807 then
      if 0 ≤ (IntKind.wrap .i64 (x1 + x2)) ∧ (IntKind.wrap .i64 (x1 + x2)) ≤ ((ByteArray.size x0) : Int) then
       if ByteArray.size ((ByteArray.extract x0 0 (Int.toNat x1)) ++ x3) + ByteArray.size (ByteArray.extract x0 (Int.toNat (IntKind.wrap .i64 (x1 + x2))) (ByteArray.size x0)) ≤ 9223372036854775807 then
        some [(AV.s (((ByteArray.extract x0 0 (Int.toNat x1)) ++ x3) ++ (ByteArray.extract x0 (Int.toNat (IntKind.wrap .i64 (x1 + x2))) (ByteArray.size x0)))), (AV.i .i64 (0 : Int))]
       else
        none
      else
       none
     else
      none
    else
     none
  else
   some [(AV.s ⟨#[]⟩), (AV.i .i64 (3 : Int))] := by kernel_rfl
theorem e34 (k : Nat) (x0 : ByteArray) (x1 : Int) (x2 : Int) (x3 : ByteArray) : call C (k + 12) 34 [(AV.s x0), (AV.g [(AV.i .i64 x1), (AV.i .i64 x2), (AV.s x3)])] =
  (callP C (callF C (k + 7)) 44 [(AV.s x0), (AV.g [(AV.i .i64 x1), (AV.i .i64 x2), (AV.s x3)])]).bind fun o1 =>
  if ((AV.int (List.headD (List.tail o1) .u)) != (0 : Int)) = true then
  some [(AV.g [(AV.i .i64 (0 : Int)), (AV.i .i64 (0 : Int)), (AV.s ⟨#[]⟩)]), (AV.i .i64 (AV.int (List.headD (List.tail o1) .u)))]
 else
  if 0 ≤ (IntKind.wrap .i64 (x1 + x2)) ∧ (IntKind.wrap .i64 (x1 + x2)) ≤ ((ByteArray.size x0) : Int) then
   if 0 ≤ x1 ∧ x1 ≤ (IntKind.wrap .i64 (x1 + x2)) then
    some [(AV.g [(AV.i .i64 x1), (AV.i .i64 ((ByteArray.size x3 : Nat) : Int)), (AV.s (ByteArray.extract x0 (Int.toNat x1) (Int.toNat (IntKind.wrap .i64 (x1 + x2)))))]), (AV.i .i64 (0 : Int))]
   else
    none
  else
   none := by kernel_rfl
theorem e20 (k : Nat) (x0 : ByteArray) (x1 : Int) (x2 : Int) (x3 : ByteArray) : call C (k + 10) 20 [(AV.s x0), (AV.g [(AV.i .i64 x1), (AV.i .i64 x2), (AV.s x3)])] =
  if (decide (x1 < (0 : Int))) = false then
  if (decide (x2 < (0 : Int))) = false then
   if (decide (x1 > ((ByteArray.size x0 : Nat) : Int))) = true then
    some [(AV.b false)]
   else
    some [(AV.b (decide (x2 ≤ (IntKind.wrap .i64 (((ByteArray.size x0 : Nat) : Int) - x1)))))]
  else
   some [(AV.b false)]
 else
  some [(AV.b false)] := by kernel_rfl
noncomputable def b42 : Code := match Try.f42.body with | some c => c | none => .skip
noncomputable def l0 (k : Nat) (y0 : Int) (y1 : Int) (y2 : ByteArray) (y3 : ByteArray) (y4 : List AV) (y5 : Int) : Out := regD C (callG C (go C k)) (fun x => go C k (List AV) false 42 Try.f42 [] [.code (cAt [1, 1, 1, 1, 0, 1, 0, 0, 0, 1] b42), .code (cAt [1, 1, 1, 1, 0, 1, 0, 0, 1] b42), .lp (cAt [1, 1, 1, 1, 0, 1, 0, 0] b42), .blk 0, .code (cAt [1, 1, 1, 1, 1] b42)] x (finish C 42 Try.f42)) (rOps (cAt [1, 1, 1, 1, 0, 1, 0, 0, 0, 0] b42)) false ⟨[(AV.s y3), AV.u, AV.u, (AV.p 0 []), AV.u, AV.u, (AV.w 5 1), (AV.i .i64 y5), AV.u, AV.u, AV.u, AV.u, AV.u, AV.u, AV.u, AV.u, AV.u, AV.u, AV.u, AV.u, AV.u, AV.u, AV.u, AV.u, AV.u, AV.u, AV.u, AV.u, AV.u, AV.u, AV.u, AV.u, AV.u, AV.u, AV.u, AV.u, AV.u, AV.u, AV.u, AV.u, AV.u, AV.u, AV.u, AV.u, AV.u, AV.u, AV.u, AV.u, AV.u, AV.u, AV.u, AV.u, AV.u, AV.u, AV.u, AV.u, AV.u, AV.u, AV.u, AV.u, AV.u, AV.u, AV.u, AV.u], [(Blk.obj 31 (AV.g [(AV.i .i64 y0), (AV.i .i64 y1), (AV.s y2)])), (Blk.arr 5 y4)]⟩
noncomputable def l1 (k : Nat) (y0 : ByteArray) (y1 : List AV) (y2 : Int) : Out := regD C (callG C (go C k)) (fun x => go C k (List AV) false 42 Try.f42 [] [.code (cAt [1, 1, 1, 1, 1, 1, 0, 1, 0, 0, 0, 1] b42), .code (cAt [1, 1, 1, 1, 1, 1, 0, 1, 0, 0, 1] b42), .lp (cAt [1, 1, 1, 1, 1, 1, 0, 1, 0, 0] b42), .blk 2, .code (cAt [1, 1, 1, 1, 1, 1, 1] b42)] x (finish C 42 Try.f42)) (rOps (cAt [1, 1, 1, 1, 1, 1, 0, 1, 0, 0, 0, 0] b42)) false ⟨[(AV.s y0), AV.u, AV.u, AV.u, AV.u, AV.u, (AV.w 5 0), AV.u, (AV.i .i64 y2), AV.u, AV.u, AV.u, AV.u, AV.u, AV.u, AV.u, AV.u, AV.u, AV.u, AV.u, AV.u, AV.u, AV.u, AV.u, AV.u, AV.u, AV.u, AV.u, AV.u, AV.u, AV.u, AV.u, AV.u, AV.u, AV.u, AV.u, AV.u, AV.u, AV.u, AV.u, AV.u, AV.u, AV.u, AV.u, AV.u, AV.u, AV.u, AV.u, AV.u, AV.u, AV.u, AV.u, AV.u, AV.u, AV.u, AV.u, AV.u, AV.u, AV.u, AV.u, AV.u, AV.u, AV.u, AV.u], [(Blk.arr 5 y1)]⟩
theorem l0_eq (k : Nat) (y0 : Int) (y1 : Int) (y2 : ByteArray) (y3 : ByteArray) (y4 : List AV) (y5 : Int) : l0 (k + 12) y0 y1 y2 y3 y4 y5 =
  if (decide (y5 < y0)) = true then
  if 0 ≤ y5 ∧ y5 < ((ByteArray.size y3 : Nat) : Int) then
   if (List.length y4) + (List.length [(AV.i .u8 ((((y3).data.getD (Int.toNat y5) 0).toNat : Nat) : Int))]) ≤ 16777216 ∧ (true && false) = false then
    l0 (k + 1) (y0) (y1) (y2) (y3) ((y4 ++ [(AV.i .u8 ((((y3).data.getD (Int.toNat y5) 0).toNat : Nat) : Int))])) ((IntKind.wrap .i64 (y5 + (1 : Int))))
   else
    none
  else
   none
 else
  if (List.length y4) + (List.length ((y2).data.toList.map fun (c : UInt8) => AV.i .u8 (c.toNat : Int))) ≤ 16777216 ∧ (true && false) = false then
   l1 (k + 0) (y3) ((y4 ++ ((y2).data.toList.map fun (c : UInt8) => AV.i .u8 (c.toNat : Int)))) ((IntKind.wrap .i64 (y0 + y1)))
  else
   none := by kernel_rfl
theorem l1_eq (k : Nat) (y0 : ByteArray) (y1 : List AV) (y2 : Int) : l1 (k + 11) y0 y1 y2 =
  if (decide (y2 < ((ByteArray.size y0 : Nat) : Int))) = true then
  if 0 ≤ y2 ∧ y2 < ((ByteArray.size y0 : Nat) : Int) then
   if (List.length y1) + (List.length [(AV.i .u8 ((((y0).data.getD (Int.toNat y2) 0).toNat : Nat) : Int))]) ≤ 16777216 ∧ (true && false) = false then
    l1 (k + 0) (y0) ((y1 ++ [(AV.i .u8 ((((y0).data.getD (Int.toNat y2) 0).toNat : Nat) : Int))])) ((IntKind.wrap .i64 (y2 + (1 : Int))))
   else
    none
  else
   none
 else
  some [(AV.s (bytesOf y1)), (AV.i .i64 (0 : Int))] := by kernel_rfl
theorem e42 (k : Nat) (x0 : ByteArray) (x1 : Int) (x2 : Int) (x3 : ByteArray) : call C (k + 22) 42 [(AV.s x0), (AV.g [(AV.i .i64 x1), (AV.i .i64 x2), (AV.s x3)])] =
  (callP C (callF C (k + 17)) 20 [(AV.s x0), (AV.g [(AV.i .i64 x1), (AV.i .i64 x2), (AV.s x3)])]).bind fun o1 =>
  if (!(AV.bool (List.headD o1 .u))) = true then
  some [(AV.s ⟨#[]⟩), (AV.i .i64 (2 : Int))]
 else
  if (decide (((ByteArray.size x3 : Nat) : Int) > (4000 : Int))) = false then
   if (decide ((IntKind.wrap .i64 ((IntKind.wrap .i64 (((ByteArray.size x0 : Nat) : Int) - x2)) + ((ByteArray.size x3 : Nat) : Int))) > (4000 : Int))) = true then
    some [(AV.s ⟨#[]⟩), (AV.i .i64 (3 : Int))]
   else
    l0 (k + 0) (x1) (x2) (x3) (x0) (([] : List AV)) ((0 : Int))
  else
   some [(AV.s ⟨#[]⟩), (AV.i .i64 (3 : Int))] := by kernel_rfl
noncomputable def b9 : Code := match Try.f9.body with | some c => c | none => .skip
noncomputable def l2 (k : Nat) (y0 : List AV) (y1 : Int) : Out := regD C (callG C (go C k)) (fun x => go C k (List AV) false 9 Try.f9 [] [.code (cAt [1, 1, 0, 1, 0, 0, 0, 1] b9), .code (cAt [1, 1, 0, 1, 0, 0, 1] b9), .lp (cAt [1, 1, 0, 1, 0, 0] b9), .blk 0, .code (cAt [1, 1, 1] b9)] x (finish C 9 Try.f9)) (rOps (cAt [1, 1, 0, 1, 0, 0, 0, 0] b9)) false ⟨[AV.u, (AV.l 31 y0), AV.u, AV.u, AV.u, (AV.i .i64 y1), AV.u, AV.u, AV.u, AV.u, AV.u, AV.u, AV.u, AV.u, AV.u, AV.u, AV.u, AV.u, AV.u, AV.u, AV.u, AV.u, AV.u, AV.u, AV.u, AV.u, AV.u], []⟩
theorem l2_eq (k : Nat) (y0 : List AV) (y1 : Int) : l2 (k + 14) y0 y1 =
  if (decide (y1 < ((List.length y0 : Nat) : Int))) = true then
  if 0 ≤ y1 ∧ y1 < ((List.length y0) : Int) then
   if (decide (((ByteArray.size (AV.str (AV.fld (y0.getD (Int.toNat y1) .u) 2)) : Nat) : Int) > (5000 : Int))) = true then
    some [(AV.b true)]
   else
    l2 (k + 0) (y0) ((IntKind.wrap .i64 (y1 + (1 : Int))))
  else
   none
 else
  some [(AV.b false)] := by kernel_rfl
theorem e9 (k : Nat) (x0 : ByteArray) (x1 : List AV) : call C (k + 15) 9 [(AV.s x0), (AV.l 31 x1)] =
  if (decide (((ByteArray.size x0 : Nat) : Int) > (5000 : Int))) = false then
  if (decide (((List.length x1 : Nat) : Int) > (100 : Int))) = true then
   some [(AV.b true)]
  else
   l2 (k + 0) (x1) ((0 : Int))
 else
  some [(AV.b true)] := by kernel_rfl
noncomputable def b14 : Code := match Try.f14.body with | some c => c | none => .skip
noncomputable def l3 (k : Nat) (y0 : List AV) (y1 : Int) (y2 : Int) : Out := regD C (callG C (go C k)) (fun x => go C k (List AV) false 14 Try.f14 [] [.code (cAt [1, 1, 0, 1, 0, 0, 1] b14), .lp (cAt [1, 1, 0, 1, 0, 0] b14), .blk 0, .code (cAt [1, 1, 1] b14)] x (finish C 14 Try.f14)) (rOps (cAt [1, 1, 0, 1, 0, 0, 0] b14)) false ⟨[AV.u, (AV.l 38 y0), AV.u, AV.u, AV.u, AV.u, AV.u, AV.u, AV.u, AV.u, AV.u, AV.u, AV.u, AV.u, AV.u, (AV.i .i64 y1), (AV.i .i64 y2), AV.u, AV.u, AV.u, AV.u, AV.u, AV.u, AV.u, AV.u, AV.u, AV.u, AV.u], []⟩
theorem l3_eq (k : Nat) (y0 : List AV) (y1 : Int) (y2 : Int) : l3 (k + 16) y0 y1 y2 =
  if (decide (y2 < y1)) = true then
  if 0 ≤ y2 ∧ y2 < ((List.length y0) : Int) then
   if (decide (((ByteArray.size (AV.str (AV.fld (AV.fld (y0.getD (Int.toNat y2) .u) 1) 2)) : Nat) : Int) > (5000 : Int))) = true then
    some [(AV.b true)]
   else
    l3 (k + 0) (y0) (y1) ((IntKind.wrap .i64 (y2 + (1 : Int))))
  else
   none
 else
  some [(AV.b false)] := by kernel_rfl
theorem e14 (k : Nat) (x0 : ByteArray) (x1 : List AV) : call C (k + 14) 14 [(AV.s x0), (AV.l 38 x1)] =
  if (decide (((ByteArray.size x0 : Nat) : Int) > (4000 : Int))) = false then
  if (decide (((List.length x1 : Nat) : Int) > (100 : Int))) = true then
   some [(AV.b true)]
  else
   l3 (k + 0) (x1) (((List.length x1 : Nat) : Int)) ((0 : Int))
 else
  some [(AV.b true)] := by kernel_rfl
theorem e41 (k : Nat) (x0 : Bool) : call C (k + 10) 41 [(AV.b x0)] =
  if x0 = true then
  some [(AV.i .u32 (1 : Int))]
 else
  some [(AV.i .u32 (0 : Int))] := by kernel_rfl
theorem e16 (k : Nat) (x0 : List AV) (x1 : Int) (x2 : ByteArray) (x3 : Int) (x4 : List AV) (x5 : List AV) : call C (k + 10) 16 [(AV.at 64 (AV.g [(AV.l 53 x0), (AV.g [(AV.g []), (AV.g []), (AV.i .i64 x1)]), (AV.s x2), (AV.g [(AV.g []), (AV.i .u32 x3)]), (AV.l 31 x4), (AV.l 31 x5)]))] =
  some [(AV.i .i64 ((List.length x4 : Nat) : Int)), (AV.i .i64 ((List.length x5 : Nat) : Int))] := by kernel_rfl
theorem e29 (k : Nat) (x0 : List AV) (x1 : ByteArray) (x2 : List AV) (x3 : Int) (x4 : Int) (x5 : ByteArray) : call C (k + 23) 29 [(AV.g [(AV.l 9 x0), (AV.s x1), (AV.l 9 x2)]), (AV.g [(AV.i .i64 x3), (AV.i .i64 x4), (AV.s x5)])] =
  (callP C (callF C (k + 19)) 42 [(AV.s x1), (AV.g [(AV.i .i64 x3), (AV.i .i64 x4), (AV.s x5)])]).bind fun o1 =>
  if ((AV.int (List.headD (List.tail o1) .u)) != (0 : Int)) = true then
  some [(AV.i .i64 (AV.int (List.headD (List.tail o1) .u))), (AV.g [(AV.l 9 x0), (AV.s x1), (AV.l 9 x2)])]
 else
  if (List.length x0) + (List.length [(AV.s x1)]) ≤ 16777216 ∧ (false && false) = false then
   if (decide (((List.length (x0 ++ [(AV.s x1)]) : Nat) : Int) > (32 : Int))) = true then
    if 0 ≤ (1 : Int) ∧ (1 : Int) ≤ ((List.length (x0 ++ [(AV.s x1)])) : Int) then
     some [(AV.i .i64 (0 : Int)), (AV.g [(AV.l 9 (((x0 ++ [(AV.s x1)]).drop (Int.toNat (1 : Int))).take ((List.length (x0 ++ [(AV.s x1)])) - (Int.toNat (1 : Int))))), (AV.s (AV.str (List.headD o1 .u))), (AV.l 9 ([] : List AV))])]
    else
     none
   else
    some [(AV.i .i64 (0 : Int)), (AV.g [(AV.l 9 (x0 ++ [(AV.s x1)])), (AV.s (AV.str (List.headD o1 .u))), (AV.l 9 ([] : List AV))])]
  else
   none := by kernel_rfl
theorem e30 (k : Nat) (x0 : List AV) (x1 : ByteArray) (x2 : List AV) : call C (k + 18) 30 [(AV.g [(AV.l 9 x0), (AV.s x1), (AV.l 9 x2)])] =
  if (((List.length x0 : Nat) : Int) == (0 : Int)) = true then
  some [(AV.i .i64 (4 : Int)), (AV.g [(AV.l 9 x0), (AV.s x1), (AV.l 9 x2)])]
 else
  if (List.length x2) + (List.length [(AV.s x1)]) ≤ 16777216 ∧ (false && false) = false then
   if 0 ≤ (IntKind.wrap .i64 (((List.length x0 : Nat) : Int) - (1 : Int))) ∧ (IntKind.wrap .i64 (((List.length x0 : Nat) : Int) - (1 : Int))) < ((List.length x0) : Int) then
    if 0 ≤ (IntKind.wrap .i64 (((List.length x0 : Nat) : Int) - (1 : Int))) ∧ (IntKind.wrap .i64 (((List.length x0 : Nat) : Int) - (1 : Int))) ≤ ((List.length x0) : Int) then
     some [(AV.i .i64 (0 : Int)), (AV.g [(AV.l 9 ((x0.drop 0).take ((Int.toNat (IntKind.wrap .i64 (((List.length x0 : Nat) : Int) - (1 : Int)))) - 0))), (AV.s (AV.str (x0.getD (Int.toNat (IntKind.wrap .i64 (((List.length x0 : Nat) : Int) - (1 : Int)))) .u))), (AV.l 9 (x2 ++ [(AV.s x1)]))])]
    else
     none
   else
    none
  else
   none := by kernel_rfl
theorem e31 (k : Nat) (x0 : List AV) (x1 : ByteArray) (x2 : List AV) : call C (k + 18) 31 [(AV.g [(AV.l 9 x0), (AV.s x1), (AV.l 9 x2)])] =
  if (((List.length x2 : Nat) : Int) == (0 : Int)) = true then
  some [(AV.i .i64 (4 : Int)), (AV.g [(AV.l 9 x0), (AV.s x1), (AV.l 9 x2)])]
 else
  if (List.length x0) + (List.length [(AV.s x1)]) ≤ 16777216 ∧ (false && false) = false then
   if 0 ≤ (IntKind.wrap .i64 (((List.length x2 : Nat) : Int) - (1 : Int))) ∧ (IntKind.wrap .i64 (((List.length x2 : Nat) : Int) - (1 : Int))) < ((List.length x2) : Int) then
    if 0 ≤ (IntKind.wrap .i64 (((List.length x2 : Nat) : Int) - (1 : Int))) ∧ (IntKind.wrap .i64 (((List.length x2 : Nat) : Int) - (1 : Int))) ≤ ((List.length x2) : Int) then
     some [(AV.i .i64 (0 : Int)), (AV.g [(AV.l 9 (x0 ++ [(AV.s x1)])), (AV.s (AV.str (x2.getD (Int.toNat (IntKind.wrap .i64 (((List.length x2 : Nat) : Int) - (1 : Int)))) .u))), (AV.l 9 ((x2.drop 0).take ((Int.toNat (IntKind.wrap .i64 (((List.length x2 : Nat) : Int) - (1 : Int)))) - 0)))])]
    else
     none
   else
    none
  else
   none := by kernel_rfl
noncomputable def b35 : Code := match Try.f35.body with | some c => c | none => .skip
noncomputable def l4 (k : Nat) (y0 : List AV) (y1 : Int) (y2 : ByteArray) (y3 : Int) (y4 : List AV) (y5 : List AV) (y6 : Int) (y7 : Int) (y8 : Int) : Out := regD C (callG C (go C k)) (fun x => go C k (List AV) false 35 Try.f35 [(25, (AV.p 0 []))] [.code (cAt [1, 0, 1, 0, 0, 1] b35), .lp (cAt [1, 0, 1, 0, 0] b35), .blk 0, .code (cAt [1, 1] b35)] x (finish C 35 Try.f35)) (rOps (cAt [1, 0, 1, 0, 0, 0] b35)) false ⟨[(AV.p 0 []), (AV.i .i64 y6), AV.u, AV.u, AV.u, AV.u, AV.u, AV.u, AV.u, AV.u, (AV.w 53 1), (AV.i .i64 y7), (AV.i .i64 y8), AV.u, AV.u, AV.u, AV.u, AV.u, AV.u, AV.u, AV.u, AV.u, AV.u, AV.u, AV.u, AV.u, AV.u, AV.u, AV.u, AV.u, AV.u, AV.u, AV.u, AV.u, AV.u, AV.u, AV.u, AV.u, AV.u, AV.u, AV.u, AV.u, AV.u, AV.u, AV.u, AV.u, AV.u, AV.u, AV.u, AV.u, AV.u, AV.u, AV.u, AV.u, AV.u, AV.u, AV.u, AV.u, AV.u, AV.u, AV.u, AV.u, AV.u, AV.u, AV.u], [(Blk.obj 64 (AV.g [(AV.w 53 1), (AV.g [(AV.g []), (AV.g []), (AV.i .i64 y1)]), (AV.s y2), (AV.g [(AV.g []), (AV.i .u32 y3)]), (AV.w 31 2), (AV.w 31 3)])), (Blk.arr 53 y0), (Blk.arr 31 y4), (Blk.arr 31 y5)]⟩
theorem l4_eq (k : Nat) (y0 : List AV) (y1 : Int) (y2 : ByteArray) (y3 : Int) (y4 : List AV) (y5 : List AV) (y6 : Int) (y7 : Int) (y8 : Int) : l4 (k + 23) y0 y1 y2 y3 y4 y5 y6 y7 y8 =
  if (decide (y8 < y7)) = true then
  if 0 ≤ y8 ∧ y8 < ((List.length y0) : Int) then
   if (y6 == (0 : Int)) = true then
    some [(AV.i .i64 y8), (AV.g [(AV.l 53 y0), (AV.g [(AV.g []), (AV.g []), (AV.i .i64 y1)]), (AV.s y2), (AV.g [(AV.g []), (AV.i .u32 y3)]), (AV.l 31 y4), (AV.l 31 y5)])]
   else
    if (decide (y6 < ((ByteArray.size (AV.str (AV.fld (y0.getD (Int.toNat y8) .u) 0)) : Nat) : Int))) = true then
     if 0 ≤ y6 ∧ y6 ≤ ((ByteArray.size (AV.str (AV.fld (y0.getD (Int.toNat y8) .u) 0))) : Int) then
      if (decide ((53 : Nat) = 53 ∧ (53 : Nat) = 53 ∧ IntKind.i64 = .i64 ∧ (1 : Nat) ≠ 5 ∧ 0 ≤ (IntKind.wrap .i64 (y8 + (1 : Int))) ∧ (IntKind.wrap .i64 (y8 + (1 : Int))) ≤ ((List.length y0 : Nat) : Int) ∧ List.length y0 + 1 ≤ 16777216)) = true then
       if 0 ≤ y6 ∧ y6 ≤ ((ByteArray.size (AV.str (AV.fld (y0.getD (Int.toNat y8) .u) 0))) : Int) then
        if 0 ≤ y8 ∧ y8 < ((List.length ((y0.take (Int.toNat (IntKind.wrap .i64 (y8 + (1 : Int))))) ++ (AV.g [(AV.s (ByteArray.extract (AV.str (AV.fld (y0.getD (Int.toNat y8) .u) 0)) (Int.toNat y6) (ByteArray.size (AV.str (AV.fld (y0.getD (Int.toNat y8) .u) 0)))))]) :: (y0.drop (Int.toNat (IntKind.wrap .i64 (y8 + (1 : Int))))))) : Int) then
         some [(AV.i .i64 (IntKind.wrap .i64 (y8 + (1 : Int)))), (AV.g [(AV.l 53 (((y0.take (Int.toNat (IntKind.wrap .i64 (y8 + (1 : Int))))) ++ (AV.g [(AV.s (ByteArray.extract (AV.str (AV.fld (y0.getD (Int.toNat y8) .u) 0)) (Int.toNat y6) (ByteArray.size (AV.str (AV.fld (y0.getD (Int.toNat y8) .u) 0)))))]) :: (y0.drop (Int.toNat (IntKind.wrap .i64 (y8 + (1 : Int)))))).set (Int.toNat y8) (AV.g [(AV.s (ByteArray.extract (AV.str (AV.fld (y0.getD (Int.toNat y8) .u) 0)) 0 (Int.toNat y6)))]))), (AV.g [(AV.g []), (AV.g []), (AV.i .i64 y1)]), (AV.s y2), (AV.g [(AV.g []), (AV.i .u32 y3)]), (AV.l 31 y4), (AV.l 31 y5)])]
        else
         none
       else
        none
      else
       none
     else
      none
    else
     l4 (k + 0) (y0) (y1) (y2) (y3) (y4) (y5) ((IntKind.wrap .i64 (y6 - ((ByteArray.size (AV.str (AV.fld (y0.getD (Int.toNat y8) .u) 0)) : Nat) : Int)))) (y7) ((IntKind.wrap .i64 (y8 + (1 : Int))))
  else
   none
 else
  some [(AV.i .i64 ((List.length y0 : Nat) : Int)), (AV.g [(AV.l 53 y0), (AV.g [(AV.g []), (AV.g []), (AV.i .i64 y1)]), (AV.s y2), (AV.g [(AV.g []), (AV.i .u32 y3)]), (AV.l 31 y4), (AV.l 31 y5)])] := by kernel_rfl
theorem e35 (k : Nat) (x0 : List AV) (x1 : Int) (x2 : ByteArray) (x3 : Int) (x4 : List AV) (x5 : List AV) (x6 : Int) : call C (k + 9) 35 [(AV.g [(AV.l 53 x0), (AV.g [(AV.g []), (AV.g []), (AV.i .i64 x1)]), (AV.s x2), (AV.g [(AV.g []), (AV.i .u32 x3)]), (AV.l 31 x4), (AV.l 31 x5)]), (AV.i .i64 x6)] =
  l4 (k + 0) (x0) (x1) (x2) (x3) (x4) (x5) (x6) (((List.length x0 : Nat) : Int)) ((0 : Int)) := by kernel_rfl
noncomputable def b12 : Code := match Try.f12.body with | some c => c | none => .skip
noncomputable def l5 (k : Nat) (y0 : List AV) (y1 : Int) (y2 : ByteArray) (y3 : Int) (y4 : List AV) (y5 : List AV) (y6 : List AV) (y7 : Int) (y8 : Int) : Out := regD C (callG C (go C k)) (fun x => go C k (List AV) false 12 Try.f12 [(25, (AV.p 0 []))] [.code (cAt [1, 1, 0, 1, 0, 1, 0, 1, 0, 0, 1] b12), .lp (cAt [1, 1, 0, 1, 0, 1, 0, 1, 0, 0] b12), .blk 0, .code (cAt [1, 1, 0, 1, 0, 1, 1] b12), .code (cAt [1, 1, 1] b12)] x (finish C 12 Try.f12)) (rOps (cAt [1, 1, 0, 1, 0, 1, 0, 1, 0, 0, 0] b12)) false ⟨[(AV.p 0 []), AV.u, AV.u, (AV.p 4 []), AV.u, AV.u, AV.u, AV.u, AV.u, AV.u, AV.u, AV.u, AV.u, AV.u, AV.u, AV.u, (AV.w 53 1), (AV.i .i64 y7), (AV.i .i64 y8), AV.u, AV.u, AV.u, AV.u, AV.u, AV.u, AV.u, AV.u, AV.u, AV.u, AV.u, AV.u, AV.u, AV.u, AV.u, AV.u, AV.u, AV.u, AV.u], [(Blk.obj 64 (AV.g [(AV.w 53 1), (AV.g [(AV.g []), (AV.g []), (AV.i .i64 y1)]), (AV.s y2), (AV.g [(AV.g []), (AV.i .u32 y3)]), (AV.w 31 2), (AV.w 31 3)])), (Blk.arr 53 y0), (Blk.arr 31 y4), (Blk.arr 31 y5), (Blk.obj 72 (AV.g [(AV.z 0), (AV.w 5 5)])), (Blk.arr 5 y6)]⟩
noncomputable def l6 (k : Nat) (y0 : List AV) (y1 : Int) (y2 : ByteArray) (y3 : Int) (y4 : List AV) (y5 : List AV) (y6 : List AV) (y7 : Int) (y8 : Int) : Out := regD C (callG C (go C k)) (fun x => go C k (List AV) false 12 Try.f12 [(25, (AV.p 0 []))] [.code (cAt [1, 1, 0, 1, 0, 1, 0, 1, 0, 0, 1] b12), .lp (cAt [1, 1, 0, 1, 0, 1, 0, 1, 0, 0] b12), .blk 0, .code (cAt [1, 1, 0, 1, 0, 1, 1] b12), .code (cAt [1, 1, 1] b12)] x (finish C 12 Try.f12)) (rOps (cAt [1, 1, 0, 1, 0, 1, 0, 1, 0, 0, 0] b12)) false ⟨[(AV.p 0 []), AV.u, AV.u, (AV.p 4 []), AV.u, AV.u, AV.u, AV.u, AV.u, AV.u, AV.u, AV.u, AV.u, AV.u, AV.u, AV.u, (AV.w 53 1), (AV.i .i64 y7), (AV.i .i64 y8), AV.u, AV.u, AV.u, AV.u, AV.u, AV.u, AV.u, AV.u, AV.u, AV.u, AV.u, AV.u, AV.u, AV.u, AV.u, AV.u, AV.u, AV.u, AV.u], [(Blk.obj 64 (AV.g [(AV.w 53 1), (AV.g [(AV.g []), (AV.g []), (AV.i .i64 y1)]), (AV.s y2), (AV.g [(AV.g []), (AV.i .u32 y3)]), (AV.w 31 2), (AV.w 31 3)])), (Blk.arr 53 y0), (Blk.arr 31 y4), (Blk.arr 31 y5), (Blk.obj 72 (AV.g [(AV.p 4 []), (AV.w 5 5)])), (Blk.arr 5 y6)]⟩
theorem l5_eq (k : Nat) (y0 : List AV) (y1 : Int) (y2 : ByteArray) (y3 : Int) (y4 : List AV) (y5 : List AV) (y6 : List AV) (y7 : Int) (y8 : Int) : l5 (k + 17) y0 y1 y2 y3 y4 y5 y6 y7 y8 =
  if (decide (y8 < y7)) = true then
  if 0 ≤ y8 ∧ y8 < ((List.length y0) : Int) then
   if (List.length y6) + (List.length (((AV.str (AV.fld (y0.getD (Int.toNat y8) .u) 0))).data.toList.map fun (c : UInt8) => AV.i .u8 (c.toNat : Int))) ≤ 16777216 ∧ (true && false) = false then
    l6 (k + 4) (y0) (y1) (y2) (y3) (y4) (y5) ((y6 ++ (((AV.str (AV.fld (y0.getD (Int.toNat y8) .u) 0))).data.toList.map fun (c : UInt8) => AV.i .u8 (c.toNat : Int)))) (y7) ((IntKind.wrap .i64 (y8 + (1 : Int))))
   else
    none
  else
   none
 else
  if (decide ((5 : Nat) = 5 ∧ List.length y6 ≤ 16777216 ∧ List.all y6 isByte = true)) = true then
   (callP C (callF C (k + 10)) 41 [(AV.b true)]).bind fun o1 =>
    some [(AV.s (bytesOf y6)), (AV.g [(AV.l 53 y0), (AV.g [(AV.g []), (AV.g []), (AV.i .i64 y1)]), (AV.s (bytesOf y6)), (AV.g [(AV.g []), (AV.i .u32 (AV.int (List.headD o1 .u)))]), (AV.l 31 y4), (AV.l 31 y5)])]
  else
   none := by kernel_rfl
theorem l6_eq (k : Nat) (y0 : List AV) (y1 : Int) (y2 : ByteArray) (y3 : Int) (y4 : List AV) (y5 : List AV) (y6 : List AV) (y7 : Int) (y8 : Int) : l6 (k + 20) y0 y1 y2 y3 y4 y5 y6 y7 y8 =
  if (decide (y8 < y7)) = true then
  if 0 ≤ y8 ∧ y8 < ((List.length y0) : Int) then
   if (List.length y6) + (List.length (((AV.str (AV.fld (y0.getD (Int.toNat y8) .u) 0))).data.toList.map fun (c : UInt8) => AV.i .u8 (c.toNat : Int))) ≤ 16777216 ∧ (true && false) = false then
    l6 (k + 7) (y0) (y1) (y2) (y3) (y4) (y5) ((y6 ++ (((AV.str (AV.fld (y0.getD (Int.toNat y8) .u) 0))).data.toList.map fun (c : UInt8) => AV.i .u8 (c.toNat : Int)))) (y7) ((IntKind.wrap .i64 (y8 + (1 : Int))))
   else
    none
  else
   none
 else
  if (decide ((5 : Nat) = 5 ∧ List.length y6 ≤ 16777216 ∧ List.all y6 isByte = true)) = true then
   (callP C (callF C (k + 13)) 41 [(AV.b true)]).bind fun o1 =>
    some [(AV.s (bytesOf y6)), (AV.g [(AV.l 53 y0), (AV.g [(AV.g []), (AV.g []), (AV.i .i64 y1)]), (AV.s (bytesOf y6)), (AV.g [(AV.g []), (AV.i .u32 (AV.int (List.headD o1 .u)))]), (AV.l 31 y4), (AV.l 31 y5)])]
  else
   none := by kernel_rfl
theorem e12 (k : Nat) (x0 : List AV) (x1 : Int) (x2 : ByteArray) (x3 : Int) (x4 : List AV) (x5 : List AV) : call C (k + 20) 12 [(AV.g [(AV.l 53 x0), (AV.g [(AV.g []), (AV.g []), (AV.i .i64 x1)]), (AV.s x2), (AV.g [(AV.g []), (AV.i .u32 x3)]), (AV.l 31 x4), (AV.l 31 x5)])] =
  if (!(x3 != (0 : Int))) = true then
  l5 (k + 0) (x0) (x1) (x2) (x3) (x4) (x5) (([] : List AV)) (((List.length x0 : Nat) : Int)) ((0 : Int))
 else
  some [(AV.s x2), (AV.g [(AV.l 53 x0), (AV.g [(AV.g []), (AV.g []), (AV.i .i64 x1)]), (AV.s x2), (AV.g [(AV.g []), (AV.i .u32 x3)]), (AV.l 31 x4), (AV.l 31 x5)])] := by kernel_rfl
theorem e22 (k : Nat) (x0 : List AV) (x1 : Int) (x2 : ByteArray) (x3 : Int) (x4 : List AV) (x5 : List AV) (x6 : Int) (x7 : Int) (x8 : ByteArray) : call C (k + 22) 22 [(AV.g [(AV.l 53 x0), (AV.g [(AV.g []), (AV.g []), (AV.i .i64 x1)]), (AV.s x2), (AV.g [(AV.g []), (AV.i .u32 x3)]), (AV.l 31 x4), (AV.l 31 x5)]), (AV.g [(AV.i .i64 x6), (AV.i .i64 x7), (AV.s x8)])] =
  (callP C (callF C (k + 18)) 12 [(AV.g [(AV.l 53 x0), (AV.g [(AV.g []), (AV.g []), (AV.i .i64 x1)]), (AV.s x2), (AV.g [(AV.g []), (AV.i .u32 x3)]), (AV.l 31 x4), (AV.l 31 x5)])]).bind fun o1 =>
  (callP C (callF C (k + 18)) 34 [(AV.s (AV.str (List.headD o1 .u))), (AV.g [(AV.i .i64 x6), (AV.i .i64 x7), (AV.s x8)])]).bind fun o2 =>
  if ((AV.int (List.headD (List.tail o2) .u)) != (0 : Int)) = true then
  some [(AV.g [(AV.i .i64 (0 : Int)), (AV.i .i64 (0 : Int)), (AV.s ⟨#[]⟩)]), (AV.i .i64 (AV.int (List.headD (List.tail o2) .u))), (AV.g [(AV.l 53 (AV.list (AV.fld (List.headD (List.tail o1) .u) 0))), (AV.g [(AV.g []), (AV.g []), (AV.i .i64 (AV.int (AV.fld (AV.fld (List.headD (List.tail o1) .u) 1) 2)))]), (AV.s (AV.str (AV.fld (List.headD (List.tail o1) .u) 2))), (AV.g [(AV.g []), (AV.i .u32 (AV.int (AV.fld (AV.fld (List.headD (List.tail o1) .u) 3) 1)))]), (AV.l 31 (AV.list (AV.fld (List.headD (List.tail o1) .u) 4))), (AV.l 31 (AV.list (AV.fld (List.headD (List.tail o1) .u) 5)))])]
 else
  (callP C (callF C (k + 11)) 35 [(AV.g [(AV.l 53 (AV.list (AV.fld (List.headD (List.tail o1) .u) 0))), (AV.g [(AV.g []), (AV.g []), (AV.i .i64 (AV.int (AV.fld (AV.fld (List.headD (List.tail o1) .u) 1) 2)))]), (AV.s (AV.str (AV.fld (List.headD (List.tail o1) .u) 2))), (AV.g [(AV.g []), (AV.i .u32 (AV.int (AV.fld (AV.fld (List.headD (List.tail o1) .u) 3) 1)))]), (AV.l 31 (AV.list (AV.fld (List.headD (List.tail o1) .u) 4))), (AV.l 31 (AV.list (AV.fld (List.headD (List.tail o1) .u) 5)))]), (AV.i .i64 x6)]).bind fun o3 =>
   (callP C (callF C (k + 9)) 35 [(AV.g [(AV.l 53 (AV.list (AV.fld (List.headD (List.tail o3) .u) 0))), (AV.g [(AV.g []), (AV.g []), (AV.i .i64 (AV.int (AV.fld (AV.fld (List.headD (List.tail o3) .u) 1) 2)))]), (AV.s (AV.str (AV.fld (List.headD (List.tail o3) .u) 2))), (AV.g [(AV.g []), (AV.i .u32 (AV.int (AV.fld (AV.fld (List.headD (List.tail o3) .u) 3) 1)))]), (AV.l 31 (AV.list (AV.fld (List.headD (List.tail o3) .u) 4))), (AV.l 31 (AV.list (AV.fld (List.headD (List.tail o3) .u) 5)))]), (AV.i .i64 (IntKind.wrap .i64 (x6 + x7)))]).bind fun o4 =>
   if (decide ((53 : Nat) = 53 ∧ (53 : Nat) = 53 ∧ IntKind.i64 = .i64 ∧ IntKind.i64 = .i64 ∧ (31 : Nat) ≠ 39 ∧ 0 ≤ (AV.int (List.headD o3 .u)) ∧ (AV.int (List.headD o3 .u)) ≤ (AV.int (List.headD o4 .u)) ∧ (AV.int (List.headD o4 .u)) ≤ ((List.length (AV.list (AV.fld (List.headD (List.tail o4) .u) 0)) : Nat) : Int) ∧ List.length (AV.list (AV.fld (List.headD (List.tail o4) .u) 0)) + 1 ≤ 16777216)) = true then
   (callP C (callF C (k + 2)) 41 [(AV.b false)]).bind fun o5 =>
    some [(AV.g [(AV.i .i64 (AV.int (AV.fld (List.headD o2 .u) 0))), (AV.i .i64 (AV.int (AV.fld (List.headD o2 .u) 1))), (AV.s (AV.str (AV.fld (List.headD o2 .u) 2)))]), (AV.i .i64 (0 : Int)), (AV.g [(AV.l 53 (((AV.list (AV.fld (List.headD (List.tail o4) .u) 0)).take (Int.toNat (AV.int (List.headD o3 .u)))) ++ (AV.g [(AV.s x8)]) :: ((AV.list (AV.fld (List.headD (List.tail o4) .u) 0)).drop (Int.toNat (AV.int (List.headD o4 .u)))))), (AV.g [(AV.g []), (AV.g []), (AV.i .i64 (IntKind.wrap .i64 ((AV.int (AV.fld (AV.fld (List.headD (List.tail o4) .u) 1) 2)) + (IntKind.wrap .i64 (((ByteArray.size x8 : Nat) : Int) - x7)))))]), (AV.s (AV.str (AV.fld (List.headD (List.tail o4) .u) 2))), (AV.g [(AV.g []), (AV.i .u32 (AV.int (List.headD o5 .u)))]), (AV.l 31 (AV.list (AV.fld (List.headD (List.tail o4) .u) 4))), (AV.l 31 (AV.list (AV.fld (List.headD (List.tail o4) .u) 5)))])]
  else
   none := by kernel_rfl
theorem e11 (k : Nat) (x0 : List AV) (x1 : Int) (x2 : ByteArray) (x3 : Int) (x4 : List AV) (x5 : List AV) (x6 : Int) (x7 : Int) (x8 : ByteArray) : call C (k + 26) 11 [(AV.g [(AV.l 53 x0), (AV.g [(AV.g []), (AV.g []), (AV.i .i64 x1)]), (AV.s x2), (AV.g [(AV.g []), (AV.i .u32 x3)]), (AV.l 31 x4), (AV.l 31 x5)]), (AV.g [(AV.i .i64 x6), (AV.i .i64 x7), (AV.s x8)])] =
  (callP C (callF C (k + 17)) 22 [(AV.g [(AV.l 53 x0), (AV.g [(AV.g []), (AV.g []), (AV.i .i64 x1)]), (AV.s x2), (AV.g [(AV.g []), (AV.i .u32 x3)]), (AV.l 31 x4), (AV.l 31 x5)]), (AV.g [(AV.i .i64 x6), (AV.i .i64 x7), (AV.s x8)])]).bind fun o1 =>
  if ((AV.int (List.headD (List.tail o1) .u)) != (0 : Int)) = true then
  some [(AV.i .i64 (AV.int (List.headD (List.tail o1) .u))), (AV.g [(AV.l 53 (AV.list (AV.fld (List.headD (List.tail (List.tail o1)) .u) 0))), (AV.g [(AV.g []), (AV.g []), (AV.i .i64 (AV.int (AV.fld (AV.fld (List.headD (List.tail (List.tail o1)) .u) 1) 2)))]), (AV.s (AV.str (AV.fld (List.headD (List.tail (List.tail o1)) .u) 2))), (AV.g [(AV.g []), (AV.i .u32 (AV.int (AV.fld (AV.fld (List.headD (List.tail (List.tail o1)) .u) 3) 1)))]), (AV.l 31 (AV.list (AV.fld (List.headD (List.tail (List.tail o1)) .u) 4))), (AV.l 31 (AV.list (AV.fld (List.headD (List.tail (List.tail o1)) .u) 5)))])]
 else
  if (List.length (AV.list (AV.fld (List.headD (List.tail (List.tail o1)) .u) 4))) + (List.length [(AV.g [(AV.i .i64 (AV.int (AV.fld (List.headD o1 .u) 0))), (AV.i .i64 (AV.int (AV.fld (List.headD o1 .u) 1))), (AV.s (AV.str (AV.fld (List.headD o1 .u) 2)))])]) ≤ 16777216 ∧ (false && false) = false then
   if (decide (((List.length ((AV.list (AV.fld (List.headD (List.tail (List.tail o1)) .u) 4)) ++ [(AV.g [(AV.i .i64 (AV.int (AV.fld (List.headD o1 .u) 0))), (AV.i .i64 (AV.int (AV.fld (List.headD o1 .u) 1))), (AV.s (AV.str (AV.fld (List.headD o1 .u) 2)))])]) : Nat) : Int) > (32 : Int))) = true then
    if (decide ((31 : Nat) = 31 ∧ IntKind.i64 = .i64 ∧ IntKind.i64 = .i64 ∧ (0 : Int) = 0 ∧ (1 : Int) = 1 ∧ 1 ≤ List.length ((AV.list (AV.fld (List.headD (List.tail (List.tail o1)) .u) 4)) ++ [(AV.g [(AV.i .i64 (AV.int (AV.fld (List.headD o1 .u) 0))), (AV.i .i64 (AV.int (AV.fld (List.headD o1 .u) 1))), (AV.s (AV.str (AV.fld (List.headD o1 .u) 2)))])]) ∧ List.length ((AV.list (AV.fld (List.headD (List.tail (List.tail o1)) .u) 4)) ++ [(AV.g [(AV.i .i64 (AV.int (AV.fld (List.headD o1 .u) 0))), (AV.i .i64 (AV.int (AV.fld (List.headD o1 .u) 1))), (AV.s (AV.str (AV.fld (List.headD o1 .u) 2)))])]) ≤ 16777216)) = true then
     some [(AV.i .i64 (0 : Int)), (AV.g [(AV.l 53 (AV.list (AV.fld (List.headD (List.tail (List.tail o1)) .u) 0))), (AV.g [(AV.g []), (AV.g []), (AV.i .i64 (AV.int (AV.fld (AV.fld (List.headD (List.tail (List.tail o1)) .u) 1) 2)))]), (AV.s (AV.str (AV.fld (List.headD (List.tail (List.tail o1)) .u) 2))), (AV.g [(AV.g []), (AV.i .u32 (AV.int (AV.fld (AV.fld (List.headD (List.tail (List.tail o1)) .u) 3) 1)))]), (AV.l 31 (List.drop 1 ((AV.list (AV.fld (List.headD (List.tail (List.tail o1)) .u) 4)) ++ [(AV.g [(AV.i .i64 (AV.int (AV.fld (List.headD o1 .u) 0))), (AV.i .i64 (AV.int (AV.fld (List.headD o1 .u) 1))), (AV.s (AV.str (AV.fld (List.headD o1 .u) 2)))])]))), (AV.l 31 ([] : List AV))])]
    else
     none
   else
    some [(AV.i .i64 (0 : Int)), (AV.g [(AV.l 53 (AV.list (AV.fld (List.headD (List.tail (List.tail o1)) .u) 0))), (AV.g [(AV.g []), (AV.g []), (AV.i .i64 (AV.int (AV.fld (AV.fld (List.headD (List.tail (List.tail o1)) .u) 1) 2)))]), (AV.s (AV.str (AV.fld (List.headD (List.tail (List.tail o1)) .u) 2))), (AV.g [(AV.g []), (AV.i .u32 (AV.int (AV.fld (AV.fld (List.headD (List.tail (List.tail o1)) .u) 3) 1)))]), (AV.l 31 ((AV.list (AV.fld (List.headD (List.tail (List.tail o1)) .u) 4)) ++ [(AV.g [(AV.i .i64 (AV.int (AV.fld (List.headD o1 .u) 0))), (AV.i .i64 (AV.int (AV.fld (List.headD o1 .u) 1))), (AV.s (AV.str (AV.fld (List.headD o1 .u) 2)))])])), (AV.l 31 ([] : List AV))])]
  else
   none := by kernel_rfl
theorem e13 (k : Nat) (x0 : List AV) (x1 : Int) (x2 : ByteArray) (x3 : Int) (x4 : List AV) (x5 : List AV) : call C (k + 27) 13 [(AV.g [(AV.l 53 x0), (AV.g [(AV.g []), (AV.g []), (AV.i .i64 x1)]), (AV.s x2), (AV.g [(AV.g []), (AV.i .u32 x3)]), (AV.l 31 x4), (AV.l 31 x5)])] =
  if (decide ((IntKind.wrap .i64 (((List.length x4 : Nat) : Int) - (1 : Int))) < (0 : Int))) = true then
  some [(AV.i .i64 (4 : Int)), (AV.g [(AV.l 53 x0), (AV.g [(AV.g []), (AV.g []), (AV.i .i64 x1)]), (AV.s x2), (AV.g [(AV.g []), (AV.i .u32 x3)]), (AV.l 31 x4), (AV.l 31 x5)])]
 else
  if 0 ≤ (IntKind.wrap .i64 (((List.length x4 : Nat) : Int) - (1 : Int))) ∧ (IntKind.wrap .i64 (((List.length x4 : Nat) : Int) - (1 : Int))) < ((List.length x4) : Int) then
   (callP C (callF C (k + 7)) 22 [(AV.g [(AV.l 53 x0), (AV.g [(AV.g []), (AV.g []), (AV.i .i64 x1)]), (AV.s x2), (AV.g [(AV.g []), (AV.i .u32 x3)]), (AV.l 31 x4), (AV.l 31 x5)]), (AV.g [(AV.i .i64 (AV.int (AV.fld (x4.getD (Int.toNat (IntKind.wrap .i64 (((List.length x4 : Nat) : Int) - (1 : Int)))) .u) 0))), (AV.i .i64 (AV.int (AV.fld (x4.getD (Int.toNat (IntKind.wrap .i64 (((List.length x4 : Nat) : Int) - (1 : Int)))) .u) 1))), (AV.s (AV.str (AV.fld (x4.getD (Int.toNat (IntKind.wrap .i64 (((List.length x4 : Nat) : Int) - (1 : Int)))) .u) 2)))])]).bind fun o1 =>
    if 0 ≤ (IntKind.wrap .i64 (((List.length x4 : Nat) : Int) - (1 : Int))) ∧ (IntKind.wrap .i64 (((List.length x4 : Nat) : Int) - (1 : Int))) ≤ ((List.length (AV.list (AV.fld (List.headD (List.tail (List.tail o1)) .u) 4))) : Int) then
    if (List.length (AV.list (AV.fld (List.headD (List.tail (List.tail o1)) .u) 5))) + (List.length [(AV.g [(AV.i .i64 (AV.int (AV.fld (List.headD o1 .u) 0))), (AV.i .i64 (AV.int (AV.fld (List.headD o1 .u) 1))), (AV.s (AV.str (AV.fld (List.headD o1 .u) 2)))])]) ≤ 16777216 ∧ (false && false) = false then
     some [(AV.i .i64 (0 : Int)), (AV.g [(AV.l 53 (AV.list (AV.fld (List.headD (List.tail (List.tail o1)) .u) 0))), (AV.g [(AV.g []), (AV.g []), (AV.i .i64 (AV.int (AV.fld (AV.fld (List.headD (List.tail (List.tail o1)) .u) 1) 2)))]), (AV.s (AV.str (AV.fld (List.headD (List.tail (List.tail o1)) .u) 2))), (AV.g [(AV.g []), (AV.i .u32 (AV.int (AV.fld (AV.fld (List.headD (List.tail (List.tail o1)) .u) 3) 1)))]), (AV.l 31 (((AV.list (AV.fld (List.headD (List.tail (List.tail o1)) .u) 4)).drop 0).take ((Int.toNat (IntKind.wrap .i64 (((List.length x4 : Nat) : Int) - (1 : Int)))) - 0))), (AV.l 31 ((AV.list (AV.fld (List.headD (List.tail (List.tail o1)) .u) 5)) ++ [(AV.g [(AV.i .i64 (AV.int (AV.fld (List.headD o1 .u) 0))), (AV.i .i64 (AV.int (AV.fld (List.headD o1 .u) 1))), (AV.s (AV.str (AV.fld (List.headD o1 .u) 2)))])]))])]
    else
     none
   else
    none
  else
   none := by kernel_rfl
theorem e17 (k : Nat) (x0 : List AV) (x1 : Int) (x2 : ByteArray) (x3 : Int) (x4 : List AV) (x5 : List AV) : call C (k + 27) 17 [(AV.g [(AV.l 53 x0), (AV.g [(AV.g []), (AV.g []), (AV.i .i64 x1)]), (AV.s x2), (AV.g [(AV.g []), (AV.i .u32 x3)]), (AV.l 31 x4), (AV.l 31 x5)])] =
  if (decide ((IntKind.wrap .i64 (((List.length x5 : Nat) : Int) - (1 : Int))) < (0 : Int))) = true then
  some [(AV.i .i64 (4 : Int)), (AV.g [(AV.l 53 x0), (AV.g [(AV.g []), (AV.g []), (AV.i .i64 x1)]), (AV.s x2), (AV.g [(AV.g []), (AV.i .u32 x3)]), (AV.l 31 x4), (AV.l 31 x5)])]
 else
  if 0 ≤ (IntKind.wrap .i64 (((List.length x5 : Nat) : Int) - (1 : Int))) ∧ (IntKind.wrap .i64 (((List.length x5 : Nat) : Int) - (1 : Int))) < ((List.length x5) : Int) then
   (callP C (callF C (k + 7)) 22 [(AV.g [(AV.l 53 x0), (AV.g [(AV.g []), (AV.g []), (AV.i .i64 x1)]), (AV.s x2), (AV.g [(AV.g []), (AV.i .u32 x3)]), (AV.l 31 x4), (AV.l 31 x5)]), (AV.g [(AV.i .i64 (AV.int (AV.fld (x5.getD (Int.toNat (IntKind.wrap .i64 (((List.length x5 : Nat) : Int) - (1 : Int)))) .u) 0))), (AV.i .i64 (AV.int (AV.fld (x5.getD (Int.toNat (IntKind.wrap .i64 (((List.length x5 : Nat) : Int) - (1 : Int)))) .u) 1))), (AV.s (AV.str (AV.fld (x5.getD (Int.toNat (IntKind.wrap .i64 (((List.length x5 : Nat) : Int) - (1 : Int)))) .u) 2)))])]).bind fun o1 =>
    if 0 ≤ (IntKind.wrap .i64 (((List.length x5 : Nat) : Int) - (1 : Int))) ∧ (IntKind.wrap .i64 (((List.length x5 : Nat) : Int) - (1 : Int))) ≤ ((List.length (AV.list (AV.fld (List.headD (List.tail (List.tail o1)) .u) 5))) : Int) then
    if (List.length (AV.list (AV.fld (List.headD (List.tail (List.tail o1)) .u) 4))) + (List.length [(AV.g [(AV.i .i64 (AV.int (AV.fld (List.headD o1 .u) 0))), (AV.i .i64 (AV.int (AV.fld (List.headD o1 .u) 1))), (AV.s (AV.str (AV.fld (List.headD o1 .u) 2)))])]) ≤ 16777216 ∧ (false && false) = false then
     some [(AV.i .i64 (0 : Int)), (AV.g [(AV.l 53 (AV.list (AV.fld (List.headD (List.tail (List.tail o1)) .u) 0))), (AV.g [(AV.g []), (AV.g []), (AV.i .i64 (AV.int (AV.fld (AV.fld (List.headD (List.tail (List.tail o1)) .u) 1) 2)))]), (AV.s (AV.str (AV.fld (List.headD (List.tail (List.tail o1)) .u) 2))), (AV.g [(AV.g []), (AV.i .u32 (AV.int (AV.fld (AV.fld (List.headD (List.tail (List.tail o1)) .u) 3) 1)))]), (AV.l 31 ((AV.list (AV.fld (List.headD (List.tail (List.tail o1)) .u) 4)) ++ [(AV.g [(AV.i .i64 (AV.int (AV.fld (List.headD o1 .u) 0))), (AV.i .i64 (AV.int (AV.fld (List.headD o1 .u) 1))), (AV.s (AV.str (AV.fld (List.headD o1 .u) 2)))])])), (AV.l 31 (((AV.list (AV.fld (List.headD (List.tail (List.tail o1)) .u) 5)).drop 0).take ((Int.toNat (IntKind.wrap .i64 (((List.length x5 : Nat) : Int) - (1 : Int)))) - 0)))])]
    else
     none
   else
    none
  else
   none := by kernel_rfl
theorem e18 (k : Nat) (x0 : List AV) (x1 : Int) (x2 : ByteArray) (x3 : Int) (x4 : List AV) (x5 : List AV) : call C (k + 14) 18 [(AV.at 64 (AV.g [(AV.l 53 x0), (AV.g [(AV.g []), (AV.g []), (AV.i .i64 x1)]), (AV.s x2), (AV.g [(AV.g []), (AV.i .u32 x3)]), (AV.l 31 x4), (AV.l 31 x5)]))] =
  some [(AV.i .i64 x1)] := by kernel_rfl
theorem e19 (k : Nat) (x0 : List AV) (x1 : Int) (x2 : ByteArray) (x3 : Int) (x4 : List AV) (x5 : List AV) (x6 : Int) (x7 : Int) : call C (k + 15) 19 [(AV.g [(AV.l 53 x0), (AV.g [(AV.g []), (AV.g []), (AV.i .i64 x1)]), (AV.s x2), (AV.g [(AV.g []), (AV.i .u32 x3)]), (AV.l 31 x4), (AV.l 31 x5)]), (AV.i .i64 x6), (AV.i .i64 x7)] =
  if (decide (x6 < (0 : Int))) = false then
  if (decide (x7 < (0 : Int))) = false then
   (callP C (callF C (k + 6)) 18 [(AV.at 64 (AV.g [(AV.l 53 x0), (AV.g [(AV.g []), (AV.g []), (AV.i .i64 x1)]), (AV.s x2), (AV.g [(AV.g []), (AV.i .u32 x3)]), (AV.l 31 x4), (AV.l 31 x5)]))]).bind fun o1 =>
    if (decide (x6 > (AV.int (List.headD o1 .u)))) = false then
    (callP C (callF C (k + 6)) 18 [(AV.at 64 (AV.g [(AV.l 53 x0), (AV.g [(AV.g []), (AV.g []), (AV.i .i64 x1)]), (AV.s x2), (AV.g [(AV.g []), (AV.i .u32 x3)]), (AV.l 31 x4), (AV.l 31 x5)]))]).bind fun o2 =>
     if (decide (x7 > (IntKind.wrap .i64 ((AV.int (List.headD o2 .u)) - x6)))) = true then
     some [(AV.s ⟨#[]⟩), (AV.i .i64 (2 : Int)), (AV.g [(AV.l 53 x0), (AV.g [(AV.g []), (AV.g []), (AV.i .i64 x1)]), (AV.s x2), (AV.g [(AV.g []), (AV.i .u32 x3)]), (AV.l 31 x4), (AV.l 31 x5)])]
    else
     (callP C (callF C (k + 1)) 12 [(AV.g [(AV.l 53 x0), (AV.g [(AV.g []), (AV.g []), (AV.i .i64 x1)]), (AV.s x2), (AV.g [(AV.g []), (AV.i .u32 x3)]), (AV.l 31 x4), (AV.l 31 x5)])]).bind fun o3 =>
      if 0 ≤ (IntKind.wrap .i64 (x6 + x7)) ∧ (IntKind.wrap .i64 (x6 + x7)) ≤ ((ByteArray.size (AV.str (List.headD o3 .u))) : Int) then
      if 0 ≤ x6 ∧ x6 ≤ (IntKind.wrap .i64 (x6 + x7)) then
       some [(AV.s (ByteArray.extract (AV.str (List.headD o3 .u)) (Int.toNat x6) (Int.toNat (IntKind.wrap .i64 (x6 + x7))))), (AV.i .i64 (0 : Int)), (AV.g [(AV.l 53 (AV.list (AV.fld (List.headD (List.tail o3) .u) 0))), (AV.g [(AV.g []), (AV.g []), (AV.i .i64 (AV.int (AV.fld (AV.fld (List.headD (List.tail o3) .u) 1) 2)))]), (AV.s (AV.str (AV.fld (List.headD (List.tail o3) .u) 2))), (AV.g [(AV.g []), (AV.i .u32 (AV.int (AV.fld (AV.fld (List.headD (List.tail o3) .u) 3) 1)))]), (AV.l 31 (AV.list (AV.fld (List.headD (List.tail o3) .u) 4))), (AV.l 31 (AV.list (AV.fld (List.headD (List.tail o3) .u) 5)))])]
      else
       none
     else
      none
   else
    some [(AV.s ⟨#[]⟩), (AV.i .i64 (2 : Int)), (AV.g [(AV.l 53 x0), (AV.g [(AV.g []), (AV.g []), (AV.i .i64 x1)]), (AV.s x2), (AV.g [(AV.g []), (AV.i .u32 x3)]), (AV.l 31 x4), (AV.l 31 x5)])]
  else
   some [(AV.s ⟨#[]⟩), (AV.i .i64 (2 : Int)), (AV.g [(AV.l 53 x0), (AV.g [(AV.g []), (AV.g []), (AV.i .i64 x1)]), (AV.s x2), (AV.g [(AV.g []), (AV.i .u32 x3)]), (AV.l 31 x4), (AV.l 31 x5)])]
 else
  some [(AV.s ⟨#[]⟩), (AV.i .i64 (2 : Int)), (AV.g [(AV.l 53 x0), (AV.g [(AV.g []), (AV.g []), (AV.i .i64 x1)]), (AV.s x2), (AV.g [(AV.g []), (AV.i .u32 x3)]), (AV.l 31 x4), (AV.l 31 x5)])] := by kernel_rfl
theorem e15 (k : Nat) (x0 : List AV) (x1 : Int) (x2 : ByteArray) (x3 : Int) (x4 : List AV) (x5 : List AV) (x6 : List AV) (x7 : ByteArray) (x8 : List AV) (x9 : Int) (x10 : Int) (x11 : Int) (x12 : ByteArray) : call C (k + 20) 15 [(AV.g [(AV.l 53 x0), (AV.g [(AV.g []), (AV.g []), (AV.i .i64 x1)]), (AV.s x2), (AV.g [(AV.g []), (AV.i .u32 x3)]), (AV.l 31 x4), (AV.l 31 x5)]), (AV.g [(AV.l 9 x6), (AV.s x7), (AV.l 9 x8)]), (AV.g [(AV.i .i64 x9), (AV.g [(AV.i .i64 x10), (AV.i .i64 x11), (AV.s x12)])])] =
  if (x9 == (0 : Int)) = true then
  (callP C (callF C (k + 9)) 11 [(AV.g [(AV.l 53 x0), (AV.g [(AV.g []), (AV.g []), (AV.i .i64 x1)]), (AV.s x2), (AV.g [(AV.g []), (AV.i .u32 x3)]), (AV.l 31 x4), (AV.l 31 x5)]), (AV.g [(AV.i .i64 x10), (AV.i .i64 x11), (AV.s x12)])]).bind fun o1 =>
   (callP C (callF C (k + 9)) 29 [(AV.g [(AV.l 9 x6), (AV.s x7), (AV.l 9 x8)]), (AV.g [(AV.i .i64 x10), (AV.i .i64 x11), (AV.s x12)])]).bind fun o2 =>
   some [(AV.b ((AV.int (List.headD o1 .u)) == (AV.int (List.headD o2 .u)))), (AV.g [(AV.l 53 (AV.list (AV.fld (List.headD (List.tail o1) .u) 0))), (AV.g [(AV.g []), (AV.g []), (AV.i .i64 (AV.int (AV.fld (AV.fld (List.headD (List.tail o1) .u) 1) 2)))]), (AV.s (AV.str (AV.fld (List.headD (List.tail o1) .u) 2))), (AV.g [(AV.g []), (AV.i .u32 (AV.int (AV.fld (AV.fld (List.headD (List.tail o1) .u) 3) 1)))]), (AV.l 31 (AV.list (AV.fld (List.headD (List.tail o1) .u) 4))), (AV.l 31 (AV.list (AV.fld (List.headD (List.tail o1) .u) 5)))]), (AV.g [(AV.l 9 (AV.list (AV.fld (List.headD (List.tail o2) .u) 0))), (AV.s (AV.str (AV.fld (List.headD (List.tail o2) .u) 1))), (AV.l 9 (AV.list (AV.fld (List.headD (List.tail o2) .u) 2)))])]
 else
  if (x9 == (1 : Int)) = true then
   (callP C (callF C (k + 6)) 13 [(AV.g [(AV.l 53 x0), (AV.g [(AV.g []), (AV.g []), (AV.i .i64 x1)]), (AV.s x2), (AV.g [(AV.g []), (AV.i .u32 x3)]), (AV.l 31 x4), (AV.l 31 x5)])]).bind fun o3 =>
    (callP C (callF C (k + 6)) 30 [(AV.g [(AV.l 9 x6), (AV.s x7), (AV.l 9 x8)])]).bind fun o4 =>
    some [(AV.b ((AV.int (List.headD o3 .u)) == (AV.int (List.headD o4 .u)))), (AV.g [(AV.l 53 (AV.list (AV.fld (List.headD (List.tail o3) .u) 0))), (AV.g [(AV.g []), (AV.g []), (AV.i .i64 (AV.int (AV.fld (AV.fld (List.headD (List.tail o3) .u) 1) 2)))]), (AV.s (AV.str (AV.fld (List.headD (List.tail o3) .u) 2))), (AV.g [(AV.g []), (AV.i .u32 (AV.int (AV.fld (AV.fld (List.headD (List.tail o3) .u) 3) 1)))]), (AV.l 31 (AV.list (AV.fld (List.headD (List.tail o3) .u) 4))), (AV.l 31 (AV.list (AV.fld (List.headD (List.tail o3) .u) 5)))]), (AV.g [(AV.l 9 (AV.list (AV.fld (List.headD (List.tail o4) .u) 0))), (AV.s (AV.str (AV.fld (List.headD (List.tail o4) .u) 1))), (AV.l 9 (AV.list (AV.fld (List.headD (List.tail o4) .u) 2)))])]
  else
   if (x9 == (2 : Int)) = true then
    (callP C (callF C (k + 3)) 17 [(AV.g [(AV.l 53 x0), (AV.g [(AV.g []), (AV.g []), (AV.i .i64 x1)]), (AV.s x2), (AV.g [(AV.g []), (AV.i .u32 x3)]), (AV.l 31 x4), (AV.l 31 x5)])]).bind fun o5 =>
     (callP C (callF C (k + 3)) 31 [(AV.g [(AV.l 9 x6), (AV.s x7), (AV.l 9 x8)])]).bind fun o6 =>
     some [(AV.b ((AV.int (List.headD o5 .u)) == (AV.int (List.headD o6 .u)))), (AV.g [(AV.l 53 (AV.list (AV.fld (List.headD (List.tail o5) .u) 0))), (AV.g [(AV.g []), (AV.g []), (AV.i .i64 (AV.int (AV.fld (AV.fld (List.headD (List.tail o5) .u) 1) 2)))]), (AV.s (AV.str (AV.fld (List.headD (List.tail o5) .u) 2))), (AV.g [(AV.g []), (AV.i .u32 (AV.int (AV.fld (AV.fld (List.headD (List.tail o5) .u) 3) 1)))]), (AV.l 31 (AV.list (AV.fld (List.headD (List.tail o5) .u) 4))), (AV.l 31 (AV.list (AV.fld (List.headD (List.tail o5) .u) 5)))]), (AV.g [(AV.l 9 (AV.list (AV.fld (List.headD (List.tail o6) .u) 0))), (AV.s (AV.str (AV.fld (List.headD (List.tail o6) .u) 1))), (AV.l 9 (AV.list (AV.fld (List.headD (List.tail o6) .u) 2)))])]
   else
    some [(AV.b true), (AV.g [(AV.l 53 x0), (AV.g [(AV.g []), (AV.g []), (AV.i .i64 x1)]), (AV.s x2), (AV.g [(AV.g []), (AV.i .u32 x3)]), (AV.l 31 x4), (AV.l 31 x5)]), (AV.g [(AV.l 9 x6), (AV.s x7), (AV.l 9 x8)])] := by kernel_rfl
theorem e8 (k : Nat) : call C (k + 18) 8 [] =
  if (decide (((ByteArray.size ⟨#[97, 98]⟩ : Nat) : Int) > (4000 : Int))) = true then
  some [(AV.b false)]
 else
  (callP C (callF C (k + 12)) 11 [(AV.g [(AV.l 53 [(AV.g [(AV.s ⟨#[97, 98]⟩)])]), (AV.g [(AV.g []), (AV.g []), (AV.i .i64 ((ByteArray.size ⟨#[97, 98]⟩ : Nat) : Int))]), (AV.s ⟨#[]⟩), (AV.g [(AV.g []), (AV.i .u32 (0 : Int))]), (AV.l 31 ([] : List AV)), (AV.l 31 ([] : List AV))]), (AV.g [(AV.i .i64 (1 : Int)), (AV.i .i64 (0 : Int)), (AV.s ⟨#[120]⟩)])]).bind fun o1 =>
   if ((AV.int (List.headD o1 .u)) == (0 : Int)) = true then
   (callP C (callF C (k + 12)) 12 [(AV.g [(AV.l 53 (AV.list (AV.fld (List.headD (List.tail o1) .u) 0))), (AV.g [(AV.g []), (AV.g []), (AV.i .i64 (AV.int (AV.fld (AV.fld (List.headD (List.tail o1) .u) 1) 2)))]), (AV.s (AV.str (AV.fld (List.headD (List.tail o1) .u) 2))), (AV.g [(AV.g []), (AV.i .u32 (AV.int (AV.fld (AV.fld (List.headD (List.tail o1) .u) 3) 1)))]), (AV.l 31 (AV.list (AV.fld (List.headD (List.tail o1) .u) 4))), (AV.l 31 (AV.list (AV.fld (List.headD (List.tail o1) .u) 5)))])]).bind fun o2 =>
    if ((ByteArray.toList (AV.str (List.headD o2 .u))) == (ByteArray.toList ⟨#[97, 120, 98]⟩)) = true then
    (callP C (callF C (k + 12)) 13 [(AV.g [(AV.l 53 (AV.list (AV.fld (List.headD (List.tail o2) .u) 0))), (AV.g [(AV.g []), (AV.g []), (AV.i .i64 (AV.int (AV.fld (AV.fld (List.headD (List.tail o2) .u) 1) 2)))]), (AV.s (AV.str (AV.fld (List.headD (List.tail o2) .u) 2))), (AV.g [(AV.g []), (AV.i .u32 (AV.int (AV.fld (AV.fld (List.headD (List.tail o2) .u) 3) 1)))]), (AV.l 31 (AV.list (AV.fld (List.headD (List.tail o2) .u) 4))), (AV.l 31 (AV.list (AV.fld (List.headD (List.tail o2) .u) 5)))])]).bind fun o3 =>
     if ((AV.int (List.headD o3 .u)) == (0 : Int)) = true then
     (callP C (callF C (k + 12)) 12 [(AV.g [(AV.l 53 (AV.list (AV.fld (List.headD (List.tail o3) .u) 0))), (AV.g [(AV.g []), (AV.g []), (AV.i .i64 (AV.int (AV.fld (AV.fld (List.headD (List.tail o3) .u) 1) 2)))]), (AV.s (AV.str (AV.fld (List.headD (List.tail o3) .u) 2))), (AV.g [(AV.g []), (AV.i .u32 (AV.int (AV.fld (AV.fld (List.headD (List.tail o3) .u) 3) 1)))]), (AV.l 31 (AV.list (AV.fld (List.headD (List.tail o3) .u) 4))), (AV.l 31 (AV.list (AV.fld (List.headD (List.tail o3) .u) 5)))])]).bind fun o4 =>
      if ((ByteArray.toList (AV.str (List.headD o4 .u))) == (ByteArray.toList ⟨#[97, 98]⟩)) = true then
      (callP C (callF C (k + 12)) 17 [(AV.g [(AV.l 53 (AV.list (AV.fld (List.headD (List.tail o4) .u) 0))), (AV.g [(AV.g []), (AV.g []), (AV.i .i64 (AV.int (AV.fld (AV.fld (List.headD (List.tail o4) .u) 1) 2)))]), (AV.s (AV.str (AV.fld (List.headD (List.tail o4) .u) 2))), (AV.g [(AV.g []), (AV.i .u32 (AV.int (AV.fld (AV.fld (List.headD (List.tail o4) .u) 3) 1)))]), (AV.l 31 (AV.list (AV.fld (List.headD (List.tail o4) .u) 4))), (AV.l 31 (AV.list (AV.fld (List.headD (List.tail o4) .u) 5)))])]).bind fun o5 =>
       if ((AV.int (List.headD o5 .u)) == (0 : Int)) = true then
       (callP C (callF C (k + 12)) 12 [(AV.g [(AV.l 53 (AV.list (AV.fld (List.headD (List.tail o5) .u) 0))), (AV.g [(AV.g []), (AV.g []), (AV.i .i64 (AV.int (AV.fld (AV.fld (List.headD (List.tail o5) .u) 1) 2)))]), (AV.s (AV.str (AV.fld (List.headD (List.tail o5) .u) 2))), (AV.g [(AV.g []), (AV.i .u32 (AV.int (AV.fld (AV.fld (List.headD (List.tail o5) .u) 3) 1)))]), (AV.l 31 (AV.list (AV.fld (List.headD (List.tail o5) .u) 4))), (AV.l 31 (AV.list (AV.fld (List.headD (List.tail o5) .u) 5)))])]).bind fun o6 =>
        some [(AV.b ((ByteArray.toList (AV.str (List.headD o6 .u))) == (ByteArray.toList ⟨#[97, 120, 98]⟩)))]
      else
       some [(AV.b false)]
     else
      some [(AV.b false)]
    else
     some [(AV.b false)]
   else
    some [(AV.b false)]
  else
   some [(AV.b false)] := by kernel_rfl
theorem e7 (k : Nat) (x0 : ByteArray) : call C (k + 28) 7 [(AV.s x0)] =
  (callP C (callF C (k + 23)) 8 []).bind fun o1 =>
  if (!(AV.bool (List.headD o1 .u))) = false then
  if (decide (((ByteArray.size x0 : Nat) : Int) > (65536 : Int))) = true then
   (callP C (callF C (k + 20)) 8 []).bind fun o2 =>
    some [(AV.b (AV.bool (List.headD o2 .u)))]
  else
   if (decide (((ByteArray.size x0 : Nat) : Int) > (4000 : Int))) = true then
    if (!((ByteArray.toList ⟨#[]⟩) == (ByteArray.toList ⟨#[]⟩))) = false then
     if ((IntKind.wrap .i64 ((0 : Int) + (0 : Int))) != (0 : Int)) = true then
      some [(AV.b false)]
     else
      if (decide (((ByteArray.size x0 : Nat) : Int) > (4000 : Int))) = true then
       some [(AV.b true)]
      else
       some [(AV.b false)]
    else
     some [(AV.b false)]
   else
    if (!((ByteArray.toList ⟨#[]⟩) == (ByteArray.toList ⟨#[]⟩))) = false then
     if ((IntKind.wrap .i64 ((0 : Int) + (0 : Int))) != (0 : Int)) = true then
      some [(AV.b false)]
     else
      if (decide (((ByteArray.size x0 : Nat) : Int) > (4000 : Int))) = true then
       some [(AV.b false)]
      else
       (callP C (callF C (k + 1)) 12 [(AV.g [(AV.l 53 [(AV.g [(AV.s x0)])]), (AV.g [(AV.g []), (AV.g []), (AV.i .i64 ((ByteArray.size x0 : Nat) : Int))]), (AV.s ⟨#[]⟩), (AV.g [(AV.g []), (AV.i .u32 (0 : Int))]), (AV.l 31 ([] : List AV)), (AV.l 31 ([] : List AV))])]).bind fun o3 =>
        if ((ByteArray.toList (AV.str (List.headD o3 .u))) == (ByteArray.toList x0)) = true then
        (callP C (callF C (k + 1)) 18 [(AV.at 64 (AV.g [(AV.l 53 (AV.list (AV.fld (List.headD (List.tail o3) .u) 0))), (AV.g [(AV.g []), (AV.g []), (AV.i .i64 (AV.int (AV.fld (AV.fld (List.headD (List.tail o3) .u) 1) 2)))]), (AV.s (AV.str (AV.fld (List.headD (List.tail o3) .u) 2))), (AV.g [(AV.g []), (AV.i .u32 (AV.int (AV.fld (AV.fld (List.headD (List.tail o3) .u) 3) 1)))]), (AV.l 31 (AV.list (AV.fld (List.headD (List.tail o3) .u) 4))), (AV.l 31 (AV.list (AV.fld (List.headD (List.tail o3) .u) 5)))]))]).bind fun o4 =>
         some [(AV.b ((AV.int (List.headD o4 .u)) == ((ByteArray.size x0 : Nat) : Int)))]
       else
        some [(AV.b false)]
    else
     some [(AV.b false)]
 else
  (callP C (callF C (k + 20)) 8 []).bind fun o5 =>
   some [(AV.b (AV.bool (List.headD o5 .u)))] := by kernel_rfl
noncomputable def b3 : Code := match Try.f3.body with | some c => c | none => .skip
noncomputable def l7 (k : Nat) (y0 : List AV) (y1 : Int) (y2 : ByteArray) (y3 : Int) (y4 : List AV) (y5 : List AV) (y6 : ByteArray) (y7 : List AV) (y8 : List AV) (y9 : Int) (y10 : Int) : Out := regD C (callG C (go C k)) (fun x => go C k (List AV) false 3 Try.f3 [] [.code (cAt [1, 1, 1, 1, 1, 0, 1, 0, 0, 1] b3), .lp (cAt [1, 1, 1, 1, 1, 0, 1, 0, 0] b3), .blk 0, .code (cAt [1, 1, 1, 1, 1, 1] b3)] x (finish C 3 Try.f3)) (rOps (cAt [1, 1, 1, 1, 1, 0, 1, 0, 0, 0] b3)) false ⟨[(AV.s y6), AV.u, AV.u, AV.u, AV.u, (AV.p 0 []), AV.u, (AV.w 9 4), AV.u, AV.u, AV.u, AV.u, AV.u, AV.u, AV.u, AV.u, AV.u, AV.u, AV.u, AV.u, AV.u, AV.u, AV.u, AV.u, AV.u, AV.u, AV.u, (AV.l 31 y8), (AV.i .i64 y9), (AV.i .i64 y10), AV.u, AV.u, AV.u, AV.u, AV.u, AV.u, AV.u, AV.u, AV.u, AV.u, AV.u, AV.u, AV.u, AV.u, AV.u, AV.u, AV.u, AV.u, AV.u, AV.u, AV.u, AV.u, AV.u, AV.u, AV.u, AV.u, AV.u, AV.u, AV.u, AV.u, AV.u, AV.u, AV.u, AV.u, AV.u, AV.u, AV.u, AV.u, AV.u, AV.u, AV.u, AV.u], [(Blk.obj 64 (AV.g [(AV.w 53 1), (AV.g [(AV.g []), (AV.g []), (AV.i .i64 y1)]), (AV.s y2), (AV.g [(AV.g []), (AV.i .u32 y3)]), (AV.w 31 2), (AV.w 31 3)])), (Blk.arr 53 y0), (Blk.arr 31 y4), (Blk.arr 31 y5), (Blk.arr 9 y7)]⟩
noncomputable def l8 (k : Nat) (y0 : List AV) (y1 : Int) (y2 : ByteArray) (y3 : Int) (y4 : List AV) (y5 : List AV) (y6 : ByteArray) (y7 : List AV) (y8 : Int) : Out := regD C (callG C (go C k)) (fun x => go C k (List AV) false 3 Try.f3 [] [.code (cAt [1, 1, 1, 1, 1, 1, 1, 0, 0, 0, 0, 1] b3), .code (cAt [1, 1, 1, 1, 1, 1, 1, 0, 0, 0, 1] b3), .lp (cAt [1, 1, 1, 1, 1, 1, 1, 0, 0, 0] b3), .blk 2, .code (cAt [1, 1, 1, 1, 1, 1, 1, 1] b3)] x (finish C 3 Try.f3)) (rOps (cAt [1, 1, 1, 1, 1, 1, 1, 0, 0, 0, 0, 0] b3)) false ⟨[(AV.s y6), AV.u, AV.u, AV.u, AV.u, (AV.p 0 []), AV.u, (AV.w 9 4), AV.u, AV.u, (AV.i .i64 y8), AV.u, AV.u, AV.u, AV.u, AV.u, AV.u, AV.u, AV.u, AV.u, AV.u, AV.u, AV.u, AV.u, AV.u, AV.u, AV.u, AV.u, AV.u, AV.u, AV.u, AV.u, AV.u, AV.u, AV.u, AV.u, AV.u, AV.u, AV.u, AV.u, AV.u, AV.u, AV.u, AV.u, AV.u, AV.u, AV.u, AV.u, AV.u, AV.u, AV.u, AV.u, AV.u, AV.u, AV.u, AV.u, AV.u, AV.u, AV.u, AV.u, AV.u, AV.u, AV.u, AV.u, AV.u, AV.u, AV.u, AV.u, AV.u, AV.u, AV.u, AV.u], [(Blk.obj 64 (AV.g [(AV.w 53 1), (AV.g [(AV.g []), (AV.g []), (AV.i .i64 y1)]), (AV.s y2), (AV.g [(AV.g []), (AV.i .u32 y3)]), (AV.w 31 2), (AV.w 31 3)])), (Blk.arr 53 y0), (Blk.arr 31 y4), (Blk.arr 31 y5), (Blk.arr 9 y7)]⟩
theorem l7_eq (k : Nat) (y0 : List AV) (y1 : Int) (y2 : ByteArray) (y3 : Int) (y4 : List AV) (y5 : List AV) (y6 : ByteArray) (y7 : List AV) (y8 : List AV) (y9 : Int) (y10 : Int) : l7 (k + 16) y0 y1 y2 y3 y4 y5 y6 y7 y8 y9 y10 =
  if (decide (y10 < y9)) = true then
  if 0 ≤ y10 ∧ y10 < ((List.length y8) : Int) then
   (callP C (callF C (k + 7)) 11 [(AV.g [(AV.l 53 y0), (AV.g [(AV.g []), (AV.g []), (AV.i .i64 y1)]), (AV.s y2), (AV.g [(AV.g []), (AV.i .u32 y3)]), (AV.l 31 y4), (AV.l 31 y5)]), (AV.g [(AV.i .i64 (AV.int (AV.fld (y8.getD (Int.toNat y10) .u) 0))), (AV.i .i64 (AV.int (AV.fld (y8.getD (Int.toNat y10) .u) 1))), (AV.s (AV.str (AV.fld (y8.getD (Int.toNat y10) .u) 2)))])]).bind fun o1 =>
    if ((AV.int (List.headD o1 .u)) == (0 : Int)) = true then
    (callP C (callF C (k + 5)) 12 [(AV.g [(AV.l 53 (AV.list (AV.fld (List.headD (List.tail o1) .u) 0))), (AV.g [(AV.g []), (AV.g []), (AV.i .i64 (AV.int (AV.fld (AV.fld (List.headD (List.tail o1) .u) 1) 2)))]), (AV.s (AV.str (AV.fld (List.headD (List.tail o1) .u) 2))), (AV.g [(AV.g []), (AV.i .u32 (AV.int (AV.fld (AV.fld (List.headD (List.tail o1) .u) 3) 1)))]), (AV.l 31 (AV.list (AV.fld (List.headD (List.tail o1) .u) 4))), (AV.l 31 (AV.list (AV.fld (List.headD (List.tail o1) .u) 5)))])]).bind fun o2 =>
     if (List.length y7) + (List.length [(AV.s (AV.str (List.headD o2 .u)))]) ≤ 16777216 ∧ (false && false) = false then
     l7 (k + 0) ((AV.list (AV.fld (List.headD (List.tail o2) .u) 0))) ((AV.int (AV.fld (AV.fld (List.headD (List.tail o2) .u) 1) 2))) ((AV.str (AV.fld (List.headD (List.tail o2) .u) 2))) ((AV.int (AV.fld (AV.fld (List.headD (List.tail o2) .u) 3) 1))) ((AV.list (AV.fld (List.headD (List.tail o2) .u) 4))) ((AV.list (AV.fld (List.headD (List.tail o2) .u) 5))) (y6) ((y7 ++ [(AV.s (AV.str (List.headD o2 .u)))])) (y8) (y9) ((IntKind.wrap .i64 (y10 + (1 : Int))))
    else
     none
   else
    l7 (k + 0) ((AV.list (AV.fld (List.headD (List.tail o1) .u) 0))) ((AV.int (AV.fld (AV.fld (List.headD (List.tail o1) .u) 1) 2))) ((AV.str (AV.fld (List.headD (List.tail o1) .u) 2))) ((AV.int (AV.fld (AV.fld (List.headD (List.tail o1) .u) 3) 1))) ((AV.list (AV.fld (List.headD (List.tail o1) .u) 4))) ((AV.list (AV.fld (List.headD (List.tail o1) .u) 5))) (y6) (y7) (y8) (y9) ((IntKind.wrap .i64 (y10 + (1 : Int))))
  else
   none
 else
  l8 (k + 5) (y0) (y1) (y2) (y3) (y4) (y5) (y6) (y7) ((0 : Int)) := by kernel_rfl
theorem l8_eq (k : Nat) (y0 : List AV) (y1 : Int) (y2 : ByteArray) (y3 : Int) (y4 : List AV) (y5 : List AV) (y6 : ByteArray) (y7 : List AV) (y8 : Int) : l8 (k + 14) y0 y1 y2 y3 y4 y5 y6 y7 y8 =
  (callP C (callF C (k + 14)) 13 [(AV.g [(AV.l 53 y0), (AV.g [(AV.g []), (AV.g []), (AV.i .i64 y1)]), (AV.s y2), (AV.g [(AV.g []), (AV.i .u32 y3)]), (AV.l 31 y4), (AV.l 31 y5)])]).bind fun o1 =>
  if ((AV.int (List.headD o1 .u)) == (0 : Int)) = true then
  if (decide ((IntKind.wrap .i64 (y8 + (1 : Int))) > (32 : Int))) = true then
   some [(AV.b false)]
  else
   l8 (k + 0) ((AV.list (AV.fld (List.headD (List.tail o1) .u) 0))) ((AV.int (AV.fld (AV.fld (List.headD (List.tail o1) .u) 1) 2))) ((AV.str (AV.fld (List.headD (List.tail o1) .u) 2))) ((AV.int (AV.fld (AV.fld (List.headD (List.tail o1) .u) 3) 1))) ((AV.list (AV.fld (List.headD (List.tail o1) .u) 4))) ((AV.list (AV.fld (List.headD (List.tail o1) .u) 5))) (y6) (y7) ((IntKind.wrap .i64 (y8 + (1 : Int))))
 else
  if (decide (((List.length y7 : Nat) : Int) > (32 : Int))) = true then
   if 0 ≤ (IntKind.wrap .i64 ((IntKind.wrap .i64 (((List.length y7 : Nat) : Int) - (32 : Int))) - (1 : Int))) ∧ (IntKind.wrap .i64 ((IntKind.wrap .i64 (((List.length y7 : Nat) : Int) - (32 : Int))) - (1 : Int))) < ((List.length y7) : Int) then
    if (y8 == (if (32 : Int) < ((List.length y7 : Nat) : Int) then (32 : Int) else ((List.length y7 : Nat) : Int))) = true then
     (callP C (callF C (k + 3)) 12 [(AV.g [(AV.l 53 (AV.list (AV.fld (List.headD (List.tail o1) .u) 0))), (AV.g [(AV.g []), (AV.g []), (AV.i .i64 (AV.int (AV.fld (AV.fld (List.headD (List.tail o1) .u) 1) 2)))]), (AV.s (AV.str (AV.fld (List.headD (List.tail o1) .u) 2))), (AV.g [(AV.g []), (AV.i .u32 (AV.int (AV.fld (AV.fld (List.headD (List.tail o1) .u) 3) 1)))]), (AV.l 31 (AV.list (AV.fld (List.headD (List.tail o1) .u) 4))), (AV.l 31 (AV.list (AV.fld (List.headD (List.tail o1) .u) 5)))])]).bind fun o2 =>
      some [(AV.b ((ByteArray.toList (AV.str (List.headD o2 .u))) == (ByteArray.toList (AV.str (y7.getD (Int.toNat (IntKind.wrap .i64 ((IntKind.wrap .i64 (((List.length y7 : Nat) : Int) - (32 : Int))) - (1 : Int)))) .u)))))]
    else
     some [(AV.b false)]
   else
    none
  else
   if (y8 == (if (32 : Int) < ((List.length y7 : Nat) : Int) then (32 : Int) else ((List.length y7 : Nat) : Int))) = true then
    (callP C (callF C (k + 3)) 12 [(AV.g [(AV.l 53 (AV.list (AV.fld (List.headD (List.tail o1) .u) 0))), (AV.g [(AV.g []), (AV.g []), (AV.i .i64 (AV.int (AV.fld (AV.fld (List.headD (List.tail o1) .u) 1) 2)))]), (AV.s (AV.str (AV.fld (List.headD (List.tail o1) .u) 2))), (AV.g [(AV.g []), (AV.i .u32 (AV.int (AV.fld (AV.fld (List.headD (List.tail o1) .u) 3) 1)))]), (AV.l 31 (AV.list (AV.fld (List.headD (List.tail o1) .u) 4))), (AV.l 31 (AV.list (AV.fld (List.headD (List.tail o1) .u) 5)))])]).bind fun o3 =>
     some [(AV.b ((ByteArray.toList (AV.str (List.headD o3 .u))) == (ByteArray.toList y6)))]
   else
    some [(AV.b false)] := by kernel_rfl
theorem e3 (k : Nat) (x0 : ByteArray) (x1 : List AV) : call C (k + 28) 3 [(AV.s x0), (AV.l 31 x1)] =
  (callP C (callF C (k + 23)) 8 []).bind fun o1 =>
  if (!(AV.bool (List.headD o1 .u))) = true then
  some [(AV.b false)]
 else
  if (decide (((ByteArray.size x0 : Nat) : Int) > (4000 : Int))) = false then
   (callP C (callF C (k + 18)) 9 [(AV.s x0), (AV.l 31 x1)]).bind fun o2 =>
    if (AV.bool (List.headD o2 .u)) = true then
    some [(AV.b true)]
   else
    if (decide (((ByteArray.size x0 : Nat) : Int) > (4000 : Int))) = true then
     none
    else
     l7 (k + 5) ([(AV.g [(AV.s x0)])]) (((ByteArray.size x0 : Nat) : Int)) (⟨#[]⟩) ((0 : Int)) (([] : List AV)) (([] : List AV)) (x0) (([] : List AV)) (x1) (((List.length x1 : Nat) : Int)) ((0 : Int))
  else
   some [(AV.b true)] := by kernel_rfl
noncomputable def b4 : Code := match Try.f4.body with | some c => c | none => .skip
noncomputable def l9 (k : Nat) (y0 : List AV) (y1 : Int) (y2 : ByteArray) (y3 : Int) (y4 : List AV) (y5 : List AV) (y6 : ByteArray) (y7 : List AV) (y8 : List AV) (y9 : Int) (y10 : Int) : Out := regD C (callG C (go C k)) (fun x => go C k (List AV) false 4 Try.f4 [] [.code (cAt [1, 1, 1, 1, 0, 1, 0, 0, 1] b4), .lp (cAt [1, 1, 1, 1, 0, 1, 0, 0] b4), .blk 0, .code (cAt [1, 1, 1, 1, 1] b4)] x (finish C 4 Try.f4)) (rOps (cAt [1, 1, 1, 1, 0, 1, 0, 0, 0] b4)) false ⟨[(AV.s y6), (AV.l 38 y7), AV.u, AV.u, AV.u, (AV.p 0 []), AV.u, AV.u, AV.u, AV.u, AV.u, AV.u, AV.u, AV.u, AV.u, AV.u, AV.u, AV.u, AV.u, AV.u, AV.u, AV.u, AV.u, AV.u, (AV.l 38 y8), (AV.i .i64 y9), (AV.i .i64 y10), AV.u, AV.u, AV.u, AV.u, AV.u, AV.u, AV.u, AV.u, AV.u, AV.u, AV.u, AV.u, AV.u, AV.u, AV.u, AV.u, AV.u, AV.u, AV.u, AV.u, AV.u, AV.u, AV.u, AV.u, AV.u, AV.u, AV.u, AV.u, AV.u, AV.u, AV.u, AV.u, AV.u, AV.u, AV.u, AV.u, AV.u, AV.u, AV.u, AV.u, AV.u, AV.u, AV.u, AV.u, AV.u, AV.u, AV.u, AV.u, AV.u, AV.u, AV.u, AV.u, AV.u, AV.u, AV.u, AV.u, AV.u, AV.u, AV.u, AV.u, AV.u, AV.u, AV.u, AV.u, AV.u, AV.u, AV.u], [(Blk.obj 64 (AV.g [(AV.w 53 1), (AV.g [(AV.g []), (AV.g []), (AV.i .i64 y1)]), (AV.s y2), (AV.g [(AV.g []), (AV.i .u32 y3)]), (AV.w 31 2), (AV.w 31 3)])), (Blk.arr 53 y0), (Blk.arr 31 y4), (Blk.arr 31 y5)]⟩
noncomputable def l10 (k : Nat) (y0 : List AV) (y1 : Int) (y2 : ByteArray) (y3 : Int) (y4 : List AV) (y5 : List AV) (y6 : ByteArray) (y7 : List AV) (y8 : ByteArray) (y9 : Int) (y10 : Int) (y11 : Int) (y12 : Int) : Out := regD C (callG C (go C k)) (fun x => go C k (List AV) false 4 Try.f4 [] [.code (cAt [1, 1, 1, 1, 1, 1, 1, 0, 1, 0, 0, 1] b4), .lp (cAt [1, 1, 1, 1, 1, 1, 1, 0, 1, 0, 0] b4), .blk 2, .code (cAt [1, 1, 1, 1, 1, 1, 1, 1] b4)] x (finish C 4 Try.f4)) (rOps (cAt [1, 1, 1, 1, 1, 1, 1, 0, 1, 0, 0, 0] b4)) false ⟨[(AV.s y6), (AV.l 38 y7), AV.u, AV.u, AV.u, (AV.p 0 []), AV.u, AV.u, AV.u, (AV.s y8), (AV.i .i64 y9), (AV.i .i64 y10), AV.u, AV.u, AV.u, AV.u, AV.u, AV.u, AV.u, AV.u, AV.u, AV.u, AV.u, AV.u, AV.u, AV.u, AV.u, AV.u, AV.u, AV.u, AV.u, AV.u, AV.u, AV.u, AV.u, AV.u, AV.u, AV.u, AV.u, AV.u, AV.u, AV.u, AV.u, AV.u, AV.u, AV.u, AV.u, (AV.i .i64 y11), (AV.i .i64 y12), AV.u, AV.u, AV.u, AV.u, AV.u, AV.u, AV.u, AV.u, AV.u, AV.u, AV.u, AV.u, AV.u, AV.u, AV.u, AV.u, AV.u, AV.u, AV.u, AV.u, AV.u, AV.u, AV.u, AV.u, AV.u, AV.u, AV.u, AV.u, AV.u, AV.u, AV.u, AV.u, AV.u, AV.u, AV.u, AV.u, AV.u, AV.u, AV.u, AV.u, AV.u, AV.u, AV.u, AV.u, AV.u], [(Blk.obj 64 (AV.g [(AV.w 53 1), (AV.g [(AV.g []), (AV.g []), (AV.i .i64 y1)]), (AV.s y2), (AV.g [(AV.g []), (AV.i .u32 y3)]), (AV.w 31 2), (AV.w 31 3)])), (Blk.arr 53 y0), (Blk.arr 31 y4), (Blk.arr 31 y5)]⟩
noncomputable def l11 (k : Nat) (y0 : List AV) (y1 : Int) (y2 : ByteArray) (y3 : Int) (y4 : List AV) (y5 : List AV) (y6 : ByteArray) (y7 : Int) (y8 : Int) (y9 : Int) (y10 : Int) : Out := regD C (callG C (go C k)) (fun x => go C k (List AV) false 4 Try.f4 [] [.code (cAt [1, 1, 1, 1, 1, 1, 1, 1, 1, 0, 1, 0, 0, 1] b4), .lp (cAt [1, 1, 1, 1, 1, 1, 1, 1, 1, 0, 1, 0, 0] b4), .blk 4, .code (cAt [1, 1, 1, 1, 1, 1, 1, 1, 1, 1] b4)] x (finish C 4 Try.f4)) (rOps (cAt [1, 1, 1, 1, 1, 1, 1, 1, 1, 0, 1, 0, 0, 0] b4)) false ⟨[AV.u, AV.u, AV.u, AV.u, AV.u, (AV.p 0 []), AV.u, AV.u, AV.u, (AV.s y6), (AV.i .i64 y7), (AV.i .i64 y8), AV.u, AV.u, AV.u, AV.u, AV.u, AV.u, AV.u, AV.u, AV.u, AV.u, AV.u, AV.u, AV.u, AV.u, AV.u, AV.u, AV.u, AV.u, AV.u, AV.u, AV.u, AV.u, AV.u, AV.u, AV.u, AV.u, AV.u, AV.u, AV.u, AV.u, AV.u, AV.u, AV.u, AV.u, AV.u, AV.u, AV.u, AV.u, AV.u, AV.u, AV.u, AV.u, AV.u, AV.u, AV.u, AV.u, AV.u, AV.u, AV.u, AV.u, AV.u, AV.u, AV.u, AV.u, AV.u, AV.u, (AV.i .i64 y9), (AV.i .i64 y10), AV.u, AV.u, AV.u, AV.u, AV.u, AV.u, AV.u, AV.u, AV.u, AV.u, AV.u, AV.u, AV.u, AV.u, AV.u, AV.u, AV.u, AV.u, AV.u, AV.u, AV.u, AV.u, AV.u, AV.u], [(Blk.obj 64 (AV.g [(AV.w 53 1), (AV.g [(AV.g []), (AV.g []), (AV.i .i64 y1)]), (AV.s y2), (AV.g [(AV.g []), (AV.i .u32 y3)]), (AV.w 31 2), (AV.w 31 3)])), (Blk.arr 53 y0), (Blk.arr 31 y4), (Blk.arr 31 y5)]⟩
theorem l9_eq (k : Nat) (y0 : List AV) (y1 : Int) (y2 : ByteArray) (y3 : Int) (y4 : List AV) (y5 : List AV) (y6 : ByteArray) (y7 : List AV) (y8 : List AV) (y9 : Int) (y10 : Int) : l9 (k + 14) y0 y1 y2 y3 y4 y5 y6 y7 y8 y9 y10 =
  if (decide (y10 < y9)) = true then
  if 0 ≤ y10 ∧ y10 < ((List.length y8) : Int) then
   (callP C (callF C (k + 6)) 15 [(AV.g [(AV.l 53 y0), (AV.g [(AV.g []), (AV.g []), (AV.i .i64 y1)]), (AV.s y2), (AV.g [(AV.g []), (AV.i .u32 y3)]), (AV.l 31 y4), (AV.l 31 y5)]), (AV.g [(AV.l 9 ([] : List AV)), (AV.s ⟨#[]⟩), (AV.l 9 ([] : List AV))]), (AV.g [(AV.i .i64 (AV.int (AV.fld (y8.getD (Int.toNat y10) .u) 0))), (AV.g [(AV.i .i64 (AV.int (AV.fld (AV.fld (y8.getD (Int.toNat y10) .u) 1) 0))), (AV.i .i64 (AV.int (AV.fld (AV.fld (y8.getD (Int.toNat y10) .u) 1) 1))), (AV.s (AV.str (AV.fld (AV.fld (y8.getD (Int.toNat y10) .u) 1) 2)))])])]).bind fun o1 =>
    l9 (k + 1) ((AV.list (AV.fld (List.headD (List.tail o1) .u) 0))) ((AV.int (AV.fld (AV.fld (List.headD (List.tail o1) .u) 1) 2))) ((AV.str (AV.fld (List.headD (List.tail o1) .u) 2))) ((AV.int (AV.fld (AV.fld (List.headD (List.tail o1) .u) 3) 1))) ((AV.list (AV.fld (List.headD (List.tail o1) .u) 4))) ((AV.list (AV.fld (List.headD (List.tail o1) .u) 5))) (y6) (y7) (y8) (y9) ((IntKind.wrap .i64 (y10 + (1 : Int))))
  else
   none
 else
  (callP C (callF C (k + 9)) 12 [(AV.g [(AV.l 53 y0), (AV.g [(AV.g []), (AV.g []), (AV.i .i64 y1)]), (AV.s y2), (AV.g [(AV.g []), (AV.i .u32 y3)]), (AV.l 31 y4), (AV.l 31 y5)])]).bind fun o2 =>
   (callP C (callF C (k + 7)) 16 [(AV.at 64 (AV.g [(AV.l 53 (AV.list (AV.fld (List.headD (List.tail o2) .u) 0))), (AV.g [(AV.g []), (AV.g []), (AV.i .i64 (AV.int (AV.fld (AV.fld (List.headD (List.tail o2) .u) 1) 2)))]), (AV.s (AV.str (AV.fld (List.headD (List.tail o2) .u) 2))), (AV.g [(AV.g []), (AV.i .u32 (AV.int (AV.fld (AV.fld (List.headD (List.tail o2) .u) 3) 1)))]), (AV.l 31 (AV.list (AV.fld (List.headD (List.tail o2) .u) 4))), (AV.l 31 (AV.list (AV.fld (List.headD (List.tail o2) .u) 5)))]))]).bind fun o3 =>
   l10 (k + 0) ((AV.list (AV.fld (List.headD (List.tail o2) .u) 0))) ((AV.int (AV.fld (AV.fld (List.headD (List.tail o2) .u) 1) 2))) ((AV.str (AV.fld (List.headD (List.tail o2) .u) 2))) ((AV.int (AV.fld (AV.fld (List.headD (List.tail o2) .u) 3) 1))) ((AV.list (AV.fld (List.headD (List.tail o2) .u) 4))) ((AV.list (AV.fld (List.headD (List.tail o2) .u) 5))) (y6) (y7) ((AV.str (List.headD o2 .u))) ((AV.int (List.headD o3 .u))) ((AV.int (List.headD (List.tail o3) .u))) ((AV.int (List.headD o3 .u))) ((0 : Int)) := by kernel_rfl
theorem l10_eq (k : Nat) (y0 : List AV) (y1 : Int) (y2 : ByteArray) (y3 : Int) (y4 : List AV) (y5 : List AV) (y6 : ByteArray) (y7 : List AV) (y8 : ByteArray) (y9 : Int) (y10 : Int) (y11 : Int) (y12 : Int) : l10 (k + 15) y0 y1 y2 y3 y4 y5 y6 y7 y8 y9 y10 y11 y12 =
  if (decide (y12 < y11)) = true then
  (callP C (callF C (k + 8)) 13 [(AV.g [(AV.l 53 y0), (AV.g [(AV.g []), (AV.g []), (AV.i .i64 y1)]), (AV.s y2), (AV.g [(AV.g []), (AV.i .u32 y3)]), (AV.l 31 y4), (AV.l 31 y5)])]).bind fun o1 =>
   if ((AV.int (List.headD o1 .u)) != (0 : Int)) = true then
   some [(AV.b false)]
  else
   l10 (k + 1) ((AV.list (AV.fld (List.headD (List.tail o1) .u) 0))) ((AV.int (AV.fld (AV.fld (List.headD (List.tail o1) .u) 1) 2))) ((AV.str (AV.fld (List.headD (List.tail o1) .u) 2))) ((AV.int (AV.fld (AV.fld (List.headD (List.tail o1) .u) 3) 1))) ((AV.list (AV.fld (List.headD (List.tail o1) .u) 4))) ((AV.list (AV.fld (List.headD (List.tail o1) .u) 5))) (y6) (y7) (y8) (y9) (y10) (y11) ((IntKind.wrap .i64 (y12 + (1 : Int))))
 else
  if (decide (((List.length y7 : Nat) : Int) ≤ (32 : Int))) = true then
   (callP C (callF C (k + 9)) 12 [(AV.g [(AV.l 53 y0), (AV.g [(AV.g []), (AV.g []), (AV.i .i64 y1)]), (AV.s y2), (AV.g [(AV.g []), (AV.i .u32 y3)]), (AV.l 31 y4), (AV.l 31 y5)])]).bind fun o2 =>
    if (!((ByteArray.toList (AV.str (List.headD o2 .u))) == (ByteArray.toList y6))) = false then
    (callP C (callF C (k + 9)) 13 [(AV.g [(AV.l 53 (AV.list (AV.fld (List.headD (List.tail o2) .u) 0))), (AV.g [(AV.g []), (AV.g []), (AV.i .i64 (AV.int (AV.fld (AV.fld (List.headD (List.tail o2) .u) 1) 2)))]), (AV.s (AV.str (AV.fld (List.headD (List.tail o2) .u) 2))), (AV.g [(AV.g []), (AV.i .u32 (AV.int (AV.fld (AV.fld (List.headD (List.tail o2) .u) 3) 1)))]), (AV.l 31 (AV.list (AV.fld (List.headD (List.tail o2) .u) 4))), (AV.l 31 (AV.list (AV.fld (List.headD (List.tail o2) .u) 5)))])]).bind fun o3 =>
     if ((AV.int (List.headD o3 .u)) != (4 : Int)) = true then
     some [(AV.b false)]
    else
     l11 (k + 0) ((AV.list (AV.fld (List.headD (List.tail o3) .u) 0))) ((AV.int (AV.fld (AV.fld (List.headD (List.tail o3) .u) 1) 2))) ((AV.str (AV.fld (List.headD (List.tail o3) .u) 2))) ((AV.int (AV.fld (AV.fld (List.headD (List.tail o3) .u) 3) 1))) ((AV.list (AV.fld (List.headD (List.tail o3) .u) 4))) ((AV.list (AV.fld (List.headD (List.tail o3) .u) 5))) (y8) (y9) (y10) (y9) ((0 : Int))
   else
    some [(AV.b false)]
  else
   (callP C (callF C (k + 9)) 13 [(AV.g [(AV.l 53 y0), (AV.g [(AV.g []), (AV.g []), (AV.i .i64 y1)]), (AV.s y2), (AV.g [(AV.g []), (AV.i .u32 y3)]), (AV.l 31 y4), (AV.l 31 y5)])]).bind fun o4 =>
    if ((AV.int (List.headD o4 .u)) != (4 : Int)) = true then
    some [(AV.b false)]
   else
    l11 (k + 0) ((AV.list (AV.fld (List.headD (List.tail o4) .u) 0))) ((AV.int (AV.fld (AV.fld (List.headD (List.tail o4) .u) 1) 2))) ((AV.str (AV.fld (List.headD (List.tail o4) .u) 2))) ((AV.int (AV.fld (AV.fld (List.headD (List.tail o4) .u) 3) 1))) ((AV.list (AV.fld (List.headD (List.tail o4) .u) 4))) ((AV.list (AV.fld (List.headD (List.tail o4) .u) 5))) (y8) (y9) (y10) (y9) ((0 : Int)) := by kernel_rfl
theorem l11_eq (k : Nat) (y0 : List AV) (y1 : Int) (y2 : ByteArray) (y3 : Int) (y4 : List AV) (y5 : List AV) (y6 : ByteArray) (y7 : Int) (y8 : Int) (y9 : Int) (y10 : Int) : l11 (k + 14) y0 y1 y2 y3 y4 y5 y6 y7 y8 y9 y10 =
  if (decide (y10 < y9)) = true then
  (callP C (callF C (k + 7)) 17 [(AV.g [(AV.l 53 y0), (AV.g [(AV.g []), (AV.g []), (AV.i .i64 y1)]), (AV.s y2), (AV.g [(AV.g []), (AV.i .u32 y3)]), (AV.l 31 y4), (AV.l 31 y5)])]).bind fun o1 =>
   if ((AV.int (List.headD o1 .u)) != (0 : Int)) = true then
   some [(AV.b false)]
  else
   l11 (k + 0) ((AV.list (AV.fld (List.headD (List.tail o1) .u) 0))) ((AV.int (AV.fld (AV.fld (List.headD (List.tail o1) .u) 1) 2))) ((AV.str (AV.fld (List.headD (List.tail o1) .u) 2))) ((AV.int (AV.fld (AV.fld (List.headD (List.tail o1) .u) 3) 1))) ((AV.list (AV.fld (List.headD (List.tail o1) .u) 4))) ((AV.list (AV.fld (List.headD (List.tail o1) .u) 5))) (y6) (y7) (y8) (y9) ((IntKind.wrap .i64 (y10 + (1 : Int))))
 else
  (callP C (callF C (k + 9)) 16 [(AV.at 64 (AV.g [(AV.l 53 y0), (AV.g [(AV.g []), (AV.g []), (AV.i .i64 y1)]), (AV.s y2), (AV.g [(AV.g []), (AV.i .u32 y3)]), (AV.l 31 y4), (AV.l 31 y5)]))]).bind fun o2 =>
   (callP C (callF C (k + 7)) 12 [(AV.g [(AV.l 53 y0), (AV.g [(AV.g []), (AV.g []), (AV.i .i64 y1)]), (AV.s y2), (AV.g [(AV.g []), (AV.i .u32 y3)]), (AV.l 31 y4), (AV.l 31 y5)])]).bind fun o3 =>
   if ((ByteArray.toList (AV.str (List.headD o3 .u))) == (ByteArray.toList y6)) = true then
   if ((AV.int (List.headD o2 .u)) == y7) = true then
    some [(AV.b ((AV.int (List.headD (List.tail o2) .u)) == y8))]
   else
    some [(AV.b false)]
  else
   some [(AV.b false)] := by kernel_rfl
theorem e4 (k : Nat) (x0 : ByteArray) (x1 : List AV) : call C (k + 28) 4 [(AV.s x0), (AV.l 38 x1)] =
  (callP C (callF C (k + 23)) 8 []).bind fun o1 =>
  if (!(AV.bool (List.headD o1 .u))) = true then
  some [(AV.b false)]
 else
  (callP C (callF C (k + 18)) 14 [(AV.s x0), (AV.l 38 x1)]).bind fun o2 =>
   if (AV.bool (List.headD o2 .u)) = true then
   some [(AV.b true)]
  else
   if (decide (((ByteArray.size x0 : Nat) : Int) > (4000 : Int))) = true then
    none
   else
    l9 (k + 7) ([(AV.g [(AV.s x0)])]) (((ByteArray.size x0 : Nat) : Int)) (⟨#[]⟩) ((0 : Int)) (([] : List AV)) (([] : List AV)) (x0) (x1) (x1) (((List.length x1 : Nat) : Int)) ((0 : Int)) := by kernel_rfl
noncomputable def b5 : Code := match Try.f5.body with | some c => c | none => .skip
noncomputable def l12 (k : Nat) (y0 : List AV) (y1 : Int) (y2 : ByteArray) (y3 : Int) (y4 : List AV) (y5 : List AV) (y6 : List AV) (y7 : ByteArray) (y8 : List AV) (y9 : List AV) (y10 : Int) (y11 : Int) : Out := regD C (callG C (go C k)) (fun x => go C k (List AV) false 5 Try.f5 [] [.code (cAt [1, 1, 1, 1, 1, 1, 0, 1, 0, 0, 1] b5), .lp (cAt [1, 1, 1, 1, 1, 1, 0, 1, 0, 0] b5), .blk 0, .code (cAt [1, 1, 1, 1, 1, 1, 1] b5)] x (finish C 5 Try.f5)) (rOps (cAt [1, 1, 1, 1, 1, 1, 0, 1, 0, 0, 0] b5)) false ⟨[AV.u, AV.u, AV.u, AV.u, AV.u, (AV.p 0 []), AV.u, (AV.p 4 []), AV.u, AV.u, AV.u, AV.u, AV.u, AV.u, AV.u, AV.u, AV.u, AV.u, AV.u, AV.u, AV.u, AV.u, AV.u, AV.u, AV.u, AV.u, AV.u, (AV.l 38 y9), (AV.i .i64 y10), (AV.i .i64 y11), AV.u, AV.u, AV.u, AV.u, AV.u, AV.u, AV.u, AV.u, AV.u, AV.u, AV.u, AV.u, AV.u, AV.u, AV.u, AV.u, AV.u, AV.u, AV.u, AV.u, AV.u, AV.u, AV.u, AV.u, AV.u, AV.u, AV.u, AV.u, AV.u, AV.u, AV.u, AV.u, AV.u, AV.u, AV.u, AV.u, AV.u, AV.u, AV.u, AV.u, AV.u, AV.u, AV.u, AV.u, AV.u, AV.u, AV.u, AV.u, AV.u], [(Blk.obj 64 (AV.g [(AV.w 53 1), (AV.g [(AV.g []), (AV.g []), (AV.i .i64 y1)]), (AV.s y2), (AV.g [(AV.g []), (AV.i .u32 y3)]), (AV.w 31 2), (AV.w 31 3)])), (Blk.arr 53 y0), (Blk.arr 31 y4), (Blk.arr 31 y5), (Blk.obj 42 (AV.g [(AV.w 9 5), (AV.s y7), (AV.w 9 6)])), (Blk.arr 9 y6), (Blk.arr 9 y8)]⟩
theorem l12_eq (k : Nat) (y0 : List AV) (y1 : Int) (y2 : ByteArray) (y3 : Int) (y4 : List AV) (y5 : List AV) (y6 : List AV) (y7 : ByteArray) (y8 : List AV) (y9 : List AV) (y10 : Int) (y11 : Int) : l12 (k + 23) y0 y1 y2 y3 y4 y5 y6 y7 y8 y9 y10 y11 =
  if (decide (y11 < y10)) = true then
  if 0 ≤ y11 ∧ y11 < ((List.length y9) : Int) then
   (callP C (callF C (k + 13)) 15 [(AV.g [(AV.l 53 y0), (AV.g [(AV.g []), (AV.g []), (AV.i .i64 y1)]), (AV.s y2), (AV.g [(AV.g []), (AV.i .u32 y3)]), (AV.l 31 y4), (AV.l 31 y5)]), (AV.g [(AV.l 9 y6), (AV.s y7), (AV.l 9 y8)]), (AV.g [(AV.i .i64 (AV.int (AV.fld (y9.getD (Int.toNat y11) .u) 0))), (AV.g [(AV.i .i64 (AV.int (AV.fld (AV.fld (y9.getD (Int.toNat y11) .u) 1) 0))), (AV.i .i64 (AV.int (AV.fld (AV.fld (y9.getD (Int.toNat y11) .u) 1) 1))), (AV.s (AV.str (AV.fld (AV.fld (y9.getD (Int.toNat y11) .u) 1) 2)))])])]).bind fun o1 =>
    if (!(AV.bool (List.headD o1 .u))) = true then
    some [(AV.b false)]
   else
    (callP C (callF C (k + 9)) 16 [(AV.at 64 (AV.g [(AV.l 53 (AV.list (AV.fld (List.headD (List.tail o1) .u) 0))), (AV.g [(AV.g []), (AV.g []), (AV.i .i64 (AV.int (AV.fld (AV.fld (List.headD (List.tail o1) .u) 1) 2)))]), (AV.s (AV.str (AV.fld (List.headD (List.tail o1) .u) 2))), (AV.g [(AV.g []), (AV.i .u32 (AV.int (AV.fld (AV.fld (List.headD (List.tail o1) .u) 3) 1)))]), (AV.l 31 (AV.list (AV.fld (List.headD (List.tail o1) .u) 4))), (AV.l 31 (AV.list (AV.fld (List.headD (List.tail o1) .u) 5)))]))]).bind fun o2 =>
     (callP C (callF C (k + 7)) 12 [(AV.g [(AV.l 53 (AV.list (AV.fld (List.headD (List.tail o1) .u) 0))), (AV.g [(AV.g []), (AV.g []), (AV.i .i64 (AV.int (AV.fld (AV.fld (List.headD (List.tail o1) .u) 1) 2)))]), (AV.s (AV.str (AV.fld (List.headD (List.tail o1) .u) 2))), (AV.g [(AV.g []), (AV.i .u32 (AV.int (AV.fld (AV.fld (List.headD (List.tail o1) .u) 3) 1)))]), (AV.l 31 (AV.list (AV.fld (List.headD (List.tail o1) .u) 4))), (AV.l 31 (AV.list (AV.fld (List.headD (List.tail o1) .u) 5)))])]).bind fun o3 =>
     if (!((ByteArray.toList (AV.str (List.headD o3 .u))) == (ByteArray.toList (AV.str (AV.fld (List.headD (List.tail (List.tail o1)) .u) 1))))) = false then
     (callP C (callF C (k + 7)) 18 [(AV.at 64 (AV.g [(AV.l 53 (AV.list (AV.fld (List.headD (List.tail o3) .u) 0))), (AV.g [(AV.g []), (AV.g []), (AV.i .i64 (AV.int (AV.fld (AV.fld (List.headD (List.tail o3) .u) 1) 2)))]), (AV.s (AV.str (AV.fld (List.headD (List.tail o3) .u) 2))), (AV.g [(AV.g []), (AV.i .u32 (AV.int (AV.fld (AV.fld (List.headD (List.tail o3) .u) 3) 1)))]), (AV.l 31 (AV.list (AV.fld (List.headD (List.tail o3) .u) 4))), (AV.l 31 (AV.list (AV.fld (List.headD (List.tail o3) .u) 5)))]))]).bind fun o4 =>
      if ((AV.int (List.headD o4 .u)) != ((ByteArray.size (AV.str (AV.fld (List.headD (List.tail (List.tail o1)) .u) 1)) : Nat) : Int)) = false then
      if ((AV.int (List.headD o2 .u)) != ((List.length (AV.list (AV.fld (List.headD (List.tail (List.tail o1)) .u) 0)) : Nat) : Int)) = false then
       if ((AV.int (List.headD (List.tail o2) .u)) != ((List.length (AV.list (AV.fld (List.headD (List.tail (List.tail o1)) .u) 2)) : Nat) : Int)) = true then
        some [(AV.b false)]
       else
        l12 (k + 0) ((AV.list (AV.fld (List.headD (List.tail o3) .u) 0))) ((AV.int (AV.fld (AV.fld (List.headD (List.tail o3) .u) 1) 2))) ((AV.str (AV.fld (List.headD (List.tail o3) .u) 2))) ((AV.int (AV.fld (AV.fld (List.headD (List.tail o3) .u) 3) 1))) ((AV.list (AV.fld (List.headD (List.tail o3) .u) 4))) ((AV.list (AV.fld (List.headD (List.tail o3) .u) 5))) ((AV.list (AV.fld (List.headD (List.tail (List.tail o1)) .u) 0))) ((AV.str (AV.fld (List.headD (List.tail (List.tail o1)) .u) 1))) ((AV.list (AV.fld (List.headD (List.tail (List.tail o1)) .u) 2))) (y9) (y10) ((IntKind.wrap .i64 (y11 + (1 : Int))))
      else
       some [(AV.b false)]
     else
      some [(AV.b false)]
    else
     some [(AV.b false)]
  else
   none
 else
  some [(AV.b true)] := by kernel_rfl
theorem e5 (k : Nat) (x0 : ByteArray) (x1 : List AV) : call C (k + 28) 5 [(AV.s x0), (AV.l 38 x1)] =
  (callP C (callF C (k + 23)) 8 []).bind fun o1 =>
  if (!(AV.bool (List.headD o1 .u))) = true then
  some [(AV.b false)]
 else
  (callP C (callF C (k + 18)) 14 [(AV.s x0), (AV.l 38 x1)]).bind fun o2 =>
   if (AV.bool (List.headD o2 .u)) = true then
   some [(AV.b true)]
  else
   if (decide (((ByteArray.size x0 : Nat) : Int) > (4000 : Int))) = true then
    some [(AV.b false)]
   else
    l12 (k + 0) ([(AV.g [(AV.s x0)])]) (((ByteArray.size x0 : Nat) : Int)) (⟨#[]⟩) ((0 : Int)) (([] : List AV)) (([] : List AV)) (([] : List AV)) (x0) (([] : List AV)) (x1) (((List.length x1 : Nat) : Int)) ((0 : Int)) := by kernel_rfl
theorem e6 (k : Nat) (x0 : ByteArray) (x1 : Int) (x2 : Int) (x3 : ByteArray) (x4 : Int) (x5 : Int) : call C (k + 30) 6 [(AV.s x0), (AV.g [(AV.i .i64 x1), (AV.i .i64 x2), (AV.s x3)]), (AV.g [(AV.i .i64 x4), (AV.i .i64 x5)])] =
  (callP C (callF C (k + 25)) 8 []).bind fun o1 =>
  if (!(AV.bool (List.headD o1 .u))) = true then
  some [(AV.b false)]
 else
  (callP C (callF C (k + 20)) 14 [(AV.s x0), (AV.l 38 [(AV.g [(AV.i .i64 (0 : Int)), (AV.g [(AV.i .i64 x1), (AV.i .i64 x2), (AV.s x3)])])])]).bind fun o2 =>
   if (AV.bool (List.headD o2 .u)) = true then
   some [(AV.b true)]
  else
   if (decide (((ByteArray.size x0 : Nat) : Int) > (4000 : Int))) = true then
    if 0 ≤ (0 : Int) ∧ (0 : Int) < ((List.length [(AV.i .i64 x4), (AV.i .i64 x5)]) : Int) then
     if 0 ≤ (1 : Int) ∧ (1 : Int) < ((List.length [(AV.i .i64 x4), (AV.i .i64 x5)]) : Int) then
      if 0 ≤ (0 : Int) ∧ (0 : Int) < ((List.length [(AV.i .i64 x4), (AV.i .i64 x5)]) : Int) then
       if 0 ≤ (1 : Int) ∧ (1 : Int) < ((List.length [(AV.i .i64 x4), (AV.i .i64 x5)]) : Int) then
        (callP C (callF C (k + 7)) 20 [(AV.s ⟨#[]⟩), (AV.g [(AV.i .i64 (AV.int ([(AV.i .i64 x4), (AV.i .i64 x5)].getD 0 .u))), (AV.i .i64 (AV.int ([(AV.i .i64 x4), (AV.i .i64 x5)].getD 1 .u))), (AV.s ⟨#[]⟩)])]).bind fun o3 =>
         if (!(AV.bool (List.headD o3 .u))) = true then
         if ((ByteArray.toList ⟨#[]⟩) == (ByteArray.toList ⟨#[]⟩)) = true then
          some [(AV.b false)]
         else
          some [(AV.b false)]
        else
         some [(AV.b false)]
       else
        none
      else
       none
     else
      none
    else
     none
   else
    (callP C (callF C (k + 14)) 11 [(AV.g [(AV.l 53 [(AV.g [(AV.s x0)])]), (AV.g [(AV.g []), (AV.g []), (AV.i .i64 ((ByteArray.size x0 : Nat) : Int))]), (AV.s ⟨#[]⟩), (AV.g [(AV.g []), (AV.i .u32 (0 : Int))]), (AV.l 31 ([] : List AV)), (AV.l 31 ([] : List AV))]), (AV.g [(AV.i .i64 x1), (AV.i .i64 x2), (AV.s x3)])]).bind fun o4 =>
     (callP C (callF C (k + 12)) 12 [(AV.g [(AV.l 53 (AV.list (AV.fld (List.headD (List.tail o4) .u) 0))), (AV.g [(AV.g []), (AV.g []), (AV.i .i64 (AV.int (AV.fld (AV.fld (List.headD (List.tail o4) .u) 1) 2)))]), (AV.s (AV.str (AV.fld (List.headD (List.tail o4) .u) 2))), (AV.g [(AV.g []), (AV.i .u32 (AV.int (AV.fld (AV.fld (List.headD (List.tail o4) .u) 3) 1)))]), (AV.l 31 (AV.list (AV.fld (List.headD (List.tail o4) .u) 4))), (AV.l 31 (AV.list (AV.fld (List.headD (List.tail o4) .u) 5)))])]).bind fun o5 =>
     if 0 ≤ (0 : Int) ∧ (0 : Int) < ((List.length [(AV.i .i64 x4), (AV.i .i64 x5)]) : Int) then
     if 0 ≤ (1 : Int) ∧ (1 : Int) < ((List.length [(AV.i .i64 x4), (AV.i .i64 x5)]) : Int) then
      (callP C (callF C (k + 10)) 19 [(AV.g [(AV.l 53 (AV.list (AV.fld (List.headD (List.tail o5) .u) 0))), (AV.g [(AV.g []), (AV.g []), (AV.i .i64 (AV.int (AV.fld (AV.fld (List.headD (List.tail o5) .u) 1) 2)))]), (AV.s (AV.str (AV.fld (List.headD (List.tail o5) .u) 2))), (AV.g [(AV.g []), (AV.i .u32 (AV.int (AV.fld (AV.fld (List.headD (List.tail o5) .u) 3) 1)))]), (AV.l 31 (AV.list (AV.fld (List.headD (List.tail o5) .u) 4))), (AV.l 31 (AV.list (AV.fld (List.headD (List.tail o5) .u) 5)))]), (AV.i .i64 (AV.int ([(AV.i .i64 x4), (AV.i .i64 x5)].getD 0 .u))), (AV.i .i64 (AV.int ([(AV.i .i64 x4), (AV.i .i64 x5)].getD 1 .u)))]).bind fun o6 =>
       if 0 ≤ (0 : Int) ∧ (0 : Int) < ((List.length [(AV.i .i64 x4), (AV.i .i64 x5)]) : Int) then
       if 0 ≤ (1 : Int) ∧ (1 : Int) < ((List.length [(AV.i .i64 x4), (AV.i .i64 x5)]) : Int) then
        (callP C (callF C (k + 7)) 20 [(AV.s (AV.str (List.headD o5 .u))), (AV.g [(AV.i .i64 (AV.int ([(AV.i .i64 x4), (AV.i .i64 x5)].getD 0 .u))), (AV.i .i64 (AV.int ([(AV.i .i64 x4), (AV.i .i64 x5)].getD 1 .u))), (AV.s ⟨#[]⟩)])]).bind fun o7 =>
         if (!(AV.bool (List.headD o7 .u))) = true then
         if ((ByteArray.toList (AV.str (List.headD o6 .u))) == (ByteArray.toList ⟨#[]⟩)) = true then
          some [(AV.b ((AV.int (List.headD (List.tail o6) .u)) == (2 : Int)))]
         else
          some [(AV.b false)]
        else
         if ((AV.int (List.headD (List.tail o6) .u)) == (0 : Int)) = true then
          if 0 ≤ (0 : Int) ∧ (0 : Int) < ((List.length [(AV.i .i64 x4), (AV.i .i64 x5)]) : Int) then
           if 0 ≤ (0 : Int) ∧ (0 : Int) < ((List.length [(AV.i .i64 x4), (AV.i .i64 x5)]) : Int) then
            if 0 ≤ (1 : Int) ∧ (1 : Int) < ((List.length [(AV.i .i64 x4), (AV.i .i64 x5)]) : Int) then
             if 0 ≤ (IntKind.wrap .i64 ((AV.int ([(AV.i .i64 x4), (AV.i .i64 x5)].getD 0 .u)) + (AV.int ([(AV.i .i64 x4), (AV.i .i64 x5)].getD 1 .u)))) ∧ (IntKind.wrap .i64 ((AV.int ([(AV.i .i64 x4), (AV.i .i64 x5)].getD 0 .u)) + (AV.int ([(AV.i .i64 x4), (AV.i .i64 x5)].getD 1 .u)))) ≤ ((ByteArray.size (AV.str (List.headD o5 .u))) : Int) then
              if 0 ≤ (AV.int ([(AV.i .i64 x4), (AV.i .i64 x5)].getD 0 .u)) ∧ (AV.int ([(AV.i .i64 x4), (AV.i .i64 x5)].getD 0 .u)) ≤ (IntKind.wrap .i64 ((AV.int ([(AV.i .i64 x4), (AV.i .i64 x5)].getD 0 .u)) + (AV.int ([(AV.i .i64 x4), (AV.i .i64 x5)].getD 1 .u)))) then
               some [(AV.b ((ByteArray.toList (AV.str (List.headD o6 .u))) == (ByteArray.toList (ByteArray.extract (AV.str (List.headD o5 .u)) (Int.toNat (AV.int ([(AV.i .i64 x4), (AV.i .i64 x5)].getD 0 .u))) (Int.toNat (IntKind.wrap .i64 ((AV.int ([(AV.i .i64 x4), (AV.i .i64 x5)].getD 0 .u)) + (AV.int ([(AV.i .i64 x4), (AV.i .i64 x5)].getD 1 .u)))))))))]
              else
               none
             else
              none
            else
             none
           else
            none
          else
           none
         else
          some [(AV.b false)]
       else
        none
      else
       none
     else
      none
    else
     none := by kernel_rfl
end Go.Proofs.Ytfnepeilccainaa.Den
