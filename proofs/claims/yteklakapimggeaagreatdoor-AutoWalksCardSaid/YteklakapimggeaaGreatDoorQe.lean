/- Proved here: a part of the proof, told one step at a time: DenEq7, DenEq8. No condition but those each theorem names. -/
import Derived.Test.YteklakapimggeaaGreatDoorQa
namespace Go.Proofs.YteklakapimggeaaGreatDoor.Den
open Go Go.Proofs
set_option linter.unusedVariables false
noncomputable def t_check_Sound_r8 (Q : Nat → FuncId → List AV → Out) (l_check_Sound_r8 : Nat → List AV → List AV → List AV → List AV → Int → Int → Int → List AV → Int → Int → Out) (l_check_Sound_r17 : Nat → Int → Int → Int → Int → List AV → Int → Int → Out) (y0 y1 : List AV) (y2 y3 : List AV) (y4 y5 y6 : Int) (y7 : List AV) (y8 y9 : Int) : Out :=
 if (decide (y9 < y8)) = true then
 if 0 ≤ y9 ∧ y9 < ((List.length y7) : Int) then
  if (!(((AV.int (AV.fld (y7.getD (Int.toNat y9) .u) 0)) == (0 : Int)) && (((AV.int (AV.fld (y7.getD (Int.toNat y9) .u) 1)) == (0 : Int)) && true))) = true then
   if (decide ((AV.int (AV.fld (y7.getD (Int.toNat y9) .u) 0)) < (1 : Int))) = false then
    if (decide ((AV.int (AV.fld (y7.getD (Int.toNat y9) .u) 1)) < (1 : Int))) = false then
     if (decide ((AV.int (AV.fld (y7.getD (Int.toNat y9) .u) 1)) > (3 : Int))) = true then
      some [(AV.b false)]
     else
      l_check_Sound_r8 1 (y0) (y1) (y2) (y3) (y4) (y5) (y6) (y7) (y8) ((IntKind.wrap .i64 (y9 + (1 : Int))))
    else
     some [(AV.b false)]
   else
    some [(AV.b false)]
  else
   l_check_Sound_r8 1 (y0) (y1) (y2) (y3) (y4) (y5) (y6) (y7) (y8) ((IntKind.wrap .i64 (y9 + (1 : Int))))
 else
  none
else
 if (decide (((List.length y1 : Nat) : Int) > (0 : Int))) = true then
  if (decide (y4 > y5)) = true then
   if (!(decide (y4 ≤ y6))) = false then
    if (((List.length y1 : Nat) : Int) == (0 : Int)) = true then
     if (y4 != (0 : Int)) = true then
      some [(AV.b false)]
     else
      l_check_Sound_r17 0 (y5) (y6) (y5) (y6) (y3) (((List.length y3 : Nat) : Int)) ((0 : Int))
    else
     l_check_Sound_r17 0 (y5) (y6) (y5) (y6) (y3) (((List.length y3 : Nat) : Int)) ((0 : Int))
   else
    some [(AV.b false)]
  else
   some [(AV.b false)]
 else
  if (((List.length y1 : Nat) : Int) == (0 : Int)) = true then
   if (y4 != (0 : Int)) = true then
    some [(AV.b false)]
   else
    l_check_Sound_r17 0 (y5) (y6) (y5) (y6) (y3) (((List.length y3 : Nat) : Int)) ((0 : Int))
  else
   l_check_Sound_r17 0 (y5) (y6) (y5) (y6) (y3) (((List.length y3 : Nat) : Int)) ((0 : Int))
theorem e_check_Sound_r8 (k : Nat) (y0 y1 : List AV) (y2 y3 : List AV) (y4 y5 y6 : Int) (y7 : List AV) (y8 y9 : Int) : l_check_Sound_r8 (k + 17) y0 y1 y2 y3 y4 y5 y6 y7 y8 y9 = t_check_Sound_r8 (fun c => callP C (callF C (k + c))) (fun c => l_check_Sound_r8 (k + c)) (fun c => l_check_Sound_r17 (k + c)) y0 y1 y2 y3 y4 y5 y6 y7 y8 y9 := by kernel_rfl
theorem d_check_Sound_r8 (y0 y1 : List AV) (y2 y3 : List AV) (y4 y5 y6 : Int) (y7 : List AV) (y8 y9 : Int) {o : List AV} (h : t_check_Sound_r8 (fun _ => D) (fun _ => L_check_Sound_r8) (fun _ => L_check_Sound_r17) y0 y1 y2 y3 y4 y5 y6 y7 y8 y9 = some o) : L_check_Sound_r8 y0 y1 y2 y3 y4 y5 y6 y7 y8 y9 = some o := Lt.fin (fun k => e_check_Sound_r8 k y0 y1 y2 y3 y4 y5 y6 y7 y8 y9) (Lt.ite (Lt.ite (Lt.ite (Lt.ite (Lt.ite (Lt.ite Lt.ret (lt_check_Sound_r8 1 _ _ _ _ _ _ _ _ _ _)) Lt.ret) Lt.ret) (lt_check_Sound_r8 1 _ _ _ _ _ _ _ _ _ _)) Lt.no) (Lt.ite (Lt.ite (Lt.ite (Lt.ite (Lt.ite Lt.ret (lt_check_Sound_r17 0 _ _ _ _ _ _ _)) (lt_check_Sound_r17 0 _ _ _ _ _ _ _)) Lt.ret) Lt.ret) (Lt.ite (Lt.ite Lt.ret (lt_check_Sound_r17 0 _ _ _ _ _ _ _)) (lt_check_Sound_r17 0 _ _ _ _ _ _ _)))) h
noncomputable def t_ref16_Goto_r4 (Q : Nat → FuncId → List AV → Out) (l_ref16_Goto_r4 : Nat → List AV → List AV → List AV → List AV → Int → Int → List AV → List AV → Int → Out) (y0 y1 : List AV) (y2 y3 : List AV) (y4 y5 : Int) (y6 y7 : List AV) (y8 : Int) : Out :=
 if (decide (y8 < ((List.length y7 : Nat) : Int))) = true then
 if (decide (y5 > (0 : Int))) = true then
  if 0 ≤ y8 ∧ y8 < ((List.length y7) : Int) then
   (Q 8 ref16_Next [(AV.g [(AV.l T_api_Rule y0), (AV.l T_string y1), (AV.l T_api_Level y2), (AV.l T_api_Prod y3), (AV.i .i64 y4)]), (AV.g [(AV.i .i64 (AV.int (AV.fld (y7.getD (Int.toNat y8) .u) 0))), (AV.i .i64 (AV.int (AV.fld (y7.getD (Int.toNat y8) .u) 1)))])]).bind fun o1 =>
    if ((AV.int (List.headD o1 .u)) == y5) = true then
    if 0 ≤ y8 ∧ y8 < ((List.length y7) : Int) then
     if 0 ≤ y8 ∧ y8 < ((List.length y7) : Int) then
      if (List.length y6) + (List.length [(AV.g [(AV.i .i64 (AV.int (AV.fld (y7.getD (Int.toNat y8) .u) 0))), (AV.i .i64 (IntKind.wrap .i64 ((AV.int (AV.fld (y7.getD (Int.toNat y8) .u) 1)) + (1 : Int))))])]) ≤ 16777216 ∧ (false && false) = false then
       l_ref16_Goto_r4 0 (y0) (y1) (y2) (y3) (y4) (y5) ((y6 ++ [(AV.g [(AV.i .i64 (AV.int (AV.fld (y7.getD (Int.toNat y8) .u) 0))), (AV.i .i64 (IntKind.wrap .i64 ((AV.int (AV.fld (y7.getD (Int.toNat y8) .u) 1)) + (1 : Int))))])])) (y7) ((IntKind.wrap .i64 (y8 + (1 : Int))))
      else
       none
     else
      none
    else
     none
   else
    l_ref16_Goto_r4 0 (y0) (y1) (y2) (y3) (y4) (y5) (y6) (y7) ((IntKind.wrap .i64 (y8 + (1 : Int))))
  else
   none
 else
  l_ref16_Goto_r4 0 (y0) (y1) (y2) (y3) (y4) (y5) (y6) (y7) ((IntKind.wrap .i64 (y8 + (1 : Int))))
else
 (Q 10 ref16_Of [(AV.g [(AV.l T_api_Rule y0), (AV.l T_string y1), (AV.l T_api_Level y2), (AV.l T_api_Prod y3), (AV.i .i64 y4)]), (AV.l T_api_Item y6)]).bind fun o2 =>
  some [(AV.l T_api_Item (AV.list (List.headD o2 .u)))]
theorem e_ref16_Goto_r4 (k : Nat) (y0 y1 : List AV) (y2 y3 : List AV) (y4 y5 : Int) (y6 y7 : List AV) (y8 : Int) : l_ref16_Goto_r4 (k + 14) y0 y1 y2 y3 y4 y5 y6 y7 y8 = t_ref16_Goto_r4 (fun c => callP C (callF C (k + c))) (fun c => l_ref16_Goto_r4 (k + c)) y0 y1 y2 y3 y4 y5 y6 y7 y8 := by kernel_rfl
theorem d_ref16_Goto_r4 (y0 y1 : List AV) (y2 y3 : List AV) (y4 y5 : Int) (y6 y7 : List AV) (y8 : Int) {o : List AV} (h : t_ref16_Goto_r4 (fun _ => D) (fun _ => L_ref16_Goto_r4) y0 y1 y2 y3 y4 y5 y6 y7 y8 = some o) : L_ref16_Goto_r4 y0 y1 y2 y3 y4 y5 y6 y7 y8 = some o := Lt.fin (fun k => e_ref16_Goto_r4 k y0 y1 y2 y3 y4 y5 y6 y7 y8) (Lt.ite (Lt.ite (Lt.ite (Lt.bind (D_lt 8 _ _) fun o1 => (Lt.ite (Lt.ite (Lt.ite (Lt.ite (lt_ref16_Goto_r4 0 _ _ _ _ _ _ _ _ _) Lt.no) Lt.no) Lt.no) (lt_ref16_Goto_r4 0 _ _ _ _ _ _ _ _ _))) Lt.no) (lt_ref16_Goto_r4 0 _ _ _ _ _ _ _ _ _)) (Lt.bind (D_lt 10 _ _) fun o2 => Lt.ret)) h
noncomputable def t_auto_Walk_r3 (Q : Nat → FuncId → List AV → Out) (l_auto_Walk_r3 : Nat → List AV → Int → List AV → Int → Int → Out) (y0 : List AV) (y1 : Int) (y2 : List AV) (y3 y4 : Int) : Out :=
 if (decide (y4 < y3)) = true then
 if 0 ≤ y4 ∧ y4 < ((List.length y2) : Int) then
  if (decide (y1 < (0 : Int))) = false then
   if (decide (y1 ≥ ((List.length y0 : Nat) : Int))) = false then
    if (decide ((AV.int (y2.getD (Int.toNat y4) .u)) < (0 : Int))) = false then
     if 0 ≤ y1 ∧ y1 < ((List.length y0) : Int) then
      if (decide ((AV.int (y2.getD (Int.toNat y4) .u)) ≥ ((List.length (AV.list (AV.fld (y0.getD (Int.toNat y1) .u) 1)) : Nat) : Int))) = true then
       some [(AV.i .i64 (-1 : Int))]
      else
       if 0 ≤ y1 ∧ y1 < ((List.length y0) : Int) then
        if 0 ≤ (AV.int (y2.getD (Int.toNat y4) .u)) ∧ (AV.int (y2.getD (Int.toNat y4) .u)) < ((List.length (AV.list (AV.fld (y0.getD (Int.toNat y1) .u) 1))) : Int) then
         l_auto_Walk_r3 0 (y0) ((AV.int ((AV.list (AV.fld (y0.getD (Int.toNat y1) .u) 1)).getD (Int.toNat (AV.int (y2.getD (Int.toNat y4) .u))) .u))) (y2) (y3) ((IntKind.wrap .i64 (y4 + (1 : Int))))
        else
         none
       else
        none
     else
      none
    else
     some [(AV.i .i64 (-1 : Int))]
   else
    some [(AV.i .i64 (-1 : Int))]
  else
   some [(AV.i .i64 (-1 : Int))]
 else
  none
else
 if (decide (y1 < (0 : Int))) = false then
  if (decide (y1 ≥ ((List.length y0 : Nat) : Int))) = true then
   some [(AV.i .i64 (-1 : Int))]
  else
   some [(AV.i .i64 y1)]
 else
  some [(AV.i .i64 (-1 : Int))]
theorem e_auto_Walk_r3 (k : Nat) (y0 : List AV) (y1 : Int) (y2 : List AV) (y3 y4 : Int) : l_auto_Walk_r3 (k + 18) y0 y1 y2 y3 y4 = t_auto_Walk_r3 (fun c => callP C (callF C (k + c))) (fun c => l_auto_Walk_r3 (k + c)) y0 y1 y2 y3 y4 := by kernel_rfl
theorem d_auto_Walk_r3 (y0 : List AV) (y1 : Int) (y2 : List AV) (y3 y4 : Int) {o : List AV} (h : t_auto_Walk_r3 (fun _ => D) (fun _ => L_auto_Walk_r3) y0 y1 y2 y3 y4 = some o) : L_auto_Walk_r3 y0 y1 y2 y3 y4 = some o := Lt.fin (fun k => e_auto_Walk_r3 k y0 y1 y2 y3 y4) (Lt.ite (Lt.ite (Lt.ite (Lt.ite (Lt.ite (Lt.ite (Lt.ite Lt.ret (Lt.ite (Lt.ite (lt_auto_Walk_r3 0 _ _ _ _ _) Lt.no) Lt.no)) Lt.no) Lt.ret) Lt.ret) Lt.ret) Lt.no) (Lt.ite (Lt.ite Lt.ret Lt.ret) Lt.ret)) h
noncomputable def t_check_Sound_r17 (Q : Nat → FuncId → List AV → Out) (l_check_Sound_r17 : Nat → Int → Int → Int → Int → List AV → Int → Int → Out) (y0 y1 : Int) (y2 y3 : Int) (y4 : List AV) (y5 y6 : Int) : Out :=
 if (decide (y6 < y5)) = true then
 if 0 ≤ y6 ∧ y6 < ((List.length y4) : Int) then
  if (decide ((AV.int (AV.fld (y4.getD (Int.toNat y6) .u) 0)) > y2)) = true then
   if (!(decide ((AV.int (AV.fld (y4.getD (Int.toNat y6) .u) 0)) ≤ y3))) = false then
    if (decide (((List.length (AV.list (AV.fld (y4.getD (Int.toNat y6) .u) 1)) : Nat) : Int) > (8 : Int))) = false then
     if (decide ((AV.int (AV.fld (y4.getD (Int.toNat y6) .u) 2)) < (0 : Int))) = false then
      if (decide ((AV.int (AV.fld (y4.getD (Int.toNat y6) .u) 2)) > y0)) = false then
       (Q 7 slices_ContainsFunc_int [(AV.l T_int (AV.list (AV.fld (y4.getD (Int.toNat y6) .u) 1))), (AV.fn check_Sound_c2 [] [(AV.at T_int (AV.i .i64 y1))])]).bind fun o1 =>
        if (AV.bool (List.headD o1 .u)) = true then
        some [(AV.b false)]
       else
        l_check_Sound_r17 0 (y0) (y1) (y2) (y3) (y4) (y5) ((IntKind.wrap .i64 (y6 + (1 : Int))))
      else
       some [(AV.b false)]
     else
      some [(AV.b false)]
    else
     some [(AV.b false)]
   else
    some [(AV.b false)]
  else
   some [(AV.b false)]
 else
  none
else
 some [(AV.b true)]
theorem e_check_Sound_r17 (k : Nat) (y0 y1 : Int) (y2 y3 : Int) (y4 : List AV) (y5 y6 : Int) : l_check_Sound_r17 (k + 16) y0 y1 y2 y3 y4 y5 y6 = t_check_Sound_r17 (fun c => callP C (callF C (k + c))) (fun c => l_check_Sound_r17 (k + c)) y0 y1 y2 y3 y4 y5 y6 := by kernel_rfl
theorem d_check_Sound_r17 (y0 y1 : Int) (y2 y3 : Int) (y4 : List AV) (y5 y6 : Int) {o : List AV} (h : t_check_Sound_r17 (fun _ => D) (fun _ => L_check_Sound_r17) y0 y1 y2 y3 y4 y5 y6 = some o) : L_check_Sound_r17 y0 y1 y2 y3 y4 y5 y6 = some o := Lt.fin (fun k => e_check_Sound_r17 k y0 y1 y2 y3 y4 y5 y6) (Lt.ite (Lt.ite (Lt.ite (Lt.ite (Lt.ite (Lt.ite (Lt.ite (Lt.bind (D_lt 7 _ _) fun o1 => (Lt.ite Lt.ret (lt_check_Sound_r17 0 _ _ _ _ _ _ _))) Lt.ret) Lt.ret) Lt.ret) Lt.ret) Lt.ret) Lt.no) Lt.ret) h
noncomputable def t_ref13_names_r3 (Q : Nat → FuncId → List AV → Out) (l_ref13_names_r3 : Nat → List AV → List AV → List AV → List AV → Int → List AV → Int → Out) (l_ref13_names_r10 : Nat → List AV → Int → Out) (y0 y1 : List AV) (y2 y3 : List AV) (y4 : Int) (y5 : List AV) (y6 : Int) : Out :=
 if (decide (y6 < ((List.length y0 : Nat) : Int))) = true then
 if 0 ≤ y6 ∧ y6 < ((List.length y0) : Int) then
  if (List.length y5) + (List.length [(AV.s (AV.str (AV.fld (y0.getD (Int.toNat y6) .u) 0)))]) ≤ 16777216 ∧ (false && false) = false then
   if 0 ≤ y6 ∧ y6 < ((List.length y0) : Int) then
    (Q 8 ref06_Right [(AV.l T_api_Cell (AV.list (AV.fld (y0.getD (Int.toNat y6) .u) 1)))]).bind fun o1 =>
     if (!(AV.bool (List.headD o1 .u))) = true then
     some [(AV.b false)]
    else
     l_ref13_names_r3 0 (y0) (y1) (y2) (y3) (y4) ((y5 ++ [(AV.s (AV.str (AV.fld (y0.getD (Int.toNat y6) .u) 0)))])) ((IntKind.wrap .i64 (y6 + (1 : Int))))
   else
    none
  else
   none
 else
  none
else
 if (List.length y5) + (List.length y1) ≤ 16777216 ∧ (false && false) = false then
  l_ref13_names_r10 4 ((y5 ++ y1)) ((0 : Int))
 else
  none
theorem e_ref13_names_r3 (k : Nat) (y0 y1 : List AV) (y2 y3 : List AV) (y4 : Int) (y5 : List AV) (y6 : Int) : l_ref13_names_r3 (k + 16) y0 y1 y2 y3 y4 y5 y6 = t_ref13_names_r3 (fun c => callP C (callF C (k + c))) (fun c => l_ref13_names_r3 (k + c)) (fun c => l_ref13_names_r10 (k + c)) y0 y1 y2 y3 y4 y5 y6 := by kernel_rfl
theorem d_ref13_names_r3 (y0 y1 : List AV) (y2 y3 : List AV) (y4 : Int) (y5 : List AV) (y6 : Int) {o : List AV} (h : t_ref13_names_r3 (fun _ => D) (fun _ => L_ref13_names_r3) (fun _ => L_ref13_names_r10) y0 y1 y2 y3 y4 y5 y6 = some o) : L_ref13_names_r3 y0 y1 y2 y3 y4 y5 y6 = some o := Lt.fin (fun k => e_ref13_names_r3 k y0 y1 y2 y3 y4 y5 y6) (Lt.ite (Lt.ite (Lt.ite (Lt.ite (Lt.bind (D_lt 8 _ _) fun o1 => (Lt.ite Lt.ret (lt_ref13_names_r3 0 _ _ _ _ _ _ _))) Lt.no) Lt.no) Lt.no) (Lt.ite (lt_ref13_names_r10 4 _ _) Lt.no)) h
noncomputable def t_ref17_Same_r4 (Q : Nat → FuncId → List AV → Out) (l_ref17_Same_r4 : Nat → List AV → List AV → Int → Out) (y0 y1 : List AV) (y2 : Int) : Out :=
 if (decide (y2 < ((List.length y0 : Nat) : Int))) = true then
 if 0 ≤ y2 ∧ y2 < ((List.length y0) : Int) then
  if 0 ≤ y2 ∧ y2 < ((List.length y1) : Int) then
   (Q 8 ref16_Same [(AV.l T_api_Item (AV.list (AV.fld (y0.getD (Int.toNat y2) .u) 0))), (AV.l T_api_Item (AV.list (AV.fld (y1.getD (Int.toNat y2) .u) 0)))]).bind fun o1 =>
    if (!(AV.bool (List.headD o1 .u))) = false then
    if 0 ≤ y2 ∧ y2 < ((List.length y0) : Int) then
     if 0 ≤ y2 ∧ y2 < ((List.length y1) : Int) then
      (Q 8 ref04_Same [(AV.l T_int (AV.list (AV.fld (y0.getD (Int.toNat y2) .u) 1))), (AV.l T_int (AV.list (AV.fld (y1.getD (Int.toNat y2) .u) 1)))]).bind fun o2 =>
       if (!(AV.bool (List.headD o2 .u))) = true then
       some [(AV.b false)]
      else
       l_ref17_Same_r4 0 (y0) (y1) ((IntKind.wrap .i64 (y2 + (1 : Int))))
     else
      none
    else
     none
   else
    some [(AV.b false)]
  else
   none
 else
  none
else
 some [(AV.b true)]
theorem e_ref17_Same_r4 (k : Nat) (y0 y1 : List AV) (y2 : Int) : l_ref17_Same_r4 (k + 14) y0 y1 y2 = t_ref17_Same_r4 (fun c => callP C (callF C (k + c))) (fun c => l_ref17_Same_r4 (k + c)) y0 y1 y2 := by kernel_rfl
theorem d_ref17_Same_r4 (y0 y1 : List AV) (y2 : Int) {o : List AV} (h : t_ref17_Same_r4 (fun _ => D) (fun _ => L_ref17_Same_r4) y0 y1 y2 = some o) : L_ref17_Same_r4 y0 y1 y2 = some o := Lt.fin (fun k => e_ref17_Same_r4 k y0 y1 y2) (Lt.ite (Lt.ite (Lt.ite (Lt.bind (D_lt 8 _ _) fun o1 => (Lt.ite (Lt.ite (Lt.ite (Lt.bind (D_lt 8 _ _) fun o2 => (Lt.ite Lt.ret (lt_ref17_Same_r4 0 _ _ _))) Lt.no) Lt.no) Lt.ret)) Lt.no) Lt.no) Lt.ret) h
noncomputable def t_slices_ContainsFunc_api_Item_items_Right_c1 (Q : Nat → FuncId → List AV → Out) (x0 x1 : List AV) (x2 x3 x4 : List AV) (x5 : Int) : Out :=
 (Q 1 slices_IndexFunc_api_Item [(AV.l T_api_Item x0), (AV.fn items_Right_c1 [] [(AV.at T_api_Grammar (AV.g [(AV.l T_api_Rule x1), (AV.l T_string x2), (AV.l T_api_Level x3), (AV.l T_api_Prod x4), (AV.i .i64 x5)]))])]).bind fun o1 =>
 some [(AV.b (decide ((AV.int (List.headD o1 .u)) ≥ (0 : Int))))]
theorem e_slices_ContainsFunc_api_Item_items_Right_c1 (k : Nat) (x0 x1 : List AV) (x2 x3 x4 : List AV) (x5 : Int) : call C (k + 5) slices_ContainsFunc_api_Item [(AV.l T_api_Item x0), (AV.fn items_Right_c1 [] [(AV.at T_api_Grammar (AV.g [(AV.l T_api_Rule x1), (AV.l T_string x2), (AV.l T_api_Level x3), (AV.l T_api_Prod x4), (AV.i .i64 x5)]))])] = t_slices_ContainsFunc_api_Item_items_Right_c1 (fun c => callP C (callF C (k + c))) x0 x1 x2 x3 x4 x5 := by kernel_rfl
theorem d_slices_ContainsFunc_api_Item_items_Right_c1 (x0 x1 : List AV) (x2 x3 x4 : List AV) (x5 : Int) {o : List AV} (h : t_slices_ContainsFunc_api_Item_items_Right_c1 (fun _ => D) x0 x1 x2 x3 x4 x5 = some o) : D slices_ContainsFunc_api_Item [(AV.l T_api_Item x0), (AV.fn items_Right_c1 [] [(AV.at T_api_Grammar (AV.g [(AV.l T_api_Rule x1), (AV.l T_string x2), (AV.l T_api_Level x3), (AV.l T_api_Prod x4), (AV.i .i64 x5)]))])] = some o := D_fin (by rfl) (fun k => e_slices_ContainsFunc_api_Item_items_Right_c1 k x0 x1 x2 x3 x4 x5) (Lt.bind (D_lt 1 _ _) fun o1 => Lt.ret) h
noncomputable def t_ref16_Side (Q : Nat → FuncId → List AV → Out) (x0 x1 : List AV) (x2 x3 : List AV) (x4 x5 : Int) : Out :=
 if (decide (x5 < (0 : Int))) = true then
 if (List.length ([] : List AV)) + (List.length [(AV.i .i64 x4)]) ≤ 16777216 ∧ (false && false) = false then
  some [(AV.l T_int (([] : List AV) ++ [(AV.i .i64 x4)]))]
 else
  none
else
 if 0 ≤ x5 ∧ x5 < ((List.length x3) : Int) then
  if (List.length ([] : List AV)) + (List.length (AV.list (AV.fld (x3.getD (Int.toNat x5) .u) 1))) ≤ 16777216 ∧ (false && false) = false then
   some [(AV.l T_int (([] : List AV) ++ (AV.list (AV.fld (x3.getD (Int.toNat x5) .u) 1))))]
  else
   none
 else
  none
theorem e_ref16_Side (k : Nat) (x0 x1 : List AV) (x2 x3 : List AV) (x4 x5 : Int) : call C (k + 12) ref16_Side [(AV.g [(AV.l T_api_Rule x0), (AV.l T_string x1), (AV.l T_api_Level x2), (AV.l T_api_Prod x3), (AV.i .i64 x4)]), (AV.i .i64 x5)] = t_ref16_Side (fun c => callP C (callF C (k + c))) x0 x1 x2 x3 x4 x5 := by kernel_rfl
theorem d_ref16_Side (x0 x1 : List AV) (x2 x3 : List AV) (x4 x5 : Int) {o : List AV} (h : t_ref16_Side (fun _ => D) x0 x1 x2 x3 x4 x5 = some o) : D ref16_Side [(AV.g [(AV.l T_api_Rule x0), (AV.l T_string x1), (AV.l T_api_Level x2), (AV.l T_api_Prod x3), (AV.i .i64 x4)]), (AV.i .i64 x5)] = some o := D_fin (by rfl) (fun k => e_ref16_Side k x0 x1 x2 x3 x4 x5) (Lt.ite (Lt.ite Lt.ret Lt.no) (Lt.ite (Lt.ite Lt.ret Lt.no) Lt.no)) h
noncomputable def t_ref16_Closure_r4 (Q : Nat → FuncId → List AV → Out) (l_ref16_Closure_r7 : Nat → List AV → List AV → List AV → List AV → Int → List AV → Bool → Int → Out) (y0 y1 : List AV) (y2 y3 : List AV) (y4 : Int) (y5 : List AV) (y6 : Bool) : Out :=
 if y6 = true then
 l_ref16_Closure_r7 0 (y0) (y1) (y2) (y3) (y4) (y5) (false) ((0 : Int))
else
 (Q 8 ref16_Of [(AV.g [(AV.l T_api_Rule y0), (AV.l T_string y1), (AV.l T_api_Level y2), (AV.l T_api_Prod y3), (AV.i .i64 y4)]), (AV.l T_api_Item y5)]).bind fun o1 =>
  some [(AV.l T_api_Item (AV.list (List.headD o1 .u)))]
theorem e_ref16_Closure_r4 (k : Nat) (y0 y1 : List AV) (y2 y3 : List AV) (y4 : Int) (y5 : List AV) (y6 : Bool) : l_ref16_Closure_r4 (k + 12) y0 y1 y2 y3 y4 y5 y6 = t_ref16_Closure_r4 (fun c => callP C (callF C (k + c))) (fun c => l_ref16_Closure_r7 (k + c)) y0 y1 y2 y3 y4 y5 y6 := by kernel_rfl
theorem d_ref16_Closure_r4 (y0 y1 : List AV) (y2 y3 : List AV) (y4 : Int) (y5 : List AV) (y6 : Bool) {o : List AV} (h : t_ref16_Closure_r4 (fun _ => D) (fun _ => L_ref16_Closure_r7) y0 y1 y2 y3 y4 y5 y6 = some o) : L_ref16_Closure_r4 y0 y1 y2 y3 y4 y5 y6 = some o := Lt.fin (fun k => e_ref16_Closure_r4 k y0 y1 y2 y3 y4 y5 y6) (Lt.ite (lt_ref16_Closure_r7 0 _ _ _ _ _ _ _ _) (Lt.bind (D_lt 8 _ _) fun o1 => Lt.ret)) h
noncomputable def t_slices_CompactFunc_api_Item_items_sorted_c1 (Q : Nat → FuncId → List AV → Out) (l_slices_CompactFunc_api_Item_items_sorted_c1_r4 : Nat → List AV → Int → Out) (x0 : List AV) : Out :=
 if (decide (((List.length x0 : Nat) : Int) < (2 : Int))) = true then
 some [(AV.l T_api_Item x0)]
else
 l_slices_CompactFunc_api_Item_items_sorted_c1_r4 0 (x0) ((1 : Int))
theorem e_slices_CompactFunc_api_Item_items_sorted_c1 (k : Nat) (x0 : List AV) : call C (k + 15) slices_CompactFunc_api_Item [(AV.l T_api_Item x0), (AV.fn items_sorted_c1 [] [])] = t_slices_CompactFunc_api_Item_items_sorted_c1 (fun c => callP C (callF C (k + c))) (fun c => l_slices_CompactFunc_api_Item_items_sorted_c1_r4 (k + c)) x0 := by kernel_rfl
theorem d_slices_CompactFunc_api_Item_items_sorted_c1 (x0 : List AV) {o : List AV} (h : t_slices_CompactFunc_api_Item_items_sorted_c1 (fun _ => D) (fun _ => L_slices_CompactFunc_api_Item_items_sorted_c1_r4) x0 = some o) : D slices_CompactFunc_api_Item [(AV.l T_api_Item x0), (AV.fn items_sorted_c1 [] [])] = some o := D_fin (by rfl) (fun k => e_slices_CompactFunc_api_Item_items_sorted_c1 k x0) (Lt.ite Lt.ret (lt_slices_CompactFunc_api_Item_items_sorted_c1_r4 0 _ _)) h
noncomputable def t_items_side (Q : Nat → FuncId → List AV → Out) (x0 x1 : List AV) (x2 x3 : List AV) (x4 x5 : Int) : Out :=
 if (x5 == (-1 : Int)) = true then
 some [(AV.l T_int [(AV.i .i64 x4)])]
else
 if 0 ≤ x5 ∧ x5 < ((List.length x3) : Int) then
  some [(AV.l T_int (AV.list (AV.fld (x3.getD (Int.toNat x5) .u) 1)))]
 else
  none
theorem e_items_side (k : Nat) (x0 x1 : List AV) (x2 x3 : List AV) (x4 x5 : Int) : call C (k + 10) items_side [(AV.g [(AV.l T_api_Rule x0), (AV.l T_string x1), (AV.l T_api_Level x2), (AV.l T_api_Prod x3), (AV.i .i64 x4)]), (AV.i .i64 x5)] = t_items_side (fun c => callP C (callF C (k + c))) x0 x1 x2 x3 x4 x5 := by kernel_rfl
theorem d_items_side (x0 x1 : List AV) (x2 x3 : List AV) (x4 x5 : Int) {o : List AV} (h : t_items_side (fun _ => D) x0 x1 x2 x3 x4 x5 = some o) : D items_side [(AV.g [(AV.l T_api_Rule x0), (AV.l T_string x1), (AV.l T_api_Level x2), (AV.l T_api_Prod x3), (AV.i .i64 x4)]), (AV.i .i64 x5)] = some o := D_fin (by rfl) (fun k => e_items_side k x0 x1 x2 x3 x4 x5) (Lt.ite Lt.ret (Lt.ite Lt.ret Lt.no)) h
noncomputable def t_ref13_named (Q : Nat → FuncId → List AV → Out) (l_ref13_named_r4 : Nat → ByteArray → Int → Out) (x0 : ByteArray) : Out :=
 if (decide (((ByteArray.size x0 : Nat) : Int) < (1 : Int))) = false then
 if (decide (((ByteArray.size x0 : Nat) : Int) > (16 : Int))) = false then
  (Q 10 ref12_Reserved [(AV.s x0)]).bind fun o1 =>
   if (AV.bool (List.headD o1 .u)) = true then
   some [(AV.b false)]
  else
   l_ref13_named_r4 0 (x0) ((0 : Int))
 else
  some [(AV.b false)]
else
 some [(AV.b false)]
theorem e_ref13_named (k : Nat) (x0 : ByteArray) : call C (k + 15) ref13_named [(AV.s x0)] = t_ref13_named (fun c => callP C (callF C (k + c))) (fun c => l_ref13_named_r4 (k + c)) x0 := by kernel_rfl
theorem d_ref13_named (x0 : ByteArray) {o : List AV} (h : t_ref13_named (fun _ => D) (fun _ => L_ref13_named_r4) x0 = some o) : D ref13_named [(AV.s x0)] = some o := D_fin (by rfl) (fun k => e_ref13_named k x0) (Lt.ite (Lt.ite (Lt.bind (D_lt 10 _ _) fun o1 => (Lt.ite Lt.ret (lt_ref13_named_r4 0 _ _))) Lt.ret) Lt.ret) h
noncomputable def t_ref17_Same (Q : Nat → FuncId → List AV → Out) (l_ref17_Same_r4 : Nat → List AV → List AV → Int → Out) (x0 x1 : List AV) : Out :=
 if (((List.length x0 : Nat) : Int) != ((List.length x1 : Nat) : Int)) = true then
 some [(AV.b false)]
else
 l_ref17_Same_r4 0 (x0) (x1) ((0 : Int))
theorem e_ref17_Same (k : Nat) (x0 x1 : List AV) : call C (k + 15) ref17_Same [(AV.l T_api_State x0), (AV.l T_api_State x1)] = t_ref17_Same (fun c => callP C (callF C (k + c))) (fun c => l_ref17_Same_r4 (k + c)) x0 x1 := by kernel_rfl
theorem d_ref17_Same (x0 x1 : List AV) {o : List AV} (h : t_ref17_Same (fun _ => D) (fun _ => L_ref17_Same_r4) x0 x1 = some o) : D ref17_Same [(AV.l T_api_State x0), (AV.l T_api_State x1)] = some o := D_fin (by rfl) (fun k => e_ref17_Same k x0 x1) (Lt.ite Lt.ret (lt_ref17_Same_r4 0 _ _ _)) h
noncomputable def t_ref17_find (Q : Nat → FuncId → List AV → Out) (l_ref17_find_r2 : Nat → List AV → List AV → Int → Out) (x0 x1 : List AV) : Out :=
 l_ref17_find_r2 0 (x0) (x1) ((0 : Int))
theorem e_ref17_find (k : Nat) (x0 x1 : List AV) : call C (k + 10) ref17_find [(AV.l T_api_State x0), (AV.l T_api_Item x1)] = t_ref17_find (fun c => callP C (callF C (k + c))) (fun c => l_ref17_find_r2 (k + c)) x0 x1 := by kernel_rfl
theorem d_ref17_find (x0 x1 : List AV) {o : List AV} (h : t_ref17_find (fun _ => D) (fun _ => L_ref17_find_r2) x0 x1 = some o) : D ref17_find [(AV.l T_api_State x0), (AV.l T_api_Item x1)] = some o := D_fin (by rfl) (fun k => e_ref17_find k x0 x1) (lt_ref17_find_r2 0 _ _ _) h
noncomputable def t_cmp_Or_int (Q : Nat → FuncId → List AV → Out) (l_cmp_Or_int_r3 : Nat → Int → List AV → Int → Int → Out) (x0 : List AV) : Out :=
 l_cmp_Or_int_r3 0 ((0 : Int)) (x0) (((List.length x0 : Nat) : Int)) ((0 : Int))
theorem e_cmp_Or_int (k : Nat) (x0 : List AV) : call C (k + 11) cmp_Or_int [(AV.l T_int x0)] = t_cmp_Or_int (fun c => callP C (callF C (k + c))) (fun c => l_cmp_Or_int_r3 (k + c)) x0 := by kernel_rfl
theorem d_cmp_Or_int (x0 : List AV) {o : List AV} (h : t_cmp_Or_int (fun _ => D) (fun _ => L_cmp_Or_int_r3) x0 = some o) : D cmp_Or_int [(AV.l T_int x0)] = some o := D_fin (by rfl) (fun k => e_cmp_Or_int k x0) (lt_cmp_Or_int_r3 0 _ _ _ _) h
noncomputable def t_slices_CompactFunc_api_Item_items_sorted_c1_r9 (Q : Nat → FuncId → List AV → Out) (l_slices_CompactFunc_api_Item_items_sorted_c1_r9 : Nat → List AV → Int → Int → Nat → Nat → Out) (y0 : List AV) (y1 y2 : Int) (y3 y4 : Nat) : Out :=
 if (decide (y2 < ((y4 : Nat) : Int))) = true then
 if 0 ≤ y2 ∧ y2 < (y4 : Int) then
  if 0 ≤ (IntKind.wrap .i64 (y2 - (1 : Int))) ∧ (IntKind.wrap .i64 (y2 - (1 : Int))) < (y4 : Int) then
   (Q 10 items_sorted_c1 [(AV.g [(AV.i .i64 (AV.int (AV.fld (y0.getD (y3 + (Int.toNat y2)) .u) 0))), (AV.i .i64 (AV.int (AV.fld (y0.getD (y3 + (Int.toNat y2)) .u) 1)))]), (AV.g [(AV.i .i64 (AV.int (AV.fld (y0.getD (y3 + (Int.toNat (IntKind.wrap .i64 (y2 - (1 : Int))))) .u) 0))), (AV.i .i64 (AV.int (AV.fld (y0.getD (y3 + (Int.toNat (IntKind.wrap .i64 (y2 - (1 : Int))))) .u) 1)))])]).bind fun o1 =>
    if (!(AV.bool (List.headD o1 .u))) = true then
    if 0 ≤ y2 ∧ y2 < (y4 : Int) then
     if 0 ≤ y1 ∧ y1 < ((List.length y0) : Int) then
      l_slices_CompactFunc_api_Item_items_sorted_c1_r9 0 ((y0.set (Int.toNat y1) (AV.g [(AV.i .i64 (AV.int (AV.fld (y0.getD (y3 + (Int.toNat y2)) .u) 0))), (AV.i .i64 (AV.int (AV.fld (y0.getD (y3 + (Int.toNat y2)) .u) 1)))]))) ((IntKind.wrap .i64 (y1 + (1 : Int)))) ((IntKind.wrap .i64 (y2 + (1 : Int)))) (y3) (y4)
     else
      none
    else
     none
   else
    l_slices_CompactFunc_api_Item_items_sorted_c1_r9 2 (y0) (y1) ((IntKind.wrap .i64 (y2 + (1 : Int)))) (y3) (y4)
  else
   none
 else
  none
else
 if 0 ≤ y1 ∧ y1 ≤ ((List.length y0) : Int) then
  if (43 : Nat) = 43 ∧ (Int.toNat y1) + ((List.length y0) - (Int.toNat y1)) ≤ List.length y0 then
   if 0 ≤ y1 ∧ y1 ≤ ((List.length (y0.take (Int.toNat y1) ++ (List.replicate ((List.length y0) - (Int.toNat y1)) (AV.g [(AV.i .i64 (0 : Int)), (AV.i .i64 (0 : Int))]) ++ y0.drop ((Int.toNat y1) + ((List.length y0) - (Int.toNat y1)))))) : Int) then
    some [(AV.l T_api_Item (((y0.take (Int.toNat y1) ++ (List.replicate ((List.length y0) - (Int.toNat y1)) (AV.g [(AV.i .i64 (0 : Int)), (AV.i .i64 (0 : Int))]) ++ y0.drop ((Int.toNat y1) + ((List.length y0) - (Int.toNat y1))))).drop 0).take ((Int.toNat y1) - 0)))]
   else
    none
  else
   none
 else
  none
theorem e_slices_CompactFunc_api_Item_items_sorted_c1_r9 (k : Nat) (y0 : List AV) (y1 y2 : Int) (y3 y4 : Nat) : l_slices_CompactFunc_api_Item_items_sorted_c1_r9 (k + 16) y0 y1 y2 y3 y4 = t_slices_CompactFunc_api_Item_items_sorted_c1_r9 (fun c => callP C (callF C (k + c))) (fun c => l_slices_CompactFunc_api_Item_items_sorted_c1_r9 (k + c)) y0 y1 y2 y3 y4 := by kernel_rfl
theorem d_slices_CompactFunc_api_Item_items_sorted_c1_r9 (y0 : List AV) (y1 y2 : Int) (y3 y4 : Nat) {o : List AV} (h : t_slices_CompactFunc_api_Item_items_sorted_c1_r9 (fun _ => D) (fun _ => L_slices_CompactFunc_api_Item_items_sorted_c1_r9) y0 y1 y2 y3 y4 = some o) : L_slices_CompactFunc_api_Item_items_sorted_c1_r9 y0 y1 y2 y3 y4 = some o := Lt.fin (fun k => e_slices_CompactFunc_api_Item_items_sorted_c1_r9 k y0 y1 y2 y3 y4) (Lt.ite (Lt.ite (Lt.ite (Lt.bind (D_lt 10 _ _) fun o1 => (Lt.ite (Lt.ite (Lt.ite (lt_slices_CompactFunc_api_Item_items_sorted_c1_r9 0 _ _ _ _ _) Lt.no) Lt.no) (lt_slices_CompactFunc_api_Item_items_sorted_c1_r9 2 _ _ _ _ _))) Lt.no) Lt.no) (Lt.ite (Lt.ite (Lt.ite Lt.ret Lt.no) Lt.no) Lt.no)) h
noncomputable def t_items_closure_r4 (Q : Nat → FuncId → List AV → Out) (l_items_closure_r4 : Nat → List AV → List AV → List AV → List AV → Int → List AV → List AV → Int → Out) (l_items_closure_r10 : Nat → List AV → List AV → List AV → List AV → Int → List AV → List AV → Int → Int → List AV → Int → Int → Out) (y0 y1 : List AV) (y2 y3 : List AV) (y4 : Int) (y5 y6 : List AV) (y7 : Int) : Out :=
 if (decide (y7 < ((List.length y5 : Nat) : Int))) = true then
 if 0 ≤ y7 ∧ y7 < ((List.length y5) : Int) then
  (Q 13 items_next [(AV.g [(AV.l T_api_Rule y0), (AV.l T_string y1), (AV.l T_api_Level y2), (AV.l T_api_Prod y3), (AV.i .i64 y4)]), (AV.g [(AV.i .i64 (AV.int (AV.fld (y5.getD (Int.toNat y7) .u) 0))), (AV.i .i64 (AV.int (AV.fld (y5.getD (Int.toNat y7) .u) 1)))])]).bind fun o1 =>
   if ((AV.int (List.headD o1 .u)) == (0 : Int)) = false then
   if (hasM (AV.i .i64 (AV.int (List.headD o1 .u))) (unM (AV.l T_map_int_bool y6))) = true then
    if (AV.bool (getM (AV.i .i64 (AV.int (List.headD o1 .u))) (unM (AV.l T_map_int_bool y6)))) = true then
     l_items_closure_r4 3 (y0) (y1) (y2) (y3) (y4) (y5) (((unM (AV.l T_map_int_bool y6)).map fun q => AV.g [q.1, q.2])) ((IntKind.wrap .i64 (y7 + (1 : Int))))
    else
     l_items_closure_r10 0 (y0) (y1) (y2) (y3) (y4) (y5) (((putM (AV.i .i64 (AV.int (List.headD o1 .u))) (AV.b true) (unM (AV.l T_map_int_bool y6))).map fun q => AV.g [q.1, q.2])) (y7) ((AV.int (List.headD o1 .u))) (y3) (((List.length y3 : Nat) : Int)) ((0 : Int))
   else
    l_items_closure_r10 0 (y0) (y1) (y2) (y3) (y4) (y5) (((putM (AV.i .i64 (AV.int (List.headD o1 .u))) (AV.b true) (unM (AV.l T_map_int_bool y6))).map fun q => AV.g [q.1, q.2])) (y7) ((AV.int (List.headD o1 .u))) (y3) (((List.length y3 : Nat) : Int)) ((0 : Int))
  else
   l_items_closure_r4 3 (y0) (y1) (y2) (y3) (y4) (y5) (((unM (AV.l T_map_int_bool y6)).map fun q => AV.g [q.1, q.2])) ((IntKind.wrap .i64 (y7 + (1 : Int))))
 else
  none
else
 (Q 15 items_sorted [(AV.l T_api_Item y5)]).bind fun o2 =>
  some [(AV.l T_api_Item (AV.list (List.headD o2 .u)))]
theorem e_items_closure_r4 (k : Nat) (y0 y1 : List AV) (y2 y3 : List AV) (y4 : Int) (y5 y6 : List AV) (y7 : Int) : l_items_closure_r4 (k + 19) y0 y1 y2 y3 y4 y5 y6 y7 = t_items_closure_r4 (fun c => callP C (callF C (k + c))) (fun c => l_items_closure_r4 (k + c)) (fun c => l_items_closure_r10 (k + c)) y0 y1 y2 y3 y4 y5 y6 y7 := by kernel_rfl
theorem d_items_closure_r4 (y0 y1 : List AV) (y2 y3 : List AV) (y4 : Int) (y5 y6 : List AV) (y7 : Int) {o : List AV} (h : t_items_closure_r4 (fun _ => D) (fun _ => L_items_closure_r4) (fun _ => L_items_closure_r10) y0 y1 y2 y3 y4 y5 y6 y7 = some o) : L_items_closure_r4 y0 y1 y2 y3 y4 y5 y6 y7 = some o := Lt.fin (fun k => e_items_closure_r4 k y0 y1 y2 y3 y4 y5 y6 y7) (Lt.ite (Lt.ite (Lt.bind (D_lt 13 _ _) fun o1 => (Lt.ite (Lt.ite (Lt.ite (lt_items_closure_r4 3 _ _ _ _ _ _ _ _) (lt_items_closure_r10 0 _ _ _ _ _ _ _ _ _ _ _ _)) (lt_items_closure_r10 0 _ _ _ _ _ _ _ _ _ _ _ _)) (lt_items_closure_r4 3 _ _ _ _ _ _ _ _))) Lt.no) (Lt.bind (D_lt 15 _ _) fun o2 => Lt.ret)) h
noncomputable def t_ref17_Build (Q : Nat → FuncId → List AV → Out) (l_ref17_Build_r9 : Nat → List AV → List AV → List AV → List AV → Int → Int → List AV → Int → Out) (x0 x1 : List AV) (x2 x3 : List AV) (x4 : Int) : Out :=
 (Q 20 ref16_Usable [(AV.g [(AV.l T_api_Rule x0), (AV.l T_string x1), (AV.l T_api_Level x2), (AV.l T_api_Prod x3), (AV.i .i64 x4)])]).bind fun o1 =>
 if (!(AV.bool (List.headD o1 .u))) = true then
 some [(AV.l T_api_State ([] : List AV)), (AV.i .i64 (10 : Int))]
else
 (Q 16 ref12_Terms [(AV.g [(AV.l T_api_Rule x0), (AV.l T_string x1), (AV.l T_api_Level x2), (AV.l T_api_Prod x3), (AV.i .i64 x4)])]).bind fun o2 =>
  if (List.length ([] : List AV)) + (List.length [(AV.g [(AV.i .i64 (-1 : Int)), (AV.i .i64 (0 : Int))])]) ≤ 16777216 ∧ (false && false) = false then
  if (List.length ([] : List AV)) + (List.length [(AV.g [(AV.l T_api_Item (([] : List AV) ++ [(AV.g [(AV.i .i64 (-1 : Int)), (AV.i .i64 (0 : Int))])])), (AV.l T_int ([] : List AV))])]) ≤ 16777216 ∧ (false && false) = false then
   l_ref17_Build_r9 0 (x0) (x1) (x2) (x3) (x4) ((IntKind.wrap .i64 ((IntKind.wrap .i64 ((AV.int (List.headD o2 .u)) + ((List.length x1 : Nat) : Int))) + (1 : Int)))) ((([] : List AV) ++ [(AV.g [(AV.l T_api_Item (([] : List AV) ++ [(AV.g [(AV.i .i64 (-1 : Int)), (AV.i .i64 (0 : Int))])])), (AV.l T_int ([] : List AV))])])) ((0 : Int))
  else
   none
 else
  none
theorem e_ref17_Build (k : Nat) (x0 x1 : List AV) (x2 x3 : List AV) (x4 : Int) : call C (k + 25) ref17_Build [(AV.g [(AV.l T_api_Rule x0), (AV.l T_string x1), (AV.l T_api_Level x2), (AV.l T_api_Prod x3), (AV.i .i64 x4)])] = t_ref17_Build (fun c => callP C (callF C (k + c))) (fun c => l_ref17_Build_r9 (k + c)) x0 x1 x2 x3 x4 := by kernel_rfl
theorem d_ref17_Build (x0 x1 : List AV) (x2 x3 : List AV) (x4 : Int) {o : List AV} (h : t_ref17_Build (fun _ => D) (fun _ => L_ref17_Build_r9) x0 x1 x2 x3 x4 = some o) : D ref17_Build [(AV.g [(AV.l T_api_Rule x0), (AV.l T_string x1), (AV.l T_api_Level x2), (AV.l T_api_Prod x3), (AV.i .i64 x4)])] = some o := D_fin (by rfl) (fun k => e_ref17_Build k x0 x1 x2 x3 x4) (Lt.bind (D_lt 20 _ _) fun o1 => (Lt.ite Lt.ret (Lt.bind (D_lt 16 _ _) fun o2 => (Lt.ite (Lt.ite (lt_ref17_Build_r9 0 _ _ _ _ _ _ _ _) Lt.no) Lt.no)))) h
noncomputable def t_auto_Build (Q : Nat → FuncId → List AV → Out) (l_auto_Build_r8 : Nat → List AV → List AV → List AV → List AV → Int → Int → List AV → List AV → Int → Out) (x0 x1 : List AV) (x2 x3 : List AV) (x4 : Int) : Out :=
 (Q 16 items_Right [(AV.g [(AV.l T_api_Rule x0), (AV.l T_string x1), (AV.l T_api_Level x2), (AV.l T_api_Prod x3), (AV.i .i64 x4)]), (AV.l T_api_Item [(AV.g [(AV.i .i64 (-1 : Int)), (AV.i .i64 (0 : Int))])])]).bind fun o1 =>
 if (!(AV.bool (List.headD o1 .u))) = true then
 some [(AV.l T_api_State ([] : List AV)), (AV.i .i64 (10 : Int))]
else
 (Q 12 gram_Terms [(AV.g [(AV.l T_api_Rule x0), (AV.l T_string x1), (AV.l T_api_Level x2), (AV.l T_api_Prod x3), (AV.i .i64 x4)])]).bind fun o2 =>
  (Q 8 auto_key [(AV.l T_api_Item [(AV.g [(AV.i .i64 (-1 : Int)), (AV.i .i64 (0 : Int))])])]).bind fun o3 =>
  l_auto_Build_r8 0 (x0) (x1) (x2) (x3) (x4) ((IntKind.wrap .i64 ((IntKind.wrap .i64 ((AV.int (List.headD o2 .u)) + ((List.length x1 : Nat) : Int))) + (1 : Int)))) ([(AV.g [(AV.l T_api_Item [(AV.g [(AV.i .i64 (-1 : Int)), (AV.i .i64 (0 : Int))])]), (AV.l T_int ([] : List AV))])]) (((putM (AV.s (AV.str (List.headD o3 .u))) (AV.i .i64 (0 : Int)) ([] : List (AV × AV))).map fun q => AV.g [q.1, q.2])) ((0 : Int))
theorem e_auto_Build (k : Nat) (x0 x1 : List AV) (x2 x3 : List AV) (x4 : Int) : call C (k + 23) auto_Build [(AV.g [(AV.l T_api_Rule x0), (AV.l T_string x1), (AV.l T_api_Level x2), (AV.l T_api_Prod x3), (AV.i .i64 x4)])] = t_auto_Build (fun c => callP C (callF C (k + c))) (fun c => l_auto_Build_r8 (k + c)) x0 x1 x2 x3 x4 := by kernel_rfl
theorem d_auto_Build (x0 x1 : List AV) (x2 x3 : List AV) (x4 : Int) {o : List AV} (h : t_auto_Build (fun _ => D) (fun _ => L_auto_Build_r8) x0 x1 x2 x3 x4 = some o) : D auto_Build [(AV.g [(AV.l T_api_Rule x0), (AV.l T_string x1), (AV.l T_api_Level x2), (AV.l T_api_Prod x3), (AV.i .i64 x4)])] = some o := D_fin (by rfl) (fun k => e_auto_Build k x0 x1 x2 x3 x4) (Lt.bind (D_lt 16 _ _) fun o1 => (Lt.ite Lt.ret (Lt.bind (D_lt 12 _ _) fun o2 => (Lt.bind (D_lt 8 _ _) fun o3 => (lt_auto_Build_r8 0 _ _ _ _ _ _ _ _ _))))) h
noncomputable def t_ref06_Right_r5 (Q : Nat → FuncId → List AV → Out) (l_ref06_Right_r5 : Nat → List AV → Int → Int → Out) (y0 : List AV) (y1 y2 : Int) : Out :=
 if (decide (y2 < ((List.length y0 : Nat) : Int))) = true then
 if 0 ≤ y2 ∧ y2 < ((List.length y0) : Int) then
  (Q 14 ref06_Wants [(AV.i .i64 (AV.int (AV.fld (y0.getD (Int.toNat y2) .u) 0)))]).bind fun o1 =>
   if 0 ≤ y2 ∧ y2 < ((List.length y0) : Int) then
   if (decide ((AV.int (List.headD o1 .u)) < (0 : Int))) = false then
    if (decide (y1 < (AV.int (List.headD o1 .u)))) = false then
     if 0 ≤ y2 ∧ y2 < ((List.length y0) : Int) then
      if ((((AV.int (AV.fld (AV.fld (y0.getD (Int.toNat y2) .u) 1) 0)) == (0 : Int)) && (((AV.int (AV.fld (AV.fld (y0.getD (Int.toNat y2) .u) 1) 1)) == (0 : Int)) && (((AV.int (AV.fld (AV.fld (y0.getD (Int.toNat y2) .u) 1) 2)) == (0 : Int)) && (((AV.int (AV.fld (AV.fld (y0.getD (Int.toNat y2) .u) 1) 3)) == (0 : Int)) && true)))) == ((AV.int (AV.fld (y0.getD (Int.toNat y2) .u) 0)) == (1 : Int))) = true then
       some [(AV.b false)]
      else
       l_ref06_Right_r5 0 (y0) ((IntKind.wrap .i64 ((IntKind.wrap .i64 (y1 - (AV.int (List.headD o1 .u)))) + (1 : Int)))) ((IntKind.wrap .i64 (y2 + (1 : Int))))
     else
      none
    else
     some [(AV.b false)]
   else
    some [(AV.b false)]
  else
   none
 else
  none
else
 some [(AV.b (y1 == (1 : Int)))]
theorem e_ref06_Right_r5 (k : Nat) (y0 : List AV) (y1 y2 : Int) : l_ref06_Right_r5 (k + 20) y0 y1 y2 = t_ref06_Right_r5 (fun c => callP C (callF C (k + c))) (fun c => l_ref06_Right_r5 (k + c)) y0 y1 y2 := by kernel_rfl
theorem d_ref06_Right_r5 (y0 : List AV) (y1 y2 : Int) {o : List AV} (h : t_ref06_Right_r5 (fun _ => D) (fun _ => L_ref06_Right_r5) y0 y1 y2 = some o) : L_ref06_Right_r5 y0 y1 y2 = some o := Lt.fin (fun k => e_ref06_Right_r5 k y0 y1 y2) (Lt.ite (Lt.ite (Lt.bind (D_lt 14 _ _) fun o1 => (Lt.ite (Lt.ite (Lt.ite (Lt.ite (Lt.ite Lt.ret (lt_ref06_Right_r5 0 _ _ _)) Lt.no) Lt.ret) Lt.ret) Lt.no)) Lt.no) Lt.ret) h
noncomputable def t_check_named (Q : Nat → FuncId → List AV → Out) (x0 : ByteArray) : Out :=
 (Q 7 slices_Contains_string [(AV.l T_string [(AV.s ⟨#[116, 111, 107, 101, 110]⟩), (AV.s ⟨#[115, 107, 105, 112]⟩), (AV.s ⟨#[108, 101, 102, 116]⟩), (AV.s ⟨#[114, 105, 103, 104, 116]⟩), (AV.s ⟨#[110, 111, 110, 101]⟩), (AV.s ⟨#[115, 116, 97, 114, 116]⟩)]), (AV.s x0)]).bind fun o1 =>
 if (AV.bool (List.headD o1 .u)) = true then
 some [(AV.b false)]
else
 (Q 3 word_All [(AV.s x0)]).bind fun o2 =>
  if ((AV.int (List.headD (List.tail (List.tail o2)) .u)) == (0 : Int)) = true then
  if (((List.length (AV.list (List.headD o2 .u)) : Nat) : Int) == (1 : Int)) = true then
   if 0 ≤ (0 : Int) ∧ (0 : Int) < ((List.length (AV.list (List.headD o2 .u))) : Int) then
    if ((AV.int (AV.fld ((AV.list (List.headD o2 .u)).getD 0 .u) 0)) == (1 : Int)) = true then
     if 0 ≤ (0 : Int) ∧ (0 : Int) < ((List.length (AV.list (List.headD o2 .u))) : Int) then
      some [(AV.b ((ByteArray.toList (AV.str (AV.fld ((AV.list (List.headD o2 .u)).getD 0 .u) 2))) == (ByteArray.toList x0)))]
     else
      none
    else
     some [(AV.b false)]
   else
    none
  else
   some [(AV.b false)]
 else
  some [(AV.b false)]
theorem e_check_named (k : Nat) (x0 : ByteArray) : call C (k + 12) check_named [(AV.s x0)] = t_check_named (fun c => callP C (callF C (k + c))) x0 := by kernel_rfl
theorem d_check_named (x0 : ByteArray) {o : List AV} (h : t_check_named (fun _ => D) x0 = some o) : D check_named [(AV.s x0)] = some o := D_fin (by rfl) (fun k => e_check_named k x0) (Lt.bind (D_lt 7 _ _) fun o1 => (Lt.ite Lt.ret (Lt.bind (D_lt 3 _ _) fun o2 => (Lt.ite (Lt.ite (Lt.ite (Lt.ite (Lt.ite Lt.ret Lt.no) Lt.ret) Lt.no) Lt.ret) Lt.ret)))) h
noncomputable def t_items_Closure (Q : Nat → FuncId → List AV → Out) (x0 x1 : List AV) (x2 x3 : List AV) (x4 : Int) (x5 : List AV) : Out :=
 (Q 5 items_Right [(AV.g [(AV.l T_api_Rule x0), (AV.l T_string x1), (AV.l T_api_Level x2), (AV.l T_api_Prod x3), (AV.i .i64 x4)]), (AV.l T_api_Item x5)]).bind fun o1 =>
 if (!(AV.bool (List.headD o1 .u))) = true then
 some [(AV.l T_api_Item ([] : List AV))]
else
 (Q 1 items_closure [(AV.g [(AV.l T_api_Rule x0), (AV.l T_string x1), (AV.l T_api_Level x2), (AV.l T_api_Prod x3), (AV.i .i64 x4)]), (AV.l T_api_Item x5)]).bind fun o2 =>
  some [(AV.l T_api_Item (AV.list (List.headD o2 .u)))]
theorem e_items_Closure (k : Nat) (x0 x1 : List AV) (x2 x3 : List AV) (x4 : Int) (x5 : List AV) : call C (k + 10) items_Closure [(AV.g [(AV.l T_api_Rule x0), (AV.l T_string x1), (AV.l T_api_Level x2), (AV.l T_api_Prod x3), (AV.i .i64 x4)]), (AV.l T_api_Item x5)] = t_items_Closure (fun c => callP C (callF C (k + c))) x0 x1 x2 x3 x4 x5 := by kernel_rfl
theorem d_items_Closure (x0 x1 : List AV) (x2 x3 : List AV) (x4 : Int) (x5 : List AV) {o : List AV} (h : t_items_Closure (fun _ => D) x0 x1 x2 x3 x4 x5 = some o) : D items_Closure [(AV.g [(AV.l T_api_Rule x0), (AV.l T_string x1), (AV.l T_api_Level x2), (AV.l T_api_Prod x3), (AV.i .i64 x4)]), (AV.l T_api_Item x5)] = some o := D_fin (by rfl) (fun k => e_items_Closure k x0 x1 x2 x3 x4 x5) (Lt.bind (D_lt 5 _ _) fun o1 => (Lt.ite Lt.ret (Lt.bind (D_lt 1 _ _) fun o2 => Lt.ret))) h
noncomputable def t_word_blank_r2 (Q : Nat → FuncId → List AV → Out) (l_word_blank_r2 : Nat → ByteArray → Int → Out) (l_word_blank_r7 : Nat → ByteArray → Int → Out) (y0 : ByteArray) (y1 : Int) : Out :=
 if (decide (y1 < ((ByteArray.size y0 : Nat) : Int))) = true then
 if 0 ≤ y1 ∧ y1 < ((ByteArray.size y0 : Nat) : Int) then
  (Q 9 strings_IndexByte [(AV.s ⟨#[9, 10, 13, 32]⟩), (AV.i .u8 ((((y0).data.getD (Int.toNat y1) 0).toNat : Nat) : Int))]).bind fun o1 =>
   if (decide ((AV.int (List.headD o1 .u)) ≥ (0 : Int))) = true then
   l_word_blank_r2 1 (y0) ((IntKind.wrap .i64 (y1 + (1 : Int))))
  else
   if 0 ≤ y1 ∧ y1 < ((ByteArray.size y0 : Nat) : Int) then
    if (((((y0).data.getD (Int.toNat y1) 0).toNat : Nat) : Int) == (35 : Int)) = true then
     l_word_blank_r7 0 (y0) (y1)
    else
     some [(AV.i .i64 y1)]
   else
    none
 else
  none
else
 some [(AV.i .i64 y1)]
theorem e_word_blank_r2 (k : Nat) (y0 : ByteArray) (y1 : Int) : l_word_blank_r2 (k + 15) y0 y1 = t_word_blank_r2 (fun c => callP C (callF C (k + c))) (fun c => l_word_blank_r2 (k + c)) (fun c => l_word_blank_r7 (k + c)) y0 y1 := by kernel_rfl
theorem d_word_blank_r2 (y0 : ByteArray) (y1 : Int) {o : List AV} (h : t_word_blank_r2 (fun _ => D) (fun _ => L_word_blank_r2) (fun _ => L_word_blank_r7) y0 y1 = some o) : L_word_blank_r2 y0 y1 = some o := Lt.fin (fun k => e_word_blank_r2 k y0 y1) (Lt.ite (Lt.ite (Lt.bind (D_lt 9 _ _) fun o1 => (Lt.ite (lt_word_blank_r2 1 _ _) (Lt.ite (Lt.ite (lt_word_blank_r7 0 _ _) Lt.ret) Lt.no))) Lt.no) Lt.ret) h
noncomputable def t_ref13_names_r15 (Q : Nat → FuncId → List AV → Out) (l_ref13_names_r15 : Nat → List AV → Int → Int → Out) (l_ref13_names_r10 : Nat → List AV → Int → Out) (y0 : List AV) (y1 y2 : Int) : Out :=
 if (decide (y2 < y1)) = true then
 if 0 ≤ y2 ∧ y2 < ((List.length y0) : Int) then
  if 0 ≤ y1 ∧ y1 < ((List.length y0) : Int) then
   if ((ByteArray.toList (AV.str (y0.getD (Int.toNat y2) .u))) == (ByteArray.toList (AV.str (y0.getD (Int.toNat y1) .u)))) = true then
    some [(AV.b false)]
   else
    l_ref13_names_r15 0 (y0) (y1) ((IntKind.wrap .i64 (y2 + (1 : Int))))
  else
   none
 else
  none
else
 l_ref13_names_r10 6 (y0) ((IntKind.wrap .i64 (y1 + (1 : Int))))
theorem e_ref13_names_r15 (k : Nat) (y0 : List AV) (y1 y2 : Int) : l_ref13_names_r15 (k + 14) y0 y1 y2 = t_ref13_names_r15 (fun c => callP C (callF C (k + c))) (fun c => l_ref13_names_r15 (k + c)) (fun c => l_ref13_names_r10 (k + c)) y0 y1 y2 := by kernel_rfl
theorem d_ref13_names_r15 (y0 : List AV) (y1 y2 : Int) {o : List AV} (h : t_ref13_names_r15 (fun _ => D) (fun _ => L_ref13_names_r15) (fun _ => L_ref13_names_r10) y0 y1 y2 = some o) : L_ref13_names_r15 y0 y1 y2 = some o := Lt.fin (fun k => e_ref13_names_r15 k y0 y1 y2) (Lt.ite (Lt.ite (Lt.ite (Lt.ite Lt.ret (lt_ref13_names_r15 0 _ _ _)) Lt.no) Lt.no) (lt_ref13_names_r10 6 _ _)) h
noncomputable def t_cmp_Compare_int (Q : Nat → FuncId → List AV → Out) (x0 x1 : Int) : Out :=
 (Q 25 cmp_isNaN_int [(AV.i .i64 x0)]).bind fun o1 =>
 (Q 23 cmp_isNaN_int [(AV.i .i64 x1)]).bind fun o2 =>
 if (AV.bool (List.headD o1 .u)) = true then
 if (AV.bool (List.headD o2 .u)) = true then
  some [(AV.i .i64 (0 : Int))]
 else
  some [(AV.i .i64 (-1 : Int))]
else
 if (AV.bool (List.headD o2 .u)) = true then
  some [(AV.i .i64 (1 : Int))]
 else
  if (decide (x0 < x1)) = true then
   some [(AV.i .i64 (-1 : Int))]
  else
   if (decide (x0 > x1)) = true then
    some [(AV.i .i64 (1 : Int))]
   else
    some [(AV.i .i64 (0 : Int))]
theorem e_cmp_Compare_int (k : Nat) (x0 x1 : Int) : call C (k + 29) cmp_Compare_int [(AV.i .i64 x0), (AV.i .i64 x1)] = t_cmp_Compare_int (fun c => callP C (callF C (k + c))) x0 x1 := by kernel_rfl
theorem d_cmp_Compare_int (x0 x1 : Int) {o : List AV} (h : t_cmp_Compare_int (fun _ => D) x0 x1 = some o) : D cmp_Compare_int [(AV.i .i64 x0), (AV.i .i64 x1)] = some o := D_fin (by rfl) (fun k => e_cmp_Compare_int k x0 x1) (Lt.bind (D_lt 25 _ _) fun o1 => (Lt.bind (D_lt 23 _ _) fun o2 => (Lt.ite (Lt.ite Lt.ret Lt.ret) (Lt.ite Lt.ret (Lt.ite Lt.ret (Lt.ite Lt.ret Lt.ret)))))) h
noncomputable def t_slices_IndexFunc_int_check_Sound_c2 (Q : Nat → FuncId → List AV → Out) (l_slices_IndexFunc_int_check_Sound_c2_r2 : Nat → List AV → Int → Int → Int → Out) (x0 : List AV) (x1 : Int) : Out :=
 l_slices_IndexFunc_int_check_Sound_c2_r2 0 (x0) (x1) (((List.length x0 : Nat) : Int)) ((0 : Int))
theorem e_slices_IndexFunc_int_check_Sound_c2 (k : Nat) (x0 : List AV) (x1 : Int) : call C (k + 9) slices_IndexFunc_int [(AV.l T_int x0), (AV.fn check_Sound_c2 [] [(AV.at T_int (AV.i .i64 x1))])] = t_slices_IndexFunc_int_check_Sound_c2 (fun c => callP C (callF C (k + c))) (fun c => l_slices_IndexFunc_int_check_Sound_c2_r2 (k + c)) x0 x1 := by kernel_rfl
theorem d_slices_IndexFunc_int_check_Sound_c2 (x0 : List AV) (x1 : Int) {o : List AV} (h : t_slices_IndexFunc_int_check_Sound_c2 (fun _ => D) (fun _ => L_slices_IndexFunc_int_check_Sound_c2_r2) x0 x1 = some o) : D slices_IndexFunc_int [(AV.l T_int x0), (AV.fn check_Sound_c2 [] [(AV.at T_int (AV.i .i64 x1))])] = some o := D_fin (by rfl) (fun k => e_slices_IndexFunc_int_check_Sound_c2 k x0 x1) (lt_slices_IndexFunc_int_check_Sound_c2_r2 0 _ _ _ _) h
noncomputable def t_ref06_Wants (Q : Nat → FuncId → List AV → Out) (x0 : Int) : Out :=
 if (x0 == (1 : Int)) = false then
 if (x0 == (2 : Int)) = true then
  some [(AV.i .i64 (0 : Int))]
 else
  if (x0 == (3 : Int)) = false then
   if (x0 == (4 : Int)) = true then
    some [(AV.i .i64 (2 : Int))]
   else
    if (decide (x0 ≥ (5 : Int))) = true then
     if (decide (x0 ≤ (7 : Int))) = true then
      some [(AV.i .i64 (1 : Int))]
     else
      some [(AV.i .i64 (-1 : Int))]
    else
     some [(AV.i .i64 (-1 : Int))]
  else
   some [(AV.i .i64 (2 : Int))]
else
 some [(AV.i .i64 (0 : Int))]
theorem e_ref06_Wants (k : Nat) (x0 : Int) : call C (k + 20) ref06_Wants [(AV.i .i64 x0)] = t_ref06_Wants (fun c => callP C (callF C (k + c))) x0 := by kernel_rfl
theorem d_ref06_Wants (x0 : Int) {o : List AV} (h : t_ref06_Wants (fun _ => D) x0 = some o) : D ref06_Wants [(AV.i .i64 x0)] = some o := D_fin (by rfl) (fun k => e_ref06_Wants k x0) (Lt.ite (Lt.ite Lt.ret (Lt.ite (Lt.ite Lt.ret (Lt.ite (Lt.ite Lt.ret Lt.ret) Lt.ret)) Lt.ret)) Lt.ret) h
noncomputable def t_auto_Walk (Q : Nat → FuncId → List AV → Out) (l_auto_Walk_r3 : Nat → List AV → Int → List AV → Int → Int → Out) (x0 : List AV) (x1 : Int) (x2 : List AV) : Out :=
 l_auto_Walk_r3 0 (x0) (x1) (x2) (((List.length x2 : Nat) : Int)) ((0 : Int))
theorem e_auto_Walk (k : Nat) (x0 : List AV) (x1 : Int) (x2 : List AV) : call C (k + 11) auto_Walk [(AV.l T_api_State x0), (AV.i .i64 x1), (AV.l T_int x2)] = t_auto_Walk (fun c => callP C (callF C (k + c))) (fun c => l_auto_Walk_r3 (k + c)) x0 x1 x2 := by kernel_rfl
theorem d_auto_Walk (x0 : List AV) (x1 : Int) (x2 : List AV) {o : List AV} (h : t_auto_Walk (fun _ => D) (fun _ => L_auto_Walk_r3) x0 x1 x2 = some o) : D auto_Walk [(AV.l T_api_State x0), (AV.i .i64 x1), (AV.l T_int x2)] = some o := D_fin (by rfl) (fun k => e_auto_Walk k x0 x1 x2) (lt_auto_Walk_r3 0 _ _ _ _ _) h
noncomputable def t_ref16_Has (Q : Nat → FuncId → List AV → Out) (l_ref16_Has_r2 : Nat → Int → Int → List AV → Int → Out) (x0 : List AV) (x1 x2 : Int) : Out :=
 l_ref16_Has_r2 0 (x1) (x2) (x0) ((0 : Int))
theorem e_ref16_Has (k : Nat) (x0 : List AV) (x1 x2 : Int) : call C (k + 10) ref16_Has [(AV.l T_api_Item x0), (AV.g [(AV.i .i64 x1), (AV.i .i64 x2)])] = t_ref16_Has (fun c => callP C (callF C (k + c))) (fun c => l_ref16_Has_r2 (k + c)) x0 x1 x2 := by kernel_rfl
theorem d_ref16_Has (x0 : List AV) (x1 x2 : Int) {o : List AV} (h : t_ref16_Has (fun _ => D) (fun _ => L_ref16_Has_r2) x0 x1 x2 = some o) : D ref16_Has [(AV.l T_api_Item x0), (AV.g [(AV.i .i64 x1), (AV.i .i64 x2)])] = some o := D_fin (by rfl) (fun k => e_ref16_Has k x0 x1 x2) (lt_ref16_Has_r2 0 _ _ _ _) h
end Go.Proofs.YteklakapimggeaaGreatDoor.Den
