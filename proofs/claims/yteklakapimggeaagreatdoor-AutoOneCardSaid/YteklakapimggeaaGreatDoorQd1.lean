/- Proved here: a part of the proof, told one step at a time: DenEq5, DenEq6. No condition but those each theorem names. -/
import Derived.Test.YteklakapimggeaaGreatDoorQa1
namespace Go.Proofs.YteklakapimggeaaGreatDoor.Den
open Go Go.Proofs
set_option linter.unusedVariables false
noncomputable def t_ref17_Build_r14 (Q : Nat → FuncId → List AV → Out) (l_ref17_Build_r14 : Nat → List AV → List AV → List AV → List AV → Int → Int → List AV → Int → List AV → Int → Out) (l_ref17_Build_r9 : Nat → List AV → List AV → List AV → List AV → Int → Int → List AV → Int → Out) (y0 y1 : List AV) (y2 y3 : List AV) (y4 y5 : Int) (y6 : List AV) (y7 : Int) (y8 : List AV) (y9 : Int) : Out :=
 if (decide (y9 < y5)) = true then
 if 0 ≤ y7 ∧ y7 < ((List.length y6) : Int) then
  (Q 17 ref16_Goto [(AV.g [(AV.l T_api_Rule y0), (AV.l T_string y1), (AV.l T_api_Level y2), (AV.l T_api_Prod y3), (AV.i .i64 y4)]), (AV.l T_api_Item (AV.list (AV.fld (y6.getD (Int.toNat y7) .u) 0))), (AV.i .i64 y9)]).bind fun o1 =>
   (Q 15 ref17_find [(AV.l T_api_State y6), (AV.l T_api_Item (AV.list (List.headD o1 .u)))]).bind fun o2 =>
   if 0 ≤ y9 ∧ y9 < ((List.length y8) : Int) then
   if (((List.length (AV.list (List.headD o1 .u)) : Nat) : Int) == (0 : Int)) = true then
    if 0 ≤ y9 ∧ y9 < ((List.length (y8.set (Int.toNat y9) (AV.i .i64 (AV.int (List.headD o2 .u))))) : Int) then
     l_ref17_Build_r14 5 (y0) (y1) (y2) (y3) (y4) (y5) (y6) (y7) (((y8.set (Int.toNat y9) (AV.i .i64 (AV.int (List.headD o2 .u)))).set (Int.toNat y9) (AV.i .i64 (-1 : Int)))) ((IntKind.wrap .i64 (y9 + (1 : Int))))
    else
     none
   else
    if 0 ≤ y9 ∧ y9 < ((List.length (y8.set (Int.toNat y9) (AV.i .i64 (AV.int (List.headD o2 .u))))) : Int) then
     if (decide ((AV.int ((y8.set (Int.toNat y9) (AV.i .i64 (AV.int (List.headD o2 .u)))).getD (Int.toNat y9) .u)) < (0 : Int))) = true then
      if 0 ≤ y9 ∧ y9 < ((List.length (y8.set (Int.toNat y9) (AV.i .i64 (AV.int (List.headD o2 .u))))) : Int) then
       if (List.length y6) + (List.length [(AV.g [(AV.l T_api_Item (AV.list (List.headD o1 .u))), (AV.l T_int ([] : List AV))])]) ≤ 16777216 ∧ (false && false) = false then
        l_ref17_Build_r14 0 (y0) (y1) (y2) (y3) (y4) (y5) ((y6 ++ [(AV.g [(AV.l T_api_Item (AV.list (List.headD o1 .u))), (AV.l T_int ([] : List AV))])])) (y7) (((y8.set (Int.toNat y9) (AV.i .i64 (AV.int (List.headD o2 .u)))).set (Int.toNat y9) (AV.i .i64 ((List.length y6 : Nat) : Int)))) ((IntKind.wrap .i64 (y9 + (1 : Int))))
       else
        none
      else
       none
     else
      l_ref17_Build_r14 2 (y0) (y1) (y2) (y3) (y4) (y5) (y6) (y7) ((y8.set (Int.toNat y9) (AV.i .i64 (AV.int (List.headD o2 .u))))) ((IntKind.wrap .i64 (y9 + (1 : Int))))
    else
     none
  else
   none
 else
  none
else
 if 0 ≤ y7 ∧ y7 < ((List.length y6) : Int) then
  if (decide (((List.length (y6.set (Int.toNat y7) (AV.g [(AV.l T_api_Item (AV.list (AV.fld (y6.getD (Int.toNat y7) .u) 0))), (AV.l T_int y8)])) : Nat) : Int) > (240 : Int))) = true then
   some [(AV.l T_api_State ([] : List AV)), (AV.i .i64 (3 : Int))]
  else
   l_ref17_Build_r9 9 (y0) (y1) (y2) (y3) (y4) (y5) ((y6.set (Int.toNat y7) (AV.g [(AV.l T_api_Item (AV.list (AV.fld (y6.getD (Int.toNat y7) .u) 0))), (AV.l T_int y8)]))) ((IntKind.wrap .i64 (y7 + (1 : Int))))
 else
  none
theorem e_ref17_Build_r14 (k : Nat) (y0 y1 : List AV) (y2 y3 : List AV) (y4 y5 : Int) (y6 : List AV) (y7 : Int) (y8 : List AV) (y9 : Int) : l_ref17_Build_r14 (k + 23) y0 y1 y2 y3 y4 y5 y6 y7 y8 y9 = t_ref17_Build_r14 (fun c => callP C (callF C (k + c))) (fun c => l_ref17_Build_r14 (k + c)) (fun c => l_ref17_Build_r9 (k + c)) y0 y1 y2 y3 y4 y5 y6 y7 y8 y9 := by kernel_rfl
theorem d_ref17_Build_r14 (y0 y1 : List AV) (y2 y3 : List AV) (y4 y5 : Int) (y6 : List AV) (y7 : Int) (y8 : List AV) (y9 : Int) {o : List AV} (h : t_ref17_Build_r14 (fun _ => D) (fun _ => L_ref17_Build_r14) (fun _ => L_ref17_Build_r9) y0 y1 y2 y3 y4 y5 y6 y7 y8 y9 = some o) : L_ref17_Build_r14 y0 y1 y2 y3 y4 y5 y6 y7 y8 y9 = some o := Lt.fin (fun k => e_ref17_Build_r14 k y0 y1 y2 y3 y4 y5 y6 y7 y8 y9) (Lt.ite (Lt.ite (Lt.bind (D_lt 17 _ _) fun o1 => (Lt.bind (D_lt 15 _ _) fun o2 => (Lt.ite (Lt.ite (Lt.ite (lt_ref17_Build_r14 5 _ _ _ _ _ _ _ _ _ _) Lt.no) (Lt.ite (Lt.ite (Lt.ite (Lt.ite (lt_ref17_Build_r14 0 _ _ _ _ _ _ _ _ _ _) Lt.no) Lt.no) (lt_ref17_Build_r14 2 _ _ _ _ _ _ _ _ _ _)) Lt.no)) Lt.no))) Lt.no) (Lt.ite (Lt.ite Lt.ret (lt_ref17_Build_r9 9 _ _ _ _ _ _ _ _)) Lt.no)) h
noncomputable def t_law17_AutoOne (Q : Nat → FuncId → List AV → Out) (l_law17_AutoOne_r11 : Nat → List AV → List AV → List AV → List AV → Int → List AV → List AV → List AV → Int → Int → Out) (x0 x1 : List AV) (x2 x3 : List AV) (x4 : Int) : Out :=
 (Q 25 law17_wakes []).bind fun o1 =>
 if (!(AV.bool (List.headD o1 .u))) = true then
 some [(AV.b false)]
else
 (Q 20 law17_heavy [(AV.g [(AV.l T_api_Rule x0), (AV.l T_string x1), (AV.l T_api_Level x2), (AV.l T_api_Prod x3), (AV.i .i64 x4)])]).bind fun o2 =>
  if (AV.bool (List.headD o2 .u)) = true then
  some [(AV.b true)]
 else
  (Q 16 auto_Build [(AV.g [(AV.l T_api_Rule x0), (AV.l T_string x1), (AV.l T_api_Level x2), (AV.l T_api_Prod x3), (AV.i .i64 x4)])]).bind fun o3 =>
   if ((AV.int (List.headD (List.tail o3) .u)) != (0 : Int)) = true then
   some [(AV.b true)]
  else
   if 0 ≤ ((List.length (AV.list (List.headD o3 .u)) : Nat) : Int) ∧ ((List.length (AV.list (List.headD o3 .u)) : Nat) : Int) ≤ ((List.length (AV.list (List.headD o3 .u)) : Nat) : Int) ∧ ((List.length (AV.list (List.headD o3 .u)) : Nat) : Int) ≤ 16777216 then
    if 0 ≤ ((List.length (AV.list (List.headD o3 .u)) : Nat) : Int) ∧ ((List.length (AV.list (List.headD o3 .u)) : Nat) : Int) ≤ ((List.length (AV.list (List.headD o3 .u)) : Nat) : Int) ∧ ((List.length (AV.list (List.headD o3 .u)) : Nat) : Int) ≤ 16777216 then
     l_law17_AutoOne_r11 0 (x0) (x1) (x2) (x3) (x4) ((AV.list (List.headD o3 .u))) ((List.replicate (Int.toNat ((List.length (AV.list (List.headD o3 .u)) : Nat) : Int)) (AV.i .i64 (0 : Int)))) ((List.replicate (Int.toNat ((List.length (AV.list (List.headD o3 .u)) : Nat) : Int)) (AV.i .i64 (0 : Int)))) (((List.length (AV.list (List.headD o3 .u)) : Nat) : Int)) ((0 : Int))
    else
     none
   else
    none
theorem e_law17_AutoOne (k : Nat) (x0 x1 : List AV) (x2 x3 : List AV) (x4 : Int) : call C (k + 30) law17_AutoOne [(AV.g [(AV.l T_api_Rule x0), (AV.l T_string x1), (AV.l T_api_Level x2), (AV.l T_api_Prod x3), (AV.i .i64 x4)])] = t_law17_AutoOne (fun c => callP C (callF C (k + c))) (fun c => l_law17_AutoOne_r11 (k + c)) x0 x1 x2 x3 x4 := by kernel_rfl
theorem d_law17_AutoOne (x0 x1 : List AV) (x2 x3 : List AV) (x4 : Int) {o : List AV} (h : t_law17_AutoOne (fun _ => D) (fun _ => L_law17_AutoOne_r11) x0 x1 x2 x3 x4 = some o) : D law17_AutoOne [(AV.g [(AV.l T_api_Rule x0), (AV.l T_string x1), (AV.l T_api_Level x2), (AV.l T_api_Prod x3), (AV.i .i64 x4)])] = some o := D_fin (by rfl) (fun k => e_law17_AutoOne k x0 x1 x2 x3 x4) (Lt.bind (D_lt 25 _ _) fun o1 => (Lt.ite Lt.ret (Lt.bind (D_lt 20 _ _) fun o2 => (Lt.ite Lt.ret (Lt.bind (D_lt 16 _ _) fun o3 => (Lt.ite Lt.ret (Lt.ite (Lt.ite (lt_law17_AutoOne_r11 0 _ _ _ _ _ _ _ _ _ _) Lt.no) Lt.no))))))) h
noncomputable def t_ref17_Build (Q : Nat → FuncId → List AV → Out) (l_ref17_Build_r9 : Nat → List AV → List AV → List AV → List AV → Int → Int → List AV → Int → Out) (x0 x1 : List AV) (x2 x3 : List AV) (x4 : Int) : Out :=
 (Q 20 ref16_Usable [(AV.g [(AV.l T_api_Rule x0), (AV.l T_string x1), (AV.l T_api_Level x2), (AV.l T_api_Prod x3), (AV.i .i64 x4)])]).bind fun o1 =>
 if (!(AV.bool (List.headD o1 .u))) = true then
 some [(AV.l T_api_State ([] : List AV)), (AV.i .i64 (10 : Int))]
else
 (Q 16 ref12_Terms [(AV.g [(AV.l T_api_Rule x0), (AV.l T_string x1), (AV.l T_api_Level x2), (AV.l T_api_Prod x3), (AV.i .i64 x4)])]).bind fun o2 =>
  if (List.length ([] : List AV)) + (List.length [(AV.g [(AV.i .i64 (-1 : Int)), (AV.i .i64 (0 : Int))])]) ≤ 16777216 ∧ (false && false) = false then
  if (List.length ([] : List AV)) + (List.length [(AV.g [(AV.l T_api_Item (([] : List AV) ++ [(AV.g [(AV.i .i64 (-1 : Int)), (AV.i .i64 (0 : Int))])])), (AV.l T_int ([] : List AV))])]) ≤ 16777216 ∧ (false && false) = false then
   l_ref17_Build_r9 0 (x0) (x1) (x2) (x3) (x4) ((IntKind.wrap .i64 ((IntKind.wrap .i64 ((AV.int (List.headD o2 .u)) + ((List.length x1 : Nat) : Int))) + (1 : Int)))) ((([] : List AV) ++ [(AV.g [(AV.l T_api_Item (([] : List AV) ++ [(AV.g [(AV.i .i64 (-1 : Int)), (AV.i .i64 (0 : Int))])])), (AV.l T_int ([] : List AV))])])) ((0 : Int))
  else
   none
 else
  none
theorem e_ref17_Build (k : Nat) (x0 x1 : List AV) (x2 x3 : List AV) (x4 : Int) : call C (k + 25) ref17_Build [(AV.g [(AV.l T_api_Rule x0), (AV.l T_string x1), (AV.l T_api_Level x2), (AV.l T_api_Prod x3), (AV.i .i64 x4)])] = t_ref17_Build (fun c => callP C (callF C (k + c))) (fun c => l_ref17_Build_r9 (k + c)) x0 x1 x2 x3 x4 := by kernel_rfl
theorem d_ref17_Build (x0 x1 : List AV) (x2 x3 : List AV) (x4 : Int) {o : List AV} (h : t_ref17_Build (fun _ => D) (fun _ => L_ref17_Build_r9) x0 x1 x2 x3 x4 = some o) : D ref17_Build [(AV.g [(AV.l T_api_Rule x0), (AV.l T_string x1), (AV.l T_api_Level x2), (AV.l T_api_Prod x3), (AV.i .i64 x4)])] = some o := D_fin (by rfl) (fun k => e_ref17_Build k x0 x1 x2 x3 x4) (Lt.bind (D_lt 20 _ _) fun o1 => (Lt.ite Lt.ret (Lt.bind (D_lt 16 _ _) fun o2 => (Lt.ite (Lt.ite (lt_ref17_Build_r9 0 _ _ _ _ _ _ _ _) Lt.no) Lt.no)))) h
noncomputable def t_check_Sound_r17 (Q : Nat → FuncId → List AV → Out) (l_check_Sound_r17 : Nat → Int → Int → Int → Int → List AV → Int → Int → Out) (y0 y1 : Int) (y2 y3 : Int) (y4 : List AV) (y5 y6 : Int) : Out :=
 if (decide (y6 < y5)) = true then
 if 0 ≤ y6 ∧ y6 < ((List.length y4) : Int) then
  if (decide ((AV.int (AV.fld (y4.getD (Int.toNat y6) .u) 0)) > y2)) = true then
   if (!(decide ((AV.int (AV.fld (y4.getD (Int.toNat y6) .u) 0)) ≤ y3))) = false then
    if (decide (((List.length (AV.list (AV.fld (y4.getD (Int.toNat y6) .u) 1)) : Nat) : Int) > (8 : Int))) = false then
     if (decide ((AV.int (AV.fld (y4.getD (Int.toNat y6) .u) 2)) < (0 : Int))) = false then
      if (decide ((AV.int (AV.fld (y4.getD (Int.toNat y6) .u) 2)) > y0)) = false then
       (Q 7 slices_ContainsFunc_int [(AV.l T_int (AV.list (AV.fld (y4.getD (Int.toNat y6) .u) 1))), (AV.fn check_Sound_c2 [] [(AV.at T_int (AV.i .i64 y1))])]).bind fun o1 =>
        if (AV.bool (List.headD o1 .u)) = true then
        some [(AV.b false)]
       else
        l_check_Sound_r17 0 (y0) (y1) (y2) (y3) (y4) (y5) ((IntKind.wrap .i64 (y6 + (1 : Int))))
      else
       some [(AV.b false)]
     else
      some [(AV.b false)]
    else
     some [(AV.b false)]
   else
    some [(AV.b false)]
  else
   some [(AV.b false)]
 else
  none
else
 some [(AV.b true)]
theorem e_check_Sound_r17 (k : Nat) (y0 y1 : Int) (y2 y3 : Int) (y4 : List AV) (y5 y6 : Int) : l_check_Sound_r17 (k + 16) y0 y1 y2 y3 y4 y5 y6 = t_check_Sound_r17 (fun c => callP C (callF C (k + c))) (fun c => l_check_Sound_r17 (k + c)) y0 y1 y2 y3 y4 y5 y6 := by kernel_rfl
theorem d_check_Sound_r17 (y0 y1 : Int) (y2 y3 : Int) (y4 : List AV) (y5 y6 : Int) {o : List AV} (h : t_check_Sound_r17 (fun _ => D) (fun _ => L_check_Sound_r17) y0 y1 y2 y3 y4 y5 y6 = some o) : L_check_Sound_r17 y0 y1 y2 y3 y4 y5 y6 = some o := Lt.fin (fun k => e_check_Sound_r17 k y0 y1 y2 y3 y4 y5 y6) (Lt.ite (Lt.ite (Lt.ite (Lt.ite (Lt.ite (Lt.ite (Lt.ite (Lt.bind (D_lt 7 _ _) fun o1 => (Lt.ite Lt.ret (lt_check_Sound_r17 0 _ _ _ _ _ _ _))) Lt.ret) Lt.ret) Lt.ret) Lt.ret) Lt.ret) Lt.no) Lt.ret) h
noncomputable def t_ref13_names_r3 (Q : Nat → FuncId → List AV → Out) (l_ref13_names_r3 : Nat → List AV → List AV → List AV → List AV → Int → List AV → Int → Out) (l_ref13_names_r10 : Nat → List AV → Int → Out) (y0 y1 : List AV) (y2 y3 : List AV) (y4 : Int) (y5 : List AV) (y6 : Int) : Out :=
 if (decide (y6 < ((List.length y0 : Nat) : Int))) = true then
 if 0 ≤ y6 ∧ y6 < ((List.length y0) : Int) then
  if (List.length y5) + (List.length [(AV.s (AV.str (AV.fld (y0.getD (Int.toNat y6) .u) 0)))]) ≤ 16777216 ∧ (false && false) = false then
   if 0 ≤ y6 ∧ y6 < ((List.length y0) : Int) then
    (Q 8 ref06_Right [(AV.l T_api_Cell (AV.list (AV.fld (y0.getD (Int.toNat y6) .u) 1)))]).bind fun o1 =>
     if (!(AV.bool (List.headD o1 .u))) = true then
     some [(AV.b false)]
    else
     l_ref13_names_r3 0 (y0) (y1) (y2) (y3) (y4) ((y5 ++ [(AV.s (AV.str (AV.fld (y0.getD (Int.toNat y6) .u) 0)))])) ((IntKind.wrap .i64 (y6 + (1 : Int))))
   else
    none
  else
   none
 else
  none
else
 if (List.length y5) + (List.length y1) ≤ 16777216 ∧ (false && false) = false then
  l_ref13_names_r10 4 ((y5 ++ y1)) ((0 : Int))
 else
  none
theorem e_ref13_names_r3 (k : Nat) (y0 y1 : List AV) (y2 y3 : List AV) (y4 : Int) (y5 : List AV) (y6 : Int) : l_ref13_names_r3 (k + 16) y0 y1 y2 y3 y4 y5 y6 = t_ref13_names_r3 (fun c => callP C (callF C (k + c))) (fun c => l_ref13_names_r3 (k + c)) (fun c => l_ref13_names_r10 (k + c)) y0 y1 y2 y3 y4 y5 y6 := by kernel_rfl
theorem d_ref13_names_r3 (y0 y1 : List AV) (y2 y3 : List AV) (y4 : Int) (y5 : List AV) (y6 : Int) {o : List AV} (h : t_ref13_names_r3 (fun _ => D) (fun _ => L_ref13_names_r3) (fun _ => L_ref13_names_r10) y0 y1 y2 y3 y4 y5 y6 = some o) : L_ref13_names_r3 y0 y1 y2 y3 y4 y5 y6 = some o := Lt.fin (fun k => e_ref13_names_r3 k y0 y1 y2 y3 y4 y5 y6) (Lt.ite (Lt.ite (Lt.ite (Lt.ite (Lt.bind (D_lt 8 _ _) fun o1 => (Lt.ite Lt.ret (lt_ref13_names_r3 0 _ _ _ _ _ _ _))) Lt.no) Lt.no) Lt.no) (Lt.ite (lt_ref13_names_r10 4 _ _) Lt.no)) h
noncomputable def t_law17_heavy_r4 (Q : Nat → FuncId → List AV → Out) (l_law17_heavy_r4 : Nat → List AV → List AV → List AV → List AV → Int → Int → Int → Out) (l_law17_heavy_r10 : Nat → List AV → List AV → List AV → List AV → Int → Int → Int → Out) (y0 y1 : List AV) (y2 y3 : List AV) (y4 y5 y6 : Int) : Out :=
 if (decide (y6 < y5)) = true then
 if 0 ≤ y6 ∧ y6 < ((List.length y0) : Int) then
  if (decide (((List.length (AV.list (AV.fld (y0.getD (Int.toNat y6) .u) 1)) : Nat) : Int) > (30 : Int))) = false then
   if 0 ≤ y6 ∧ y6 < ((List.length y0) : Int) then
    if (decide (((ByteArray.size (AV.str (AV.fld (y0.getD (Int.toNat y6) .u) 0)) : Nat) : Int) > (40 : Int))) = true then
     some [(AV.b true)]
    else
     l_law17_heavy_r4 0 (y0) (y1) (y2) (y3) (y4) (y5) ((IntKind.wrap .i64 (y6 + (1 : Int))))
   else
    none
  else
   some [(AV.b true)]
 else
  none
else
 l_law17_heavy_r10 6 (y0) (y1) (y2) (y3) (y4) (((List.length y1 : Nat) : Int)) ((0 : Int))
theorem e_law17_heavy_r4 (k : Nat) (y0 y1 : List AV) (y2 y3 : List AV) (y4 y5 y6 : Int) : l_law17_heavy_r4 (k + 16) y0 y1 y2 y3 y4 y5 y6 = t_law17_heavy_r4 (fun c => callP C (callF C (k + c))) (fun c => l_law17_heavy_r4 (k + c)) (fun c => l_law17_heavy_r10 (k + c)) y0 y1 y2 y3 y4 y5 y6 := by kernel_rfl
theorem d_law17_heavy_r4 (y0 y1 : List AV) (y2 y3 : List AV) (y4 y5 y6 : Int) {o : List AV} (h : t_law17_heavy_r4 (fun _ => D) (fun _ => L_law17_heavy_r4) (fun _ => L_law17_heavy_r10) y0 y1 y2 y3 y4 y5 y6 = some o) : L_law17_heavy_r4 y0 y1 y2 y3 y4 y5 y6 = some o := Lt.fin (fun k => e_law17_heavy_r4 k y0 y1 y2 y3 y4 y5 y6) (Lt.ite (Lt.ite (Lt.ite (Lt.ite (Lt.ite Lt.ret (lt_law17_heavy_r4 0 _ _ _ _ _ _ _)) Lt.no) Lt.ret) Lt.no) (lt_law17_heavy_r10 6 _ _ _ _ _ _ _)) h
noncomputable def t_law17_heavy (Q : Nat → FuncId → List AV → Out) (l_law17_heavy_r4 : Nat → List AV → List AV → List AV → List AV → Int → Int → Int → Out) (x0 x1 : List AV) (x2 x3 : List AV) (x4 : Int) : Out :=
 if (decide (((List.length x3 : Nat) : Int) > (24 : Int))) = false then
 if (decide (((List.length x0 : Nat) : Int) > (10 : Int))) = false then
  if (decide (((List.length x1 : Nat) : Int) > (10 : Int))) = false then
   if (decide (((List.length x2 : Nat) : Int) > (20 : Int))) = true then
    some [(AV.b true)]
   else
    l_law17_heavy_r4 0 (x0) (x1) (x2) (x3) (x4) (((List.length x0 : Nat) : Int)) ((0 : Int))
  else
   some [(AV.b true)]
 else
  some [(AV.b true)]
else
 some [(AV.b true)]
theorem e_law17_heavy (k : Nat) (x0 x1 : List AV) (x2 x3 : List AV) (x4 : Int) : call C (k + 14) law17_heavy [(AV.g [(AV.l T_api_Rule x0), (AV.l T_string x1), (AV.l T_api_Level x2), (AV.l T_api_Prod x3), (AV.i .i64 x4)])] = t_law17_heavy (fun c => callP C (callF C (k + c))) (fun c => l_law17_heavy_r4 (k + c)) x0 x1 x2 x3 x4 := by kernel_rfl
theorem d_law17_heavy (x0 x1 : List AV) (x2 x3 : List AV) (x4 : Int) {o : List AV} (h : t_law17_heavy (fun _ => D) (fun _ => L_law17_heavy_r4) x0 x1 x2 x3 x4 = some o) : D law17_heavy [(AV.g [(AV.l T_api_Rule x0), (AV.l T_string x1), (AV.l T_api_Level x2), (AV.l T_api_Prod x3), (AV.i .i64 x4)])] = some o := D_fin (by rfl) (fun k => e_law17_heavy k x0 x1 x2 x3 x4) (Lt.ite (Lt.ite (Lt.ite (Lt.ite Lt.ret (lt_law17_heavy_r4 0 _ _ _ _ _ _ _)) Lt.ret) Lt.ret) Lt.ret) h
noncomputable def t_word_blank_r2 (Q : Nat → FuncId → List AV → Out) (l_word_blank_r2 : Nat → ByteArray → Int → Out) (l_word_blank_r7 : Nat → ByteArray → Int → Out) (y0 : ByteArray) (y1 : Int) : Out :=
 if (decide (y1 < ((ByteArray.size y0 : Nat) : Int))) = true then
 if 0 ≤ y1 ∧ y1 < ((ByteArray.size y0 : Nat) : Int) then
  (Q 9 strings_IndexByte [(AV.s ⟨#[9, 10, 13, 32]⟩), (AV.i .u8 ((((y0).data.getD (Int.toNat y1) 0).toNat : Nat) : Int))]).bind fun o1 =>
   if (decide ((AV.int (List.headD o1 .u)) ≥ (0 : Int))) = true then
   l_word_blank_r2 1 (y0) ((IntKind.wrap .i64 (y1 + (1 : Int))))
  else
   if 0 ≤ y1 ∧ y1 < ((ByteArray.size y0 : Nat) : Int) then
    if (((((y0).data.getD (Int.toNat y1) 0).toNat : Nat) : Int) == (35 : Int)) = true then
     l_word_blank_r7 0 (y0) (y1)
    else
     some [(AV.i .i64 y1)]
   else
    none
 else
  none
else
 some [(AV.i .i64 y1)]
theorem e_word_blank_r2 (k : Nat) (y0 : ByteArray) (y1 : Int) : l_word_blank_r2 (k + 15) y0 y1 = t_word_blank_r2 (fun c => callP C (callF C (k + c))) (fun c => l_word_blank_r2 (k + c)) (fun c => l_word_blank_r7 (k + c)) y0 y1 := by kernel_rfl
theorem d_word_blank_r2 (y0 : ByteArray) (y1 : Int) {o : List AV} (h : t_word_blank_r2 (fun _ => D) (fun _ => L_word_blank_r2) (fun _ => L_word_blank_r7) y0 y1 = some o) : L_word_blank_r2 y0 y1 = some o := Lt.fin (fun k => e_word_blank_r2 k y0 y1) (Lt.ite (Lt.ite (Lt.bind (D_lt 9 _ _) fun o1 => (Lt.ite (lt_word_blank_r2 1 _ _) (Lt.ite (Lt.ite (lt_word_blank_r7 0 _ _) Lt.ret) Lt.no))) Lt.no) Lt.ret) h
noncomputable def t_ref16_Closure_r4 (Q : Nat → FuncId → List AV → Out) (l_ref16_Closure_r7 : Nat → List AV → List AV → List AV → List AV → Int → List AV → Bool → Int → Out) (y0 y1 : List AV) (y2 y3 : List AV) (y4 : Int) (y5 : List AV) (y6 : Bool) : Out :=
 if y6 = true then
 l_ref16_Closure_r7 0 (y0) (y1) (y2) (y3) (y4) (y5) (false) ((0 : Int))
else
 (Q 8 ref16_Of [(AV.g [(AV.l T_api_Rule y0), (AV.l T_string y1), (AV.l T_api_Level y2), (AV.l T_api_Prod y3), (AV.i .i64 y4)]), (AV.l T_api_Item y5)]).bind fun o1 =>
  some [(AV.l T_api_Item (AV.list (List.headD o1 .u)))]
theorem e_ref16_Closure_r4 (k : Nat) (y0 y1 : List AV) (y2 y3 : List AV) (y4 : Int) (y5 : List AV) (y6 : Bool) : l_ref16_Closure_r4 (k + 12) y0 y1 y2 y3 y4 y5 y6 = t_ref16_Closure_r4 (fun c => callP C (callF C (k + c))) (fun c => l_ref16_Closure_r7 (k + c)) y0 y1 y2 y3 y4 y5 y6 := by kernel_rfl
theorem d_ref16_Closure_r4 (y0 y1 : List AV) (y2 y3 : List AV) (y4 : Int) (y5 : List AV) (y6 : Bool) {o : List AV} (h : t_ref16_Closure_r4 (fun _ => D) (fun _ => L_ref16_Closure_r7) y0 y1 y2 y3 y4 y5 y6 = some o) : L_ref16_Closure_r4 y0 y1 y2 y3 y4 y5 y6 = some o := Lt.fin (fun k => e_ref16_Closure_r4 k y0 y1 y2 y3 y4 y5 y6) (Lt.ite (lt_ref16_Closure_r7 0 _ _ _ _ _ _ _ _) (Lt.bind (D_lt 8 _ _) fun o1 => Lt.ret)) h
noncomputable def t_slices_CompactFunc_api_Item_items_sorted_c1 (Q : Nat → FuncId → List AV → Out) (l_slices_CompactFunc_api_Item_items_sorted_c1_r4 : Nat → List AV → Int → Out) (x0 : List AV) : Out :=
 if (decide (((List.length x0 : Nat) : Int) < (2 : Int))) = true then
 some [(AV.l T_api_Item x0)]
else
 l_slices_CompactFunc_api_Item_items_sorted_c1_r4 0 (x0) ((1 : Int))
theorem e_slices_CompactFunc_api_Item_items_sorted_c1 (k : Nat) (x0 : List AV) : call C (k + 15) slices_CompactFunc_api_Item [(AV.l T_api_Item x0), (AV.fn items_sorted_c1 [] [])] = t_slices_CompactFunc_api_Item_items_sorted_c1 (fun c => callP C (callF C (k + c))) (fun c => l_slices_CompactFunc_api_Item_items_sorted_c1_r4 (k + c)) x0 := by kernel_rfl
theorem d_slices_CompactFunc_api_Item_items_sorted_c1 (x0 : List AV) {o : List AV} (h : t_slices_CompactFunc_api_Item_items_sorted_c1 (fun _ => D) (fun _ => L_slices_CompactFunc_api_Item_items_sorted_c1_r4) x0 = some o) : D slices_CompactFunc_api_Item [(AV.l T_api_Item x0), (AV.fn items_sorted_c1 [] [])] = some o := D_fin (by rfl) (fun k => e_slices_CompactFunc_api_Item_items_sorted_c1 k x0) (Lt.ite Lt.ret (lt_slices_CompactFunc_api_Item_items_sorted_c1_r4 0 _ _)) h
noncomputable def t_items_side (Q : Nat → FuncId → List AV → Out) (x0 x1 : List AV) (x2 x3 : List AV) (x4 x5 : Int) : Out :=
 if (x5 == (-1 : Int)) = true then
 some [(AV.l T_int [(AV.i .i64 x4)])]
else
 if 0 ≤ x5 ∧ x5 < ((List.length x3) : Int) then
  some [(AV.l T_int (AV.list (AV.fld (x3.getD (Int.toNat x5) .u) 1)))]
 else
  none
theorem e_items_side (k : Nat) (x0 x1 : List AV) (x2 x3 : List AV) (x4 x5 : Int) : call C (k + 10) items_side [(AV.g [(AV.l T_api_Rule x0), (AV.l T_string x1), (AV.l T_api_Level x2), (AV.l T_api_Prod x3), (AV.i .i64 x4)]), (AV.i .i64 x5)] = t_items_side (fun c => callP C (callF C (k + c))) x0 x1 x2 x3 x4 x5 := by kernel_rfl
theorem d_items_side (x0 x1 : List AV) (x2 x3 : List AV) (x4 x5 : Int) {o : List AV} (h : t_items_side (fun _ => D) x0 x1 x2 x3 x4 x5 = some o) : D items_side [(AV.g [(AV.l T_api_Rule x0), (AV.l T_string x1), (AV.l T_api_Level x2), (AV.l T_api_Prod x3), (AV.i .i64 x4)]), (AV.i .i64 x5)] = some o := D_fin (by rfl) (fun k => e_items_side k x0 x1 x2 x3 x4 x5) (Lt.ite Lt.ret (Lt.ite Lt.ret Lt.no)) h
noncomputable def t_gram_Terms (Q : Nat → FuncId → List AV → Out) (l_gram_Terms_r3 : Nat → Int → List AV → Int → Int → Out) (x0 x1 : List AV) (x2 x3 : List AV) (x4 : Int) : Out :=
 l_gram_Terms_r3 0 ((0 : Int)) (x0) (((List.length x0 : Nat) : Int)) ((0 : Int))
theorem e_gram_Terms (k : Nat) (x0 x1 : List AV) (x2 x3 : List AV) (x4 : Int) : call C (k + 11) gram_Terms [(AV.g [(AV.l T_api_Rule x0), (AV.l T_string x1), (AV.l T_api_Level x2), (AV.l T_api_Prod x3), (AV.i .i64 x4)])] = t_gram_Terms (fun c => callP C (callF C (k + c))) (fun c => l_gram_Terms_r3 (k + c)) x0 x1 x2 x3 x4 := by kernel_rfl
theorem d_gram_Terms (x0 x1 : List AV) (x2 x3 : List AV) (x4 : Int) {o : List AV} (h : t_gram_Terms (fun _ => D) (fun _ => L_gram_Terms_r3) x0 x1 x2 x3 x4 = some o) : D gram_Terms [(AV.g [(AV.l T_api_Rule x0), (AV.l T_string x1), (AV.l T_api_Level x2), (AV.l T_api_Prod x3), (AV.i .i64 x4)])] = some o := D_fin (by rfl) (fun k => e_gram_Terms k x0 x1 x2 x3 x4) (lt_gram_Terms_r3 0 _ _ _ _) h
noncomputable def t_slices_Index_string (Q : Nat → FuncId → List AV → Out) (l_slices_Index_string_r2 : Nat → List AV → ByteArray → Int → Int → Out) (x0 : List AV) (x1 : ByteArray) : Out :=
 l_slices_Index_string_r2 0 (x0) (x1) (((List.length x0 : Nat) : Int)) ((0 : Int))
theorem e_slices_Index_string (k : Nat) (x0 : List AV) (x1 : ByteArray) : call C (k + 9) slices_Index_string [(AV.l T_string x0), (AV.s x1)] = t_slices_Index_string (fun c => callP C (callF C (k + c))) (fun c => l_slices_Index_string_r2 (k + c)) x0 x1 := by kernel_rfl
theorem d_slices_Index_string (x0 : List AV) (x1 : ByteArray) {o : List AV} (h : t_slices_Index_string (fun _ => D) (fun _ => L_slices_Index_string_r2) x0 x1 = some o) : D slices_Index_string [(AV.l T_string x0), (AV.s x1)] = some o := D_fin (by rfl) (fun k => e_slices_Index_string k x0 x1) (lt_slices_Index_string_r2 0 _ _ _ _) h
noncomputable def t_ref16_Has (Q : Nat → FuncId → List AV → Out) (l_ref16_Has_r2 : Nat → Int → Int → List AV → Int → Out) (x0 : List AV) (x1 x2 : Int) : Out :=
 l_ref16_Has_r2 0 (x1) (x2) (x0) ((0 : Int))
theorem e_ref16_Has (k : Nat) (x0 : List AV) (x1 x2 : Int) : call C (k + 10) ref16_Has [(AV.l T_api_Item x0), (AV.g [(AV.i .i64 x1), (AV.i .i64 x2)])] = t_ref16_Has (fun c => callP C (callF C (k + c))) (fun c => l_ref16_Has_r2 (k + c)) x0 x1 x2 := by kernel_rfl
theorem d_ref16_Has (x0 : List AV) (x1 x2 : Int) {o : List AV} (h : t_ref16_Has (fun _ => D) (fun _ => L_ref16_Has_r2) x0 x1 x2 = some o) : D ref16_Has [(AV.l T_api_Item x0), (AV.g [(AV.i .i64 x1), (AV.i .i64 x2)])] = some o := D_fin (by rfl) (fun k => e_ref16_Has k x0 x1 x2) (lt_ref16_Has_r2 0 _ _ _ _) h
noncomputable def t_regex_wants (Q : Nat → FuncId → List AV → Out) (x0 : Int) : Out :=
 if (x0 == (1 : Int)) = true then
 if (x0 == (1 : Int)) = true then
  some [(AV.i .i64 (0 : Int))]
 else
  if (x0 == (5 : Int)) = true then
   if (x0 == (5 : Int)) = true then
    some [(AV.i .i64 (1 : Int))]
   else
    if (x0 == (3 : Int)) = true then
     if (x0 == (3 : Int)) = true then
      some [(AV.i .i64 (2 : Int))]
     else
      some [(AV.i .i64 (-1 : Int))]
    else
     if (x0 == (4 : Int)) = true then
      some [(AV.i .i64 (2 : Int))]
     else
      some [(AV.i .i64 (-1 : Int))]
  else
   if (x0 == (6 : Int)) = true then
    if (x0 == (6 : Int)) = true then
     some [(AV.i .i64 (1 : Int))]
    else
     if (x0 == (3 : Int)) = true then
      if (x0 == (3 : Int)) = true then
       some [(AV.i .i64 (2 : Int))]
      else
       some [(AV.i .i64 (-1 : Int))]
     else
      if (x0 == (4 : Int)) = true then
       some [(AV.i .i64 (2 : Int))]
      else
       some [(AV.i .i64 (-1 : Int))]
   else
    if (x0 == (7 : Int)) = true then
     some [(AV.i .i64 (1 : Int))]
    else
     if (x0 == (3 : Int)) = true then
      if (x0 == (3 : Int)) = true then
       some [(AV.i .i64 (2 : Int))]
      else
       some [(AV.i .i64 (-1 : Int))]
     else
      if (x0 == (4 : Int)) = true then
       some [(AV.i .i64 (2 : Int))]
      else
       some [(AV.i .i64 (-1 : Int))]
else
 if (x0 == (2 : Int)) = true then
  some [(AV.i .i64 (0 : Int))]
 else
  if (x0 == (5 : Int)) = true then
   if (x0 == (5 : Int)) = true then
    some [(AV.i .i64 (1 : Int))]
   else
    if (x0 == (3 : Int)) = true then
     if (x0 == (3 : Int)) = true then
      some [(AV.i .i64 (2 : Int))]
     else
      some [(AV.i .i64 (-1 : Int))]
    else
     if (x0 == (4 : Int)) = true then
      some [(AV.i .i64 (2 : Int))]
     else
      some [(AV.i .i64 (-1 : Int))]
  else
   if (x0 == (6 : Int)) = true then
    if (x0 == (6 : Int)) = true then
     some [(AV.i .i64 (1 : Int))]
    else
     if (x0 == (3 : Int)) = true then
      if (x0 == (3 : Int)) = true then
       some [(AV.i .i64 (2 : Int))]
      else
       some [(AV.i .i64 (-1 : Int))]
     else
      if (x0 == (4 : Int)) = true then
       some [(AV.i .i64 (2 : Int))]
      else
       some [(AV.i .i64 (-1 : Int))]
   else
    if (x0 == (7 : Int)) = true then
     some [(AV.i .i64 (1 : Int))]
    else
     if (x0 == (3 : Int)) = true then
      if (x0 == (3 : Int)) = true then
       some [(AV.i .i64 (2 : Int))]
      else
       some [(AV.i .i64 (-1 : Int))]
     else
      if (x0 == (4 : Int)) = true then
       some [(AV.i .i64 (2 : Int))]
      else
       some [(AV.i .i64 (-1 : Int))]
theorem e_regex_wants (k : Nat) (x0 : Int) : call C (k + 32) regex_wants [(AV.i .i64 x0)] = t_regex_wants (fun c => callP C (callF C (k + c))) x0 := by kernel_rfl
theorem d_regex_wants (x0 : Int) {o : List AV} (h : t_regex_wants (fun _ => D) x0 = some o) : D regex_wants [(AV.i .i64 x0)] = some o := D_fin (by rfl) (fun k => e_regex_wants k x0) (Lt.ite (Lt.ite Lt.ret (Lt.ite (Lt.ite Lt.ret (Lt.ite (Lt.ite Lt.ret Lt.ret) (Lt.ite Lt.ret Lt.ret))) (Lt.ite (Lt.ite Lt.ret (Lt.ite (Lt.ite Lt.ret Lt.ret) (Lt.ite Lt.ret Lt.ret))) (Lt.ite Lt.ret (Lt.ite (Lt.ite Lt.ret Lt.ret) (Lt.ite Lt.ret Lt.ret)))))) (Lt.ite Lt.ret (Lt.ite (Lt.ite Lt.ret (Lt.ite (Lt.ite Lt.ret Lt.ret) (Lt.ite Lt.ret Lt.ret))) (Lt.ite (Lt.ite Lt.ret (Lt.ite (Lt.ite Lt.ret Lt.ret) (Lt.ite Lt.ret Lt.ret))) (Lt.ite Lt.ret (Lt.ite (Lt.ite Lt.ret Lt.ret) (Lt.ite Lt.ret Lt.ret))))))) h
noncomputable def t_law17_AutoOne_r36 (Q : Nat → FuncId → List AV → Out) (l_law17_AutoOne_r36 : Nat → List AV → List AV → List AV → List AV → Int → List AV → List AV → List AV → Int → List AV → Int → Int → Out) (l_law17_AutoOne_r25 : Nat → List AV → List AV → List AV → List AV → Int → List AV → List AV → List AV → Int → Out) (y0 y1 : List AV) (y2 y3 : List AV) (y4 : Int) (y5 y6 y7 : List AV) (y8 : Int) (y9 : List AV) (y10 y11 : Int) : Out :=
 if (decide (y11 < y10)) = true then
 if 0 ≤ y11 ∧ y11 < ((List.length y9) : Int) then
  (Q 9 ref16_Side [(AV.g [(AV.l T_api_Rule y0), (AV.l T_string y1), (AV.l T_api_Level y2), (AV.l T_api_Prod y3), (AV.i .i64 y4)]), (AV.i .i64 (AV.int (AV.fld (y9.getD (Int.toNat y11) .u) 0)))]).bind fun o1 =>
   if (decide ((AV.int (AV.fld (y9.getD (Int.toNat y11) .u) 1)) < (1 : Int))) = false then
   if 0 ≤ (IntKind.wrap .i64 ((AV.int (AV.fld (y9.getD (Int.toNat y11) .u) 1)) - (1 : Int))) ∧ (IntKind.wrap .i64 ((AV.int (AV.fld (y9.getD (Int.toNat y11) .u) 1)) - (1 : Int))) < ((List.length (AV.list (List.headD o1 .u))) : Int) then
    if 0 ≤ y8 ∧ y8 < ((List.length y6) : Int) then
     if ((AV.int ((AV.list (List.headD o1 .u)).getD (Int.toNat (IntKind.wrap .i64 ((AV.int (AV.fld (y9.getD (Int.toNat y11) .u) 1)) - (1 : Int)))) .u)) != (AV.int (y6.getD (Int.toNat y8) .u))) = true then
      some [(AV.b false)]
     else
      l_law17_AutoOne_r36 0 (y0) (y1) (y2) (y3) (y4) (y5) (y6) (y7) (y8) (y9) (y10) ((IntKind.wrap .i64 (y11 + (1 : Int))))
    else
     none
   else
    none
  else
   some [(AV.b false)]
 else
  none
else
 l_law17_AutoOne_r25 9 (y0) (y1) (y2) (y3) (y4) (y5) (y6) (y7) ((IntKind.wrap .i64 (y8 + (1 : Int))))
theorem e_law17_AutoOne_r36 (k : Nat) (y0 y1 : List AV) (y2 y3 : List AV) (y4 : Int) (y5 y6 y7 : List AV) (y8 : Int) (y9 : List AV) (y10 y11 : Int) : l_law17_AutoOne_r36 (k + 18) y0 y1 y2 y3 y4 y5 y6 y7 y8 y9 y10 y11 = t_law17_AutoOne_r36 (fun c => callP C (callF C (k + c))) (fun c => l_law17_AutoOne_r36 (k + c)) (fun c => l_law17_AutoOne_r25 (k + c)) y0 y1 y2 y3 y4 y5 y6 y7 y8 y9 y10 y11 := by kernel_rfl
theorem d_law17_AutoOne_r36 (y0 y1 : List AV) (y2 y3 : List AV) (y4 : Int) (y5 y6 y7 : List AV) (y8 : Int) (y9 : List AV) (y10 y11 : Int) {o : List AV} (h : t_law17_AutoOne_r36 (fun _ => D) (fun _ => L_law17_AutoOne_r36) (fun _ => L_law17_AutoOne_r25) y0 y1 y2 y3 y4 y5 y6 y7 y8 y9 y10 y11 = some o) : L_law17_AutoOne_r36 y0 y1 y2 y3 y4 y5 y6 y7 y8 y9 y10 y11 = some o := Lt.fin (fun k => e_law17_AutoOne_r36 k y0 y1 y2 y3 y4 y5 y6 y7 y8 y9 y10 y11) (Lt.ite (Lt.ite (Lt.bind (D_lt 9 _ _) fun o1 => (Lt.ite (Lt.ite (Lt.ite (Lt.ite Lt.ret (lt_law17_AutoOne_r36 0 _ _ _ _ _ _ _ _ _ _ _ _)) Lt.no) Lt.no) Lt.ret)) Lt.no) (lt_law17_AutoOne_r25 9 _ _ _ _ _ _ _ _ _)) h
noncomputable def t_law17_AutoOne_r30 (Q : Nat → FuncId → List AV → Out) (l_law17_AutoOne_r30 : Nat → List AV → List AV → List AV → List AV → Int → List AV → List AV → List AV → Int → Int → Int → Out) (l_law17_AutoOne_r36 : Nat → List AV → List AV → List AV → List AV → Int → List AV → List AV → List AV → Int → List AV → Int → Int → Out) (y0 y1 : List AV) (y2 y3 : List AV) (y4 : Int) (y5 y6 y7 : List AV) (y8 y9 y10 : Int) : Out :=
 if (decide (y10 < y9)) = true then
 if 0 ≤ y8 ∧ y8 < ((List.length y5) : Int) then
  if 0 ≤ y10 ∧ y10 < ((List.length y5) : Int) then
   (Q 7 ref16_Same [(AV.l T_api_Item (AV.list (AV.fld (y5.getD (Int.toNat y8) .u) 0))), (AV.l T_api_Item (AV.list (AV.fld (y5.getD (Int.toNat y10) .u) 0)))]).bind fun o1 =>
    if (AV.bool (List.headD o1 .u)) = true then
    some [(AV.b false)]
   else
    l_law17_AutoOne_r30 0 (y0) (y1) (y2) (y3) (y4) (y5) (y6) (y7) (y8) (y9) ((IntKind.wrap .i64 (y10 + (1 : Int))))
  else
   none
 else
  none
else
 if 0 ≤ y8 ∧ y8 < ((List.length y5) : Int) then
  l_law17_AutoOne_r36 7 (y0) (y1) (y2) (y3) (y4) (y5) (y6) (y7) (y8) ((AV.list (AV.fld (y5.getD (Int.toNat y8) .u) 0))) (((List.length (AV.list (AV.fld (y5.getD (Int.toNat y8) .u) 0)) : Nat) : Int)) ((0 : Int))
 else
  none
theorem e_law17_AutoOne_r30 (k : Nat) (y0 y1 : List AV) (y2 y3 : List AV) (y4 : Int) (y5 y6 y7 : List AV) (y8 y9 y10 : Int) : l_law17_AutoOne_r30 (k + 16) y0 y1 y2 y3 y4 y5 y6 y7 y8 y9 y10 = t_law17_AutoOne_r30 (fun c => callP C (callF C (k + c))) (fun c => l_law17_AutoOne_r30 (k + c)) (fun c => l_law17_AutoOne_r36 (k + c)) y0 y1 y2 y3 y4 y5 y6 y7 y8 y9 y10 := by kernel_rfl
theorem d_law17_AutoOne_r30 (y0 y1 : List AV) (y2 y3 : List AV) (y4 : Int) (y5 y6 y7 : List AV) (y8 y9 y10 : Int) {o : List AV} (h : t_law17_AutoOne_r30 (fun _ => D) (fun _ => L_law17_AutoOne_r30) (fun _ => L_law17_AutoOne_r36) y0 y1 y2 y3 y4 y5 y6 y7 y8 y9 y10 = some o) : L_law17_AutoOne_r30 y0 y1 y2 y3 y4 y5 y6 y7 y8 y9 y10 = some o := Lt.fin (fun k => e_law17_AutoOne_r30 k y0 y1 y2 y3 y4 y5 y6 y7 y8 y9 y10) (Lt.ite (Lt.ite (Lt.ite (Lt.bind (D_lt 7 _ _) fun o1 => (Lt.ite Lt.ret (lt_law17_AutoOne_r30 0 _ _ _ _ _ _ _ _ _ _ _))) Lt.no) Lt.no) (Lt.ite (lt_law17_AutoOne_r36 7 _ _ _ _ _ _ _ _ _ _ _ _) Lt.no)) h
noncomputable def t_word_rule_r4 (Q : Nat → FuncId → List AV → Out) (l_word_rule_r4 : Nat → ByteArray → Int → Out) (y0 : ByteArray) (y1 : Int) : Out :=
 if (decide (y1 < ((ByteArray.size y0 : Nat) : Int))) = true then
 if 0 ≤ y1 ∧ y1 < ((ByteArray.size y0 : Nat) : Int) then
  if (((((y0).data.getD (Int.toNat y1) 0).toNat : Nat) : Int) != (10 : Int)) = true then
   if 0 ≤ y1 ∧ y1 < ((ByteArray.size y0 : Nat) : Int) then
    if (((((y0).data.getD (Int.toNat y1) 0).toNat : Nat) : Int) == (47 : Int)) = true then
     some [(AV.i .i64 (IntKind.wrap .i64 (y1 + (1 : Int))))]
    else
     if 0 ≤ y1 ∧ y1 < ((ByteArray.size y0 : Nat) : Int) then
      if (((((y0).data.getD (Int.toNat y1) 0).toNat : Nat) : Int) == (92 : Int)) = true then
       if (decide ((IntKind.wrap .i64 (y1 + (1 : Int))) < ((ByteArray.size y0 : Nat) : Int))) = true then
        if 0 ≤ (IntKind.wrap .i64 (y1 + (1 : Int))) ∧ (IntKind.wrap .i64 (y1 + (1 : Int))) < ((ByteArray.size y0 : Nat) : Int) then
         if (((((y0).data.getD (Int.toNat (IntKind.wrap .i64 (y1 + (1 : Int)))) 0).toNat : Nat) : Int) != (10 : Int)) = true then
          l_word_rule_r4 0 (y0) ((IntKind.wrap .i64 ((IntKind.wrap .i64 (y1 + (1 : Int))) + (1 : Int))))
         else
          l_word_rule_r4 0 (y0) ((IntKind.wrap .i64 (y1 + (1 : Int))))
        else
         none
       else
        l_word_rule_r4 0 (y0) ((IntKind.wrap .i64 (y1 + (1 : Int))))
      else
       l_word_rule_r4 0 (y0) ((IntKind.wrap .i64 (y1 + (1 : Int))))
     else
      none
   else
    none
  else
   some [(AV.i .i64 (0 : Int))]
 else
  none
else
 some [(AV.i .i64 (0 : Int))]
theorem e_word_rule_r4 (k : Nat) (y0 : ByteArray) (y1 : Int) : l_word_rule_r4 (k + 19) y0 y1 = t_word_rule_r4 (fun c => callP C (callF C (k + c))) (fun c => l_word_rule_r4 (k + c)) y0 y1 := by kernel_rfl
theorem d_word_rule_r4 (y0 : ByteArray) (y1 : Int) {o : List AV} (h : t_word_rule_r4 (fun _ => D) (fun _ => L_word_rule_r4) y0 y1 = some o) : L_word_rule_r4 y0 y1 = some o := Lt.fin (fun k => e_word_rule_r4 k y0 y1) (Lt.ite (Lt.ite (Lt.ite (Lt.ite (Lt.ite Lt.ret (Lt.ite (Lt.ite (Lt.ite (Lt.ite (Lt.ite (lt_word_rule_r4 0 _ _) (lt_word_rule_r4 0 _ _)) Lt.no) (lt_word_rule_r4 0 _ _)) (lt_word_rule_r4 0 _ _)) Lt.no)) Lt.no) Lt.ret) Lt.no) Lt.ret) h
noncomputable def t_slices_IndexFunc_api_Item_items_Right_c1_r2 (Q : Nat → FuncId → List AV → Out) (l_slices_IndexFunc_api_Item_items_Right_c1_r2 : Nat → List AV → List AV → List AV → List AV → List AV → Int → Int → Int → Out) (y0 y1 : List AV) (y2 y3 y4 : List AV) (y5 y6 y7 : Int) : Out :=
 if (decide (y7 < y6)) = true then
 if 0 ≤ y7 ∧ y7 < ((List.length y0) : Int) then
  (Q 7 items_Right_c1 [(AV.g [(AV.i .i64 (AV.int (AV.fld (y0.getD (Int.toNat y7) .u) 0))), (AV.i .i64 (AV.int (AV.fld (y0.getD (Int.toNat y7) .u) 1)))]), (AV.at T_api_Grammar (AV.g [(AV.l T_api_Rule y1), (AV.l T_string y2), (AV.l T_api_Level y3), (AV.l T_api_Prod y4), (AV.i .i64 y5)]))]).bind fun o1 =>
   if (AV.bool (List.headD o1 .u)) = true then
   some [(AV.i .i64 y7)]
  else
   l_slices_IndexFunc_api_Item_items_Right_c1_r2 0 (y0) (y1) (y2) (y3) (y4) (y5) (y6) ((IntKind.wrap .i64 (y7 + (1 : Int))))
 else
  none
else
 some [(AV.i .i64 (-1 : Int))]
theorem e_slices_IndexFunc_api_Item_items_Right_c1_r2 (k : Nat) (y0 y1 : List AV) (y2 y3 y4 : List AV) (y5 y6 y7 : Int) : l_slices_IndexFunc_api_Item_items_Right_c1_r2 (k + 16) y0 y1 y2 y3 y4 y5 y6 y7 = t_slices_IndexFunc_api_Item_items_Right_c1_r2 (fun c => callP C (callF C (k + c))) (fun c => l_slices_IndexFunc_api_Item_items_Right_c1_r2 (k + c)) y0 y1 y2 y3 y4 y5 y6 y7 := by kernel_rfl
theorem d_slices_IndexFunc_api_Item_items_Right_c1_r2 (y0 y1 : List AV) (y2 y3 y4 : List AV) (y5 y6 y7 : Int) {o : List AV} (h : t_slices_IndexFunc_api_Item_items_Right_c1_r2 (fun _ => D) (fun _ => L_slices_IndexFunc_api_Item_items_Right_c1_r2) y0 y1 y2 y3 y4 y5 y6 y7 = some o) : L_slices_IndexFunc_api_Item_items_Right_c1_r2 y0 y1 y2 y3 y4 y5 y6 y7 = some o := Lt.fin (fun k => e_slices_IndexFunc_api_Item_items_Right_c1_r2 k y0 y1 y2 y3 y4 y5 y6 y7) (Lt.ite (Lt.ite (Lt.bind (D_lt 7 _ _) fun o1 => (Lt.ite Lt.ret (lt_slices_IndexFunc_api_Item_items_Right_c1_r2 0 _ _ _ _ _ _ _ _))) Lt.no) Lt.ret) h
noncomputable def t_law17_AutoOne_r11 (Q : Nat → FuncId → List AV → Out) (l_law17_AutoOne_r14 : Nat → List AV → List AV → List AV → List AV → Int → List AV → List AV → List AV → Int → Int → Int → List AV → Int → Int → Out) (l_law17_AutoOne_r25 : Nat → List AV → List AV → List AV → List AV → Int → List AV → List AV → List AV → Int → Out) (y0 y1 : List AV) (y2 y3 : List AV) (y4 : Int) (y5 y6 y7 : List AV) (y8 y9 : Int) : Out :=
 if (decide (y9 < y8)) = true then
 if 0 ≤ y9 ∧ y9 < ((List.length y5) : Int) then
  l_law17_AutoOne_r14 0 (y0) (y1) (y2) (y3) (y4) (y5) (y6) (y7) (y9) (y8) (y9) ((AV.list (AV.fld (y5.getD (Int.toNat y9) .u) 1))) (((List.length (AV.list (AV.fld (y5.getD (Int.toNat y9) .u) 1)) : Nat) : Int)) ((0 : Int))
 else
  none
else
 l_law17_AutoOne_r25 2 (y0) (y1) (y2) (y3) (y4) (y5) (y6) (y7) ((1 : Int))
theorem e_law17_AutoOne_r11 (k : Nat) (y0 y1 : List AV) (y2 y3 : List AV) (y4 : Int) (y5 y6 y7 : List AV) (y8 y9 : Int) : l_law17_AutoOne_r11 (k + 13) y0 y1 y2 y3 y4 y5 y6 y7 y8 y9 = t_law17_AutoOne_r11 (fun c => callP C (callF C (k + c))) (fun c => l_law17_AutoOne_r14 (k + c)) (fun c => l_law17_AutoOne_r25 (k + c)) y0 y1 y2 y3 y4 y5 y6 y7 y8 y9 := by kernel_rfl
theorem d_law17_AutoOne_r11 (y0 y1 : List AV) (y2 y3 : List AV) (y4 : Int) (y5 y6 y7 : List AV) (y8 y9 : Int) {o : List AV} (h : t_law17_AutoOne_r11 (fun _ => D) (fun _ => L_law17_AutoOne_r14) (fun _ => L_law17_AutoOne_r25) y0 y1 y2 y3 y4 y5 y6 y7 y8 y9 = some o) : L_law17_AutoOne_r11 y0 y1 y2 y3 y4 y5 y6 y7 y8 y9 = some o := Lt.fin (fun k => e_law17_AutoOne_r11 k y0 y1 y2 y3 y4 y5 y6 y7 y8 y9) (Lt.ite (Lt.ite (lt_law17_AutoOne_r14 0 _ _ _ _ _ _ _ _ _ _ _ _ _ _) Lt.no) (lt_law17_AutoOne_r25 2 _ _ _ _ _ _ _ _ _)) h
noncomputable def t_law17_heavy_r10 (Q : Nat → FuncId → List AV → Out) (l_law17_heavy_r10 : Nat → List AV → List AV → List AV → List AV → Int → Int → Int → Out) (l_law17_heavy_r17 : Nat → List AV → List AV → List AV → List AV → Int → Int → Int → Int → Out) (y0 y1 : List AV) (y2 y3 : List AV) (y4 y5 y6 : Int) : Out :=
 if (decide (y6 < y5)) = true then
 if 0 ≤ y6 ∧ y6 < ((List.length y1) : Int) then
  if (decide (((ByteArray.size (AV.str (y1.getD (Int.toNat y6) .u)) : Nat) : Int) > (40 : Int))) = true then
   some [(AV.b true)]
  else
   l_law17_heavy_r10 0 (y0) (y1) (y2) (y3) (y4) (y5) ((IntKind.wrap .i64 (y6 + (1 : Int))))
 else
  none
else
 l_law17_heavy_r17 4 (y0) (y1) (y2) (y3) (y4) ((0 : Int)) (((List.length y3 : Nat) : Int)) ((0 : Int))
theorem e_law17_heavy_r10 (k : Nat) (y0 y1 : List AV) (y2 y3 : List AV) (y4 y5 y6 : Int) : l_law17_heavy_r10 (k + 16) y0 y1 y2 y3 y4 y5 y6 = t_law17_heavy_r10 (fun c => callP C (callF C (k + c))) (fun c => l_law17_heavy_r10 (k + c)) (fun c => l_law17_heavy_r17 (k + c)) y0 y1 y2 y3 y4 y5 y6 := by kernel_rfl
theorem d_law17_heavy_r10 (y0 y1 : List AV) (y2 y3 : List AV) (y4 y5 y6 : Int) {o : List AV} (h : t_law17_heavy_r10 (fun _ => D) (fun _ => L_law17_heavy_r10) (fun _ => L_law17_heavy_r17) y0 y1 y2 y3 y4 y5 y6 = some o) : L_law17_heavy_r10 y0 y1 y2 y3 y4 y5 y6 = some o := Lt.fin (fun k => e_law17_heavy_r10 k y0 y1 y2 y3 y4 y5 y6) (Lt.ite (Lt.ite (Lt.ite Lt.ret (lt_law17_heavy_r10 0 _ _ _ _ _ _ _)) Lt.no) (lt_law17_heavy_r17 4 _ _ _ _ _ _ _ _)) h
noncomputable def t_items_Right (Q : Nat → FuncId → List AV → Out) (x0 x1 : List AV) (x2 x3 : List AV) (x4 : Int) (x5 : List AV) : Out :=
 (Q 1 items_usable [(AV.g [(AV.l T_api_Rule x0), (AV.l T_string x1), (AV.l T_api_Level x2), (AV.l T_api_Prod x3), (AV.i .i64 x4)])]).bind fun o1 =>
 if (AV.bool (List.headD o1 .u)) = true then
 (Q 1 slices_ContainsFunc_api_Item [(AV.l T_api_Item x5), (AV.fn items_Right_c1 [] [(AV.at T_api_Grammar (AV.g [(AV.l T_api_Rule x0), (AV.l T_string x1), (AV.l T_api_Level x2), (AV.l T_api_Prod x3), (AV.i .i64 x4)]))])]).bind fun o2 =>
  some [(AV.b (!(AV.bool (List.headD o2 .u))))]
else
 some [(AV.b false)]
theorem e_items_Right (k : Nat) (x0 x1 : List AV) (x2 x3 : List AV) (x4 : Int) (x5 : List AV) : call C (k + 5) items_Right [(AV.g [(AV.l T_api_Rule x0), (AV.l T_string x1), (AV.l T_api_Level x2), (AV.l T_api_Prod x3), (AV.i .i64 x4)]), (AV.l T_api_Item x5)] = t_items_Right (fun c => callP C (callF C (k + c))) x0 x1 x2 x3 x4 x5 := by kernel_rfl
theorem d_items_Right (x0 x1 : List AV) (x2 x3 : List AV) (x4 : Int) (x5 : List AV) {o : List AV} (h : t_items_Right (fun _ => D) x0 x1 x2 x3 x4 x5 = some o) : D items_Right [(AV.g [(AV.l T_api_Rule x0), (AV.l T_string x1), (AV.l T_api_Level x2), (AV.l T_api_Prod x3), (AV.i .i64 x4)]), (AV.l T_api_Item x5)] = some o := D_fin (by rfl) (fun k => e_items_Right k x0 x1 x2 x3 x4 x5) (Lt.bind (D_lt 1 _ _) fun o1 => (Lt.ite (Lt.bind (D_lt 1 _ _) fun o2 => Lt.ret) Lt.ret)) h
noncomputable def t_ref12_Terms_r3 (Q : Nat → FuncId → List AV → Out) (l_ref12_Terms_r3 : Nat → List AV → List AV → List AV → List AV → Int → Int → Int → Out) (y0 y1 : List AV) (y2 y3 : List AV) (y4 y5 y6 : Int) : Out :=
 if (decide (y6 < ((List.length y0 : Nat) : Int))) = true then
 if 0 ≤ y6 ∧ y6 < ((List.length y0) : Int) then
  if (!(AV.bool (AV.fld (y0.getD (Int.toNat y6) .u) 2))) = true then
   l_ref12_Terms_r3 0 (y0) (y1) (y2) (y3) (y4) ((IntKind.wrap .i64 (y5 + (1 : Int)))) ((IntKind.wrap .i64 (y6 + (1 : Int))))
  else
   l_ref12_Terms_r3 0 (y0) (y1) (y2) (y3) (y4) (y5) ((IntKind.wrap .i64 (y6 + (1 : Int))))
 else
  none
else
 some [(AV.i .i64 y5)]
theorem e_ref12_Terms_r3 (k : Nat) (y0 y1 : List AV) (y2 y3 : List AV) (y4 y5 y6 : Int) : l_ref12_Terms_r3 (k + 14) y0 y1 y2 y3 y4 y5 y6 = t_ref12_Terms_r3 (fun c => callP C (callF C (k + c))) (fun c => l_ref12_Terms_r3 (k + c)) y0 y1 y2 y3 y4 y5 y6 := by kernel_rfl
theorem d_ref12_Terms_r3 (y0 y1 : List AV) (y2 y3 : List AV) (y4 y5 y6 : Int) {o : List AV} (h : t_ref12_Terms_r3 (fun _ => D) (fun _ => L_ref12_Terms_r3) y0 y1 y2 y3 y4 y5 y6 = some o) : L_ref12_Terms_r3 y0 y1 y2 y3 y4 y5 y6 = some o := Lt.fin (fun k => e_ref12_Terms_r3 k y0 y1 y2 y3 y4 y5 y6) (Lt.ite (Lt.ite (Lt.ite (lt_ref12_Terms_r3 0 _ _ _ _ _ _ _) (lt_ref12_Terms_r3 0 _ _ _ _ _ _ _)) Lt.no) Lt.ret) h
noncomputable def t_slices_Index_string_r2 (Q : Nat → FuncId → List AV → Out) (l_slices_Index_string_r2 : Nat → List AV → ByteArray → Int → Int → Out) (y0 : List AV) (y1 : ByteArray) (y2 y3 : Int) : Out :=
 if (decide (y3 < y2)) = true then
 if 0 ≤ y3 ∧ y3 < ((List.length y0) : Int) then
  if ((ByteArray.toList y1) == (ByteArray.toList (AV.str (y0.getD (Int.toNat y3) .u)))) = true then
   some [(AV.i .i64 y3)]
  else
   l_slices_Index_string_r2 0 (y0) (y1) (y2) ((IntKind.wrap .i64 (y3 + (1 : Int))))
 else
  none
else
 some [(AV.i .i64 (-1 : Int))]
theorem e_slices_Index_string_r2 (k : Nat) (y0 : List AV) (y1 : ByteArray) (y2 y3 : Int) : l_slices_Index_string_r2 (k + 16) y0 y1 y2 y3 = t_slices_Index_string_r2 (fun c => callP C (callF C (k + c))) (fun c => l_slices_Index_string_r2 (k + c)) y0 y1 y2 y3 := by kernel_rfl
theorem d_slices_Index_string_r2 (y0 : List AV) (y1 : ByteArray) (y2 y3 : Int) {o : List AV} (h : t_slices_Index_string_r2 (fun _ => D) (fun _ => L_slices_Index_string_r2) y0 y1 y2 y3 = some o) : L_slices_Index_string_r2 y0 y1 y2 y3 = some o := Lt.fin (fun k => e_slices_Index_string_r2 k y0 y1 y2 y3) (Lt.ite (Lt.ite (Lt.ite Lt.ret (lt_slices_Index_string_r2 0 _ _ _ _)) Lt.no) Lt.ret) h
noncomputable def t_check_names (Q : Nat → FuncId → List AV → Out) (l_check_names_r3 : Nat → List AV → List AV → List AV → List AV → Int → List AV → List AV → Int → Int → Out) (x0 x1 : List AV) (x2 x3 : List AV) (x4 : Int) : Out :=
 l_check_names_r3 0 (x0) (x1) (x2) (x3) (x4) (([] : List AV)) (x0) (((List.length x0 : Nat) : Int)) ((0 : Int))
theorem e_check_names (k : Nat) (x0 x1 : List AV) (x2 x3 : List AV) (x4 : Int) : call C (k + 11) check_names [(AV.g [(AV.l T_api_Rule x0), (AV.l T_string x1), (AV.l T_api_Level x2), (AV.l T_api_Prod x3), (AV.i .i64 x4)])] = t_check_names (fun c => callP C (callF C (k + c))) (fun c => l_check_names_r3 (k + c)) x0 x1 x2 x3 x4 := by kernel_rfl
theorem d_check_names (x0 x1 : List AV) (x2 x3 : List AV) (x4 : Int) {o : List AV} (h : t_check_names (fun _ => D) (fun _ => L_check_names_r3) x0 x1 x2 x3 x4 = some o) : D check_names [(AV.g [(AV.l T_api_Rule x0), (AV.l T_string x1), (AV.l T_api_Level x2), (AV.l T_api_Prod x3), (AV.i .i64 x4)])] = some o := D_fin (by rfl) (fun k => e_check_names k x0 x1 x2 x3 x4) (lt_check_names_r3 0 _ _ _ _ _ _ _ _ _) h
noncomputable def t_ref13_names (Q : Nat → FuncId → List AV → Out) (l_ref13_names_r3 : Nat → List AV → List AV → List AV → List AV → Int → List AV → Int → Out) (x0 x1 : List AV) (x2 x3 : List AV) (x4 : Int) : Out :=
 l_ref13_names_r3 0 (x0) (x1) (x2) (x3) (x4) (([] : List AV)) ((0 : Int))
theorem e_ref13_names (k : Nat) (x0 x1 : List AV) (x2 x3 : List AV) (x4 : Int) : call C (k + 12) ref13_names [(AV.g [(AV.l T_api_Rule x0), (AV.l T_string x1), (AV.l T_api_Level x2), (AV.l T_api_Prod x3), (AV.i .i64 x4)])] = t_ref13_names (fun c => callP C (callF C (k + c))) (fun c => l_ref13_names_r3 (k + c)) x0 x1 x2 x3 x4 := by kernel_rfl
theorem d_ref13_names (x0 x1 : List AV) (x2 x3 : List AV) (x4 : Int) {o : List AV} (h : t_ref13_names (fun _ => D) (fun _ => L_ref13_names_r3) x0 x1 x2 x3 x4 = some o) : D ref13_names [(AV.g [(AV.l T_api_Rule x0), (AV.l T_string x1), (AV.l T_api_Level x2), (AV.l T_api_Prod x3), (AV.i .i64 x4)])] = some o := D_fin (by rfl) (fun k => e_ref13_names k x0 x1 x2 x3 x4) (lt_ref13_names_r3 0 _ _ _ _ _ _ _) h
noncomputable def t_ref11_Letter (Q : Nat → FuncId → List AV → Out) (x0 : Int) : Out :=
 if (x0 == (95 : Int)) = false then
 if (decide (x0 ≥ (65 : Int))) = true then
  if (decide (x0 ≤ (90 : Int))) = false then
   if (decide (x0 ≥ (97 : Int))) = true then
    some [(AV.b (decide (x0 ≤ (122 : Int))))]
   else
    some [(AV.b false)]
  else
   some [(AV.b true)]
 else
  if (decide (x0 ≥ (97 : Int))) = true then
   some [(AV.b (decide (x0 ≤ (122 : Int))))]
  else
   some [(AV.b false)]
else
 some [(AV.b true)]
theorem e_ref11_Letter (k : Nat) (x0 : Int) : call C (k + 5) ref11_Letter [(AV.i .u8 x0)] = t_ref11_Letter (fun c => callP C (callF C (k + c))) x0 := by kernel_rfl
theorem d_ref11_Letter (x0 : Int) {o : List AV} (h : t_ref11_Letter (fun _ => D) x0 = some o) : D ref11_Letter [(AV.i .u8 x0)] = some o := D_fin (by rfl) (fun k => e_ref11_Letter k x0) (Lt.ite (Lt.ite (Lt.ite (Lt.ite Lt.ret Lt.ret) Lt.ret) (Lt.ite Lt.ret Lt.ret)) Lt.ret) h
noncomputable def t_word_rule (Q : Nat → FuncId → List AV → Out) (l_word_rule_r4 : Nat → ByteArray → Int → Out) (x0 : ByteArray) : Out :=
 if 0 ≤ (0 : Int) ∧ (0 : Int) < ((ByteArray.size x0 : Nat) : Int) then
 if (((((x0).data.getD 0 0).toNat : Nat) : Int) != (47 : Int)) = true then
  some [(AV.i .i64 (0 : Int))]
 else
  l_word_rule_r4 0 (x0) ((1 : Int))
else
 none
theorem e_word_rule (k : Nat) (x0 : ByteArray) : call C (k + 15) word_rule [(AV.s x0)] = t_word_rule (fun c => callP C (callF C (k + c))) (fun c => l_word_rule_r4 (k + c)) x0 := by kernel_rfl
theorem d_word_rule (x0 : ByteArray) {o : List AV} (h : t_word_rule (fun _ => D) (fun _ => L_word_rule_r4) x0 = some o) : D word_rule [(AV.s x0)] = some o := D_fin (by rfl) (fun k => e_word_rule k x0) (Lt.ite (Lt.ite Lt.ret (lt_word_rule_r4 0 _ _)) Lt.no) h
noncomputable def t_cmp_Or_int (Q : Nat → FuncId → List AV → Out) (l_cmp_Or_int_r3 : Nat → Int → List AV → Int → Int → Out) (x0 : List AV) : Out :=
 l_cmp_Or_int_r3 0 ((0 : Int)) (x0) (((List.length x0 : Nat) : Int)) ((0 : Int))
theorem e_cmp_Or_int (k : Nat) (x0 : List AV) : call C (k + 11) cmp_Or_int [(AV.l T_int x0)] = t_cmp_Or_int (fun c => callP C (callF C (k + c))) (fun c => l_cmp_Or_int_r3 (k + c)) x0 := by kernel_rfl
theorem d_cmp_Or_int (x0 : List AV) {o : List AV} (h : t_cmp_Or_int (fun _ => D) (fun _ => L_cmp_Or_int_r3) x0 = some o) : D cmp_Or_int [(AV.l T_int x0)] = some o := D_fin (by rfl) (fun k => e_cmp_Or_int k x0) (lt_cmp_Or_int_r3 0 _ _ _ _) h
end Go.Proofs.YteklakapimggeaaGreatDoor.Den
