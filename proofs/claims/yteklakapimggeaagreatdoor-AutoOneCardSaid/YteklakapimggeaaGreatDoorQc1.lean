/- Proved here: a part of the proof, told one step at a time: DenEq3, DenEq4. No condition but those each theorem names. -/
import Derived.Test.YteklakapimggeaaGreatDoorQa1
namespace Go.Proofs.YteklakapimggeaaGreatDoor.Den
open Go Go.Proofs
set_option linter.unusedVariables false
noncomputable def t_auto_Build_r15 (Q : Nat → FuncId → List AV → Out) (l_auto_Build_r15 : Nat → List AV → List AV → List AV → List AV → Int → Int → List AV → List AV → Int → List AV → List AV → List AV → Int → Out) (l_auto_Build_r8 : Nat → List AV → List AV → List AV → List AV → Int → Int → List AV → List AV → Int → Out) (y0 y1 : List AV) (y2 y3 : List AV) (y4 y5 : Int) (y6 y7 : List AV) (y8 : Int) (y9 y10 y11 : List AV) (y12 : Int) : Out :=
 if (decide (y12 < y5)) = true then
 if 0 ≤ y12 ∧ y12 < ((List.length y9) : Int) then
  if 0 ≤ y12 ∧ y12 < ((List.length y11) : Int) then
   if (!(AV.bool (y11.getD (Int.toNat y12) .u))) = true then
    l_auto_Build_r15 15 (y0) (y1) (y2) (y3) (y4) (y5) (y6) (((unM (AV.l T_map_string_int y7)).map fun q => AV.g [q.1, q.2])) (y8) ((y9.set (Int.toNat y12) (AV.i .i64 (-1 : Int)))) (y10) (y11) ((IntKind.wrap .i64 (y12 + (1 : Int))))
   else
    (Q 18 items_Goto [(AV.g [(AV.l T_api_Rule y0), (AV.l T_string y1), (AV.l T_api_Level y2), (AV.l T_api_Prod y3), (AV.i .i64 y4)]), (AV.l T_api_Item y10), (AV.i .i64 y12)]).bind fun o1 =>
     (Q 16 auto_key [(AV.l T_api_Item (AV.list (List.headD o1 .u)))]).bind fun o2 =>
     if (hasM (AV.s (AV.str (List.headD o2 .u))) (unM (AV.l T_map_string_int y7))) = true then
     if 0 ≤ y12 ∧ y12 < ((List.length (y9.set (Int.toNat y12) (AV.i .i64 (-1 : Int)))) : Int) then
      l_auto_Build_r15 4 (y0) (y1) (y2) (y3) (y4) (y5) (y6) (((unM (AV.l T_map_string_int y7)).map fun q => AV.g [q.1, q.2])) (y8) (((y9.set (Int.toNat y12) (AV.i .i64 (-1 : Int))).set (Int.toNat y12) (AV.i .i64 (AV.int (getM (AV.s (AV.str (List.headD o2 .u))) (unM (AV.l T_map_string_int y7))))))) (y10) (y11) ((IntKind.wrap .i64 (y12 + (1 : Int))))
     else
      none
    else
     (Q 8 auto_key [(AV.l T_api_Item (AV.list (List.headD o1 .u)))]).bind fun o3 =>
      if (List.length y6) + (List.length [(AV.g [(AV.l T_api_Item (AV.list (List.headD o1 .u))), (AV.l T_int ([] : List AV))])]) ≤ 16777216 ∧ (false && false) = false then
      if 0 ≤ y12 ∧ y12 < ((List.length (y9.set (Int.toNat y12) (AV.i .i64 (-1 : Int)))) : Int) then
       l_auto_Build_r15 0 (y0) (y1) (y2) (y3) (y4) (y5) ((y6 ++ [(AV.g [(AV.l T_api_Item (AV.list (List.headD o1 .u))), (AV.l T_int ([] : List AV))])])) (((putM (AV.s (AV.str (List.headD o3 .u))) (AV.i .i64 ((List.length y6 : Nat) : Int)) (unM (AV.l T_map_string_int y7))).map fun q => AV.g [q.1, q.2])) (y8) (((y9.set (Int.toNat y12) (AV.i .i64 (-1 : Int))).set (Int.toNat y12) (AV.i .i64 ((List.length y6 : Nat) : Int)))) (y10) (y11) ((IntKind.wrap .i64 (y12 + (1 : Int))))
      else
       none
     else
      none
  else
   none
 else
  none
else
 if 0 ≤ y8 ∧ y8 < ((List.length y6) : Int) then
  if (decide (((List.length (y6.set (Int.toNat y8) (AV.g [(AV.l T_api_Item (AV.list (AV.fld (y6.getD (Int.toNat y8) .u) 0))), (AV.l T_int y9)])) : Nat) : Int) > (240 : Int))) = true then
   some [(AV.l T_api_State ([] : List AV)), (AV.i .i64 (3 : Int))]
  else
   l_auto_Build_r8 17 (y0) (y1) (y2) (y3) (y4) (y5) ((y6.set (Int.toNat y8) (AV.g [(AV.l T_api_Item (AV.list (AV.fld (y6.getD (Int.toNat y8) .u) 0))), (AV.l T_int y9)]))) (((unM (AV.l T_map_string_int y7)).map fun q => AV.g [q.1, q.2])) ((IntKind.wrap .i64 (y8 + (1 : Int))))
 else
  none
theorem e_auto_Build_r15 (k : Nat) (y0 y1 : List AV) (y2 y3 : List AV) (y4 y5 : Int) (y6 y7 : List AV) (y8 : Int) (y9 y10 y11 : List AV) (y12 : Int) : l_auto_Build_r15 (k + 31) y0 y1 y2 y3 y4 y5 y6 y7 y8 y9 y10 y11 y12 = t_auto_Build_r15 (fun c => callP C (callF C (k + c))) (fun c => l_auto_Build_r15 (k + c)) (fun c => l_auto_Build_r8 (k + c)) y0 y1 y2 y3 y4 y5 y6 y7 y8 y9 y10 y11 y12 := by kernel_rfl
theorem d_auto_Build_r15 (y0 y1 : List AV) (y2 y3 : List AV) (y4 y5 : Int) (y6 y7 : List AV) (y8 : Int) (y9 y10 y11 : List AV) (y12 : Int) {o : List AV} (h : t_auto_Build_r15 (fun _ => D) (fun _ => L_auto_Build_r15) (fun _ => L_auto_Build_r8) y0 y1 y2 y3 y4 y5 y6 y7 y8 y9 y10 y11 y12 = some o) : L_auto_Build_r15 y0 y1 y2 y3 y4 y5 y6 y7 y8 y9 y10 y11 y12 = some o := Lt.fin (fun k => e_auto_Build_r15 k y0 y1 y2 y3 y4 y5 y6 y7 y8 y9 y10 y11 y12) (Lt.ite (Lt.ite (Lt.ite (Lt.ite (lt_auto_Build_r15 15 _ _ _ _ _ _ _ _ _ _ _ _ _) (Lt.bind (D_lt 18 _ _) fun o1 => (Lt.bind (D_lt 16 _ _) fun o2 => (Lt.ite (Lt.ite (lt_auto_Build_r15 4 _ _ _ _ _ _ _ _ _ _ _ _ _) Lt.no) (Lt.bind (D_lt 8 _ _) fun o3 => (Lt.ite (Lt.ite (lt_auto_Build_r15 0 _ _ _ _ _ _ _ _ _ _ _ _ _) Lt.no) Lt.no)))))) Lt.no) Lt.no) (Lt.ite (Lt.ite Lt.ret (lt_auto_Build_r8 17 _ _ _ _ _ _ _ _ _)) Lt.no)) h
noncomputable def t_ref16_Closure_r12 (Q : Nat → FuncId → List AV → Out) (l_ref16_Closure_r7 : Nat → List AV → List AV → List AV → List AV → Int → List AV → Bool → Int → Out) (l_ref16_Closure_r12 : Nat → List AV → List AV → List AV → List AV → Int → Int → Int → List AV → Bool → Int → Int → Out) (y0 y1 : List AV) (y2 y3 : List AV) (y4 y5 y6 : Int) (y7 : List AV) (y8 : Bool) (y9 y10 : Int) : Out :=
 if (decide (y10 < ((List.length y7 : Nat) : Int))) = true then
 if 0 ≤ y10 ∧ y10 < ((List.length y7) : Int) then
  (Q 12 ref16_Next [(AV.g [(AV.l T_api_Rule y0), (AV.l T_string y1), (AV.l T_api_Level y2), (AV.l T_api_Prod y3), (AV.i .i64 y4)]), (AV.g [(AV.i .i64 (AV.int (AV.fld (y7.getD (Int.toNat y10) .u) 0))), (AV.i .i64 (AV.int (AV.fld (y7.getD (Int.toNat y10) .u) 1)))])]).bind fun o1 =>
   if 0 ≤ y9 ∧ y9 < ((List.length y3) : Int) then
   if ((AV.int (List.headD o1 .u)) == (AV.int (AV.fld (y3.getD (Int.toNat y9) .u) 0))) = true then
    if (List.length y7) + (List.length [(AV.g [(AV.i .i64 y5), (AV.i .i64 y6)])]) ≤ 16777216 ∧ (false && false) = false then
     l_ref16_Closure_r7 0 (y0) (y1) (y2) (y3) (y4) ((y7 ++ [(AV.g [(AV.i .i64 y5), (AV.i .i64 y6)])])) (true) ((IntKind.wrap .i64 (y9 + (1 : Int))))
    else
     none
   else
    l_ref16_Closure_r12 4 (y0) (y1) (y2) (y3) (y4) (y5) (y6) (y7) (y8) (y9) ((IntKind.wrap .i64 (y10 + (1 : Int))))
  else
   none
 else
  none
else
 l_ref16_Closure_r7 10 (y0) (y1) (y2) (y3) (y4) (y7) (y8) ((IntKind.wrap .i64 (y9 + (1 : Int))))
theorem e_ref16_Closure_r12 (k : Nat) (y0 y1 : List AV) (y2 y3 : List AV) (y4 y5 y6 : Int) (y7 : List AV) (y8 : Bool) (y9 y10 : Int) : l_ref16_Closure_r12 (k + 18) y0 y1 y2 y3 y4 y5 y6 y7 y8 y9 y10 = t_ref16_Closure_r12 (fun c => callP C (callF C (k + c))) (fun c => l_ref16_Closure_r7 (k + c)) (fun c => l_ref16_Closure_r12 (k + c)) y0 y1 y2 y3 y4 y5 y6 y7 y8 y9 y10 := by kernel_rfl
theorem d_ref16_Closure_r12 (y0 y1 : List AV) (y2 y3 : List AV) (y4 y5 y6 : Int) (y7 : List AV) (y8 : Bool) (y9 y10 : Int) {o : List AV} (h : t_ref16_Closure_r12 (fun _ => D) (fun _ => L_ref16_Closure_r7) (fun _ => L_ref16_Closure_r12) y0 y1 y2 y3 y4 y5 y6 y7 y8 y9 y10 = some o) : L_ref16_Closure_r12 y0 y1 y2 y3 y4 y5 y6 y7 y8 y9 y10 = some o := Lt.fin (fun k => e_ref16_Closure_r12 k y0 y1 y2 y3 y4 y5 y6 y7 y8 y9 y10) (Lt.ite (Lt.ite (Lt.bind (D_lt 12 _ _) fun o1 => (Lt.ite (Lt.ite (Lt.ite (lt_ref16_Closure_r7 0 _ _ _ _ _ _ _ _) Lt.no) (lt_ref16_Closure_r12 4 _ _ _ _ _ _ _ _ _ _ _)) Lt.no)) Lt.no) (lt_ref16_Closure_r7 10 _ _ _ _ _ _ _ _)) h
noncomputable def t_ref04_Order_r2 (Q : Nat → FuncId → List AV → Out) (l_ref04_Order_r2 : Nat → List AV → List AV → Int → Out) (y0 y1 : List AV) (y2 : Int) : Out :=
 if (decide (y2 < ((List.length y0 : Nat) : Int))) = true then
 if (decide (y2 < ((List.length y1 : Nat) : Int))) = true then
  if 0 ≤ y2 ∧ y2 < ((List.length y0) : Int) then
   if 0 ≤ y2 ∧ y2 < ((List.length y1) : Int) then
    if (decide ((AV.int (y0.getD (Int.toNat y2) .u)) < (AV.int (y1.getD (Int.toNat y2) .u)))) = true then
     some [(AV.i .i64 (-1 : Int))]
    else
     if 0 ≤ y2 ∧ y2 < ((List.length y0) : Int) then
      if 0 ≤ y2 ∧ y2 < ((List.length y1) : Int) then
       if (decide ((AV.int (y0.getD (Int.toNat y2) .u)) > (AV.int (y1.getD (Int.toNat y2) .u)))) = true then
        some [(AV.i .i64 (1 : Int))]
       else
        l_ref04_Order_r2 0 (y0) (y1) ((IntKind.wrap .i64 (y2 + (1 : Int))))
      else
       none
     else
      none
   else
    none
  else
   none
 else
  if (decide (((List.length y0 : Nat) : Int) < ((List.length y1 : Nat) : Int))) = true then
   some [(AV.i .i64 (-1 : Int))]
  else
   if (decide (((List.length y0 : Nat) : Int) > ((List.length y1 : Nat) : Int))) = true then
    some [(AV.i .i64 (1 : Int))]
   else
    some [(AV.i .i64 (0 : Int))]
else
 if (decide (((List.length y0 : Nat) : Int) < ((List.length y1 : Nat) : Int))) = true then
  some [(AV.i .i64 (-1 : Int))]
 else
  if (decide (((List.length y0 : Nat) : Int) > ((List.length y1 : Nat) : Int))) = true then
   some [(AV.i .i64 (1 : Int))]
  else
   some [(AV.i .i64 (0 : Int))]
theorem e_ref04_Order_r2 (k : Nat) (y0 y1 : List AV) (y2 : Int) : l_ref04_Order_r2 (k + 19) y0 y1 y2 = t_ref04_Order_r2 (fun c => callP C (callF C (k + c))) (fun c => l_ref04_Order_r2 (k + c)) y0 y1 y2 := by kernel_rfl
theorem d_ref04_Order_r2 (y0 y1 : List AV) (y2 : Int) {o : List AV} (h : t_ref04_Order_r2 (fun _ => D) (fun _ => L_ref04_Order_r2) y0 y1 y2 = some o) : L_ref04_Order_r2 y0 y1 y2 = some o := Lt.fin (fun k => e_ref04_Order_r2 k y0 y1 y2) (Lt.ite (Lt.ite (Lt.ite (Lt.ite (Lt.ite Lt.ret (Lt.ite (Lt.ite (Lt.ite Lt.ret (lt_ref04_Order_r2 0 _ _ _)) Lt.no) Lt.no)) Lt.no) Lt.no) (Lt.ite Lt.ret (Lt.ite Lt.ret Lt.ret))) (Lt.ite Lt.ret (Lt.ite Lt.ret Lt.ret))) h
noncomputable def t_auto_Build (Q : Nat → FuncId → List AV → Out) (l_auto_Build_r8 : Nat → List AV → List AV → List AV → List AV → Int → Int → List AV → List AV → Int → Out) (x0 x1 : List AV) (x2 x3 : List AV) (x4 : Int) : Out :=
 (Q 16 items_Right [(AV.g [(AV.l T_api_Rule x0), (AV.l T_string x1), (AV.l T_api_Level x2), (AV.l T_api_Prod x3), (AV.i .i64 x4)]), (AV.l T_api_Item [(AV.g [(AV.i .i64 (-1 : Int)), (AV.i .i64 (0 : Int))])])]).bind fun o1 =>
 if (!(AV.bool (List.headD o1 .u))) = true then
 some [(AV.l T_api_State ([] : List AV)), (AV.i .i64 (10 : Int))]
else
 (Q 12 gram_Terms [(AV.g [(AV.l T_api_Rule x0), (AV.l T_string x1), (AV.l T_api_Level x2), (AV.l T_api_Prod x3), (AV.i .i64 x4)])]).bind fun o2 =>
  (Q 8 auto_key [(AV.l T_api_Item [(AV.g [(AV.i .i64 (-1 : Int)), (AV.i .i64 (0 : Int))])])]).bind fun o3 =>
  l_auto_Build_r8 0 (x0) (x1) (x2) (x3) (x4) ((IntKind.wrap .i64 ((IntKind.wrap .i64 ((AV.int (List.headD o2 .u)) + ((List.length x1 : Nat) : Int))) + (1 : Int)))) ([(AV.g [(AV.l T_api_Item [(AV.g [(AV.i .i64 (-1 : Int)), (AV.i .i64 (0 : Int))])]), (AV.l T_int ([] : List AV))])]) (((putM (AV.s (AV.str (List.headD o3 .u))) (AV.i .i64 (0 : Int)) ([] : List (AV × AV))).map fun q => AV.g [q.1, q.2])) ((0 : Int))
theorem e_auto_Build (k : Nat) (x0 x1 : List AV) (x2 x3 : List AV) (x4 : Int) : call C (k + 23) auto_Build [(AV.g [(AV.l T_api_Rule x0), (AV.l T_string x1), (AV.l T_api_Level x2), (AV.l T_api_Prod x3), (AV.i .i64 x4)])] = t_auto_Build (fun c => callP C (callF C (k + c))) (fun c => l_auto_Build_r8 (k + c)) x0 x1 x2 x3 x4 := by kernel_rfl
theorem d_auto_Build (x0 x1 : List AV) (x2 x3 : List AV) (x4 : Int) {o : List AV} (h : t_auto_Build (fun _ => D) (fun _ => L_auto_Build_r8) x0 x1 x2 x3 x4 = some o) : D auto_Build [(AV.g [(AV.l T_api_Rule x0), (AV.l T_string x1), (AV.l T_api_Level x2), (AV.l T_api_Prod x3), (AV.i .i64 x4)])] = some o := D_fin (by rfl) (fun k => e_auto_Build k x0 x1 x2 x3 x4) (Lt.bind (D_lt 16 _ _) fun o1 => (Lt.ite Lt.ret (Lt.bind (D_lt 12 _ _) fun o2 => (Lt.bind (D_lt 8 _ _) fun o3 => (lt_auto_Build_r8 0 _ _ _ _ _ _ _ _ _))))) h
noncomputable def t_ref06_Right_r5 (Q : Nat → FuncId → List AV → Out) (l_ref06_Right_r5 : Nat → List AV → Int → Int → Out) (y0 : List AV) (y1 y2 : Int) : Out :=
 if (decide (y2 < ((List.length y0 : Nat) : Int))) = true then
 if 0 ≤ y2 ∧ y2 < ((List.length y0) : Int) then
  (Q 14 ref06_Wants [(AV.i .i64 (AV.int (AV.fld (y0.getD (Int.toNat y2) .u) 0)))]).bind fun o1 =>
   if 0 ≤ y2 ∧ y2 < ((List.length y0) : Int) then
   if (decide ((AV.int (List.headD o1 .u)) < (0 : Int))) = false then
    if (decide (y1 < (AV.int (List.headD o1 .u)))) = false then
     if 0 ≤ y2 ∧ y2 < ((List.length y0) : Int) then
      if ((((AV.int (AV.fld (AV.fld (y0.getD (Int.toNat y2) .u) 1) 0)) == (0 : Int)) && (((AV.int (AV.fld (AV.fld (y0.getD (Int.toNat y2) .u) 1) 1)) == (0 : Int)) && (((AV.int (AV.fld (AV.fld (y0.getD (Int.toNat y2) .u) 1) 2)) == (0 : Int)) && (((AV.int (AV.fld (AV.fld (y0.getD (Int.toNat y2) .u) 1) 3)) == (0 : Int)) && true)))) == ((AV.int (AV.fld (y0.getD (Int.toNat y2) .u) 0)) == (1 : Int))) = true then
       some [(AV.b false)]
      else
       l_ref06_Right_r5 0 (y0) ((IntKind.wrap .i64 ((IntKind.wrap .i64 (y1 - (AV.int (List.headD o1 .u)))) + (1 : Int)))) ((IntKind.wrap .i64 (y2 + (1 : Int))))
     else
      none
    else
     some [(AV.b false)]
   else
    some [(AV.b false)]
  else
   none
 else
  none
else
 some [(AV.b (y1 == (1 : Int)))]
theorem e_ref06_Right_r5 (k : Nat) (y0 : List AV) (y1 y2 : Int) : l_ref06_Right_r5 (k + 20) y0 y1 y2 = t_ref06_Right_r5 (fun c => callP C (callF C (k + c))) (fun c => l_ref06_Right_r5 (k + c)) y0 y1 y2 := by kernel_rfl
theorem d_ref06_Right_r5 (y0 : List AV) (y1 y2 : Int) {o : List AV} (h : t_ref06_Right_r5 (fun _ => D) (fun _ => L_ref06_Right_r5) y0 y1 y2 = some o) : L_ref06_Right_r5 y0 y1 y2 = some o := Lt.fin (fun k => e_ref06_Right_r5 k y0 y1 y2) (Lt.ite (Lt.ite (Lt.bind (D_lt 14 _ _) fun o1 => (Lt.ite (Lt.ite (Lt.ite (Lt.ite (Lt.ite Lt.ret (lt_ref06_Right_r5 0 _ _ _)) Lt.no) Lt.ret) Lt.ret) Lt.no)) Lt.no) Lt.ret) h
noncomputable def t_check_named (Q : Nat → FuncId → List AV → Out) (x0 : ByteArray) : Out :=
 (Q 7 slices_Contains_string [(AV.l T_string [(AV.s ⟨#[116, 111, 107, 101, 110]⟩), (AV.s ⟨#[115, 107, 105, 112]⟩), (AV.s ⟨#[108, 101, 102, 116]⟩), (AV.s ⟨#[114, 105, 103, 104, 116]⟩), (AV.s ⟨#[110, 111, 110, 101]⟩), (AV.s ⟨#[115, 116, 97, 114, 116]⟩)]), (AV.s x0)]).bind fun o1 =>
 if (AV.bool (List.headD o1 .u)) = true then
 some [(AV.b false)]
else
 (Q 3 word_All [(AV.s x0)]).bind fun o2 =>
  if ((AV.int (List.headD (List.tail (List.tail o2)) .u)) == (0 : Int)) = true then
  if (((List.length (AV.list (List.headD o2 .u)) : Nat) : Int) == (1 : Int)) = true then
   if 0 ≤ (0 : Int) ∧ (0 : Int) < ((List.length (AV.list (List.headD o2 .u))) : Int) then
    if ((AV.int (AV.fld ((AV.list (List.headD o2 .u)).getD 0 .u) 0)) == (1 : Int)) = true then
     if 0 ≤ (0 : Int) ∧ (0 : Int) < ((List.length (AV.list (List.headD o2 .u))) : Int) then
      some [(AV.b ((ByteArray.toList (AV.str (AV.fld ((AV.list (List.headD o2 .u)).getD 0 .u) 2))) == (ByteArray.toList x0)))]
     else
      none
    else
     some [(AV.b false)]
   else
    none
  else
   some [(AV.b false)]
 else
  some [(AV.b false)]
theorem e_check_named (k : Nat) (x0 : ByteArray) : call C (k + 12) check_named [(AV.s x0)] = t_check_named (fun c => callP C (callF C (k + c))) x0 := by kernel_rfl
theorem d_check_named (x0 : ByteArray) {o : List AV} (h : t_check_named (fun _ => D) x0 = some o) : D check_named [(AV.s x0)] = some o := D_fin (by rfl) (fun k => e_check_named k x0) (Lt.bind (D_lt 7 _ _) fun o1 => (Lt.ite Lt.ret (Lt.bind (D_lt 3 _ _) fun o2 => (Lt.ite (Lt.ite (Lt.ite (Lt.ite (Lt.ite Lt.ret Lt.no) Lt.ret) Lt.no) Lt.ret) Lt.ret)))) h
noncomputable def t_ref17_Build_r9 (Q : Nat → FuncId → List AV → Out) (l_ref17_Build_r14 : Nat → List AV → List AV → List AV → List AV → Int → Int → List AV → Int → List AV → Int → Out) (y0 y1 : List AV) (y2 y3 : List AV) (y4 y5 : Int) (y6 : List AV) (y7 : Int) : Out :=
 if (decide (y7 < ((List.length y6 : Nat) : Int))) = true then
 if 0 ≤ y5 ∧ y5 ≤ y5 ∧ y5 ≤ 16777216 then
  if 0 ≤ (0 : Int) ∧ (0 : Int) < ((List.length (List.replicate (Int.toNat y5) (AV.i .i64 (0 : Int)))) : Int) then
   l_ref17_Build_r14 0 (y0) (y1) (y2) (y3) (y4) (y5) (y6) (y7) (((List.replicate (Int.toNat y5) (AV.i .i64 (0 : Int))).set 0 (AV.i .i64 (-1 : Int)))) ((1 : Int))
  else
   none
 else
  none
else
 some [(AV.l T_api_State y6), (AV.i .i64 (0 : Int))]
theorem e_ref17_Build_r9 (k : Nat) (y0 y1 : List AV) (y2 y3 : List AV) (y4 y5 : Int) (y6 : List AV) (y7 : Int) : l_ref17_Build_r9 (k + 16) y0 y1 y2 y3 y4 y5 y6 y7 = t_ref17_Build_r9 (fun c => callP C (callF C (k + c))) (fun c => l_ref17_Build_r14 (k + c)) y0 y1 y2 y3 y4 y5 y6 y7 := by kernel_rfl
theorem d_ref17_Build_r9 (y0 y1 : List AV) (y2 y3 : List AV) (y4 y5 : Int) (y6 : List AV) (y7 : Int) {o : List AV} (h : t_ref17_Build_r9 (fun _ => D) (fun _ => L_ref17_Build_r14) y0 y1 y2 y3 y4 y5 y6 y7 = some o) : L_ref17_Build_r9 y0 y1 y2 y3 y4 y5 y6 y7 = some o := Lt.fin (fun k => e_ref17_Build_r9 k y0 y1 y2 y3 y4 y5 y6 y7) (Lt.ite (Lt.ite (Lt.ite (lt_ref17_Build_r14 0 _ _ _ _ _ _ _ _ _ _) Lt.no) Lt.no) Lt.ret) h
noncomputable def t_slices_IndexFunc_int_check_Sound_c2_r2 (Q : Nat → FuncId → List AV → Out) (l_slices_IndexFunc_int_check_Sound_c2_r2 : Nat → List AV → Int → Int → Int → Out) (y0 : List AV) (y1 y2 y3 : Int) : Out :=
 if (decide (y3 < y2)) = true then
 if 0 ≤ y3 ∧ y3 < ((List.length y0) : Int) then
  if (decide ((AV.int (y0.getD (Int.toNat y3) .u)) < (1 : Int))) = false then
   if (decide ((AV.int (y0.getD (Int.toNat y3) .u)) > y1)) = true then
    some [(AV.i .i64 y3)]
   else
    l_slices_IndexFunc_int_check_Sound_c2_r2 0 (y0) (y1) (y2) ((IntKind.wrap .i64 (y3 + (1 : Int))))
  else
   some [(AV.i .i64 y3)]
 else
  none
else
 some [(AV.i .i64 (-1 : Int))]
theorem e_slices_IndexFunc_int_check_Sound_c2_r2 (k : Nat) (y0 : List AV) (y1 y2 y3 : Int) : l_slices_IndexFunc_int_check_Sound_c2_r2 (k + 16) y0 y1 y2 y3 = t_slices_IndexFunc_int_check_Sound_c2_r2 (fun c => callP C (callF C (k + c))) (fun c => l_slices_IndexFunc_int_check_Sound_c2_r2 (k + c)) y0 y1 y2 y3 := by kernel_rfl
theorem d_slices_IndexFunc_int_check_Sound_c2_r2 (y0 : List AV) (y1 y2 y3 : Int) {o : List AV} (h : t_slices_IndexFunc_int_check_Sound_c2_r2 (fun _ => D) (fun _ => L_slices_IndexFunc_int_check_Sound_c2_r2) y0 y1 y2 y3 = some o) : L_slices_IndexFunc_int_check_Sound_c2_r2 y0 y1 y2 y3 = some o := Lt.fin (fun k => e_slices_IndexFunc_int_check_Sound_c2_r2 k y0 y1 y2 y3) (Lt.ite (Lt.ite (Lt.ite (Lt.ite Lt.ret (lt_slices_IndexFunc_int_check_Sound_c2_r2 0 _ _ _ _)) Lt.ret) Lt.no) Lt.ret) h
noncomputable def t_ref16_Closure (Q : Nat → FuncId → List AV → Out) (l_ref16_Closure_r4 : Nat → List AV → List AV → List AV → List AV → Int → List AV → Bool → Out) (x0 x1 : List AV) (x2 x3 : List AV) (x4 : Int) (x5 : List AV) : Out :=
 if (List.length ([] : List AV)) + (List.length x5) ≤ 16777216 ∧ (false && false) = false then
 l_ref16_Closure_r4 0 (x0) (x1) (x2) (x3) (x4) ((([] : List AV) ++ x5)) (true)
else
 none
theorem e_ref16_Closure (k : Nat) (x0 x1 : List AV) (x2 x3 : List AV) (x4 : Int) (x5 : List AV) : call C (k + 14) ref16_Closure [(AV.g [(AV.l T_api_Rule x0), (AV.l T_string x1), (AV.l T_api_Level x2), (AV.l T_api_Prod x3), (AV.i .i64 x4)]), (AV.l T_api_Item x5)] = t_ref16_Closure (fun c => callP C (callF C (k + c))) (fun c => l_ref16_Closure_r4 (k + c)) x0 x1 x2 x3 x4 x5 := by kernel_rfl
theorem d_ref16_Closure (x0 x1 : List AV) (x2 x3 : List AV) (x4 : Int) (x5 : List AV) {o : List AV} (h : t_ref16_Closure (fun _ => D) (fun _ => L_ref16_Closure_r4) x0 x1 x2 x3 x4 x5 = some o) : D ref16_Closure [(AV.g [(AV.l T_api_Rule x0), (AV.l T_string x1), (AV.l T_api_Level x2), (AV.l T_api_Prod x3), (AV.i .i64 x4)]), (AV.l T_api_Item x5)] = some o := D_fin (by rfl) (fun k => e_ref16_Closure k x0 x1 x2 x3 x4 x5) (Lt.ite (lt_ref16_Closure_r4 0 _ _ _ _ _ _ _) Lt.no) h
noncomputable def t_ref16_Usable (Q : Nat → FuncId → List AV → Out) (x0 x1 : List AV) (x2 x3 : List AV) (x4 : Int) : Out :=
 if (decide (((List.length x1 : Nat) : Int) > (0 : Int))) = true then
 (Q 1 ref13_Sound [(AV.g [(AV.l T_api_Rule x0), (AV.l T_string x1), (AV.l T_api_Level x2), (AV.l T_api_Prod x3), (AV.i .i64 x4)])]).bind fun o1 =>
  some [(AV.b (AV.bool (List.headD o1 .u)))]
else
 some [(AV.b false)]
theorem e_ref16_Usable (k : Nat) (x0 x1 : List AV) (x2 x3 : List AV) (x4 : Int) : call C (k + 5) ref16_Usable [(AV.g [(AV.l T_api_Rule x0), (AV.l T_string x1), (AV.l T_api_Level x2), (AV.l T_api_Prod x3), (AV.i .i64 x4)])] = t_ref16_Usable (fun c => callP C (callF C (k + c))) x0 x1 x2 x3 x4 := by kernel_rfl
theorem d_ref16_Usable (x0 x1 : List AV) (x2 x3 : List AV) (x4 : Int) {o : List AV} (h : t_ref16_Usable (fun _ => D) x0 x1 x2 x3 x4 = some o) : D ref16_Usable [(AV.g [(AV.l T_api_Rule x0), (AV.l T_string x1), (AV.l T_api_Level x2), (AV.l T_api_Prod x3), (AV.i .i64 x4)])] = some o := D_fin (by rfl) (fun k => e_ref16_Usable k x0 x1 x2 x3 x4) (Lt.ite (Lt.bind (D_lt 1 _ _) fun o1 => Lt.ret) Lt.ret) h
noncomputable def t_items_order (Q : Nat → FuncId → List AV → Out) (x0 x1 : Int) (x2 x3 : Int) : Out :=
 (Q 1 cmp_Compare_int [(AV.i .i64 x0), (AV.i .i64 x2)]).bind fun o1 =>
 (Q 1 cmp_Compare_int [(AV.i .i64 x1), (AV.i .i64 x3)]).bind fun o2 =>
 (Q 1 cmp_Or_int [(AV.l T_int [(AV.i .i64 (AV.int (List.headD o1 .u))), (AV.i .i64 (AV.int (List.headD o2 .u)))])]).bind fun o3 =>
 some [(AV.i .i64 (AV.int (List.headD o3 .u)))]
theorem e_items_order (k : Nat) (x0 x1 : Int) (x2 x3 : Int) : call C (k + 5) items_order [(AV.g [(AV.i .i64 x0), (AV.i .i64 x1)]), (AV.g [(AV.i .i64 x2), (AV.i .i64 x3)])] = t_items_order (fun c => callP C (callF C (k + c))) x0 x1 x2 x3 := by kernel_rfl
theorem d_items_order (x0 x1 : Int) (x2 x3 : Int) {o : List AV} (h : t_items_order (fun _ => D) x0 x1 x2 x3 = some o) : D items_order [(AV.g [(AV.i .i64 x0), (AV.i .i64 x1)]), (AV.g [(AV.i .i64 x2), (AV.i .i64 x3)])] = some o := D_fin (by rfl) (fun k => e_items_order k x0 x1 x2 x3) (Lt.bind (D_lt 1 _ _) fun o1 => (Lt.bind (D_lt 1 _ _) fun o2 => (Lt.bind (D_lt 1 _ _) fun o3 => Lt.ret))) h
noncomputable def t_word_letter (Q : Nat → FuncId → List AV → Out) (x0 : Int) : Out :=
 if (decide (x0 ≥ (97 : Int))) = true then
 if (decide (x0 ≤ (122 : Int))) = false then
  if (decide (x0 ≥ (65 : Int))) = true then
   if (decide (x0 ≤ (90 : Int))) = false then
    some [(AV.b (x0 == (95 : Int)))]
   else
    some [(AV.b true)]
  else
   some [(AV.b (x0 == (95 : Int)))]
 else
  some [(AV.b true)]
else
 if (decide (x0 ≥ (65 : Int))) = true then
  if (decide (x0 ≤ (90 : Int))) = false then
   some [(AV.b (x0 == (95 : Int)))]
  else
   some [(AV.b true)]
 else
  some [(AV.b (x0 == (95 : Int)))]
theorem e_word_letter (k : Nat) (x0 : Int) : call C (k + 5) word_letter [(AV.i .u8 x0)] = t_word_letter (fun c => callP C (callF C (k + c))) x0 := by kernel_rfl
theorem d_word_letter (x0 : Int) {o : List AV} (h : t_word_letter (fun _ => D) x0 = some o) : D word_letter [(AV.i .u8 x0)] = some o := D_fin (by rfl) (fun k => e_word_letter k x0) (Lt.ite (Lt.ite (Lt.ite (Lt.ite Lt.ret Lt.ret) Lt.ret) Lt.ret) (Lt.ite (Lt.ite Lt.ret Lt.ret) Lt.ret)) h
noncomputable def t_ref06_Right (Q : Nat → FuncId → List AV → Out) (l_ref06_Right_r5 : Nat → List AV → Int → Int → Out) (x0 : List AV) : Out :=
 if (decide (((List.length x0 : Nat) : Int) < (1 : Int))) = false then
 if (decide (((List.length x0 : Nat) : Int) > (60 : Int))) = true then
  some [(AV.b false)]
 else
  l_ref06_Right_r5 0 (x0) ((0 : Int)) ((0 : Int))
else
 some [(AV.b false)]
theorem e_ref06_Right (k : Nat) (x0 : List AV) : call C (k + 17) ref06_Right [(AV.l T_api_Cell x0)] = t_ref06_Right (fun c => callP C (callF C (k + c))) (fun c => l_ref06_Right_r5 (k + c)) x0 := by kernel_rfl
theorem d_ref06_Right (x0 : List AV) {o : List AV} (h : t_ref06_Right (fun _ => D) (fun _ => L_ref06_Right_r5) x0 = some o) : D ref06_Right [(AV.l T_api_Cell x0)] = some o := D_fin (by rfl) (fun k => e_ref06_Right k x0) (Lt.ite (Lt.ite Lt.ret (lt_ref06_Right_r5 0 _ _ _)) Lt.ret) h
noncomputable def t_items_sorted_c1 (Q : Nat → FuncId → List AV → Out) (x0 x1 : Int) (x2 x3 : Int) : Out :=
 some [(AV.b ((x0 == x2) && ((x1 == x3) && true)))]
theorem e_items_sorted_c1 (k : Nat) (x0 x1 : Int) (x2 x3 : Int) : call C (k + 5) items_sorted_c1 [(AV.g [(AV.i .i64 x0), (AV.i .i64 x1)]), (AV.g [(AV.i .i64 x2), (AV.i .i64 x3)])] = t_items_sorted_c1 (fun c => callP C (callF C (k + c))) x0 x1 x2 x3 := by kernel_rfl
theorem d_items_sorted_c1 (x0 x1 : Int) (x2 x3 : Int) {o : List AV} (h : t_items_sorted_c1 (fun _ => D) x0 x1 x2 x3 = some o) : D items_sorted_c1 [(AV.g [(AV.i .i64 x0), (AV.i .i64 x1)]), (AV.g [(AV.i .i64 x2), (AV.i .i64 x3)])] = some o := D_fin (by rfl) (fun k => e_items_sorted_c1 k x0 x1 x2 x3) Lt.ret h
noncomputable def t_auto_key (Q : Nat → FuncId → List AV → Out) (l_auto_key_r3 : Nat → List AV → List AV → Int → Int → Out) (x0 : List AV) : Out :=
 l_auto_key_r3 0 (([] : List AV)) (x0) (((List.length x0 : Nat) : Int)) ((0 : Int))
theorem e_auto_key (k : Nat) (x0 : List AV) : call C (k + 11) auto_key [(AV.l T_api_Item x0)] = t_auto_key (fun c => callP C (callF C (k + c))) (fun c => l_auto_key_r3 (k + c)) x0 := by kernel_rfl
theorem d_auto_key (x0 : List AV) {o : List AV} (h : t_auto_key (fun _ => D) (fun _ => L_auto_key_r3) x0 = some o) : D auto_key [(AV.l T_api_Item x0)] = some o := D_fin (by rfl) (fun k => e_auto_key k x0) (lt_auto_key_r3 0 _ _ _ _) h
noncomputable def t_ref13_Sound_r8 (Q : Nat → FuncId → List AV → Out) (l_ref13_Sound_r8 : Nat → List AV → List AV → List AV → List AV → Int → Int → Int → Int → Out) (l_ref13_Sound_r18 : Nat → List AV → List AV → List AV → List AV → Int → Int → Int → Int → Out) (y0 y1 : List AV) (y2 y3 : List AV) (y4 y5 : Int) (y6 y7 : Int) : Out :=
 if (decide (y7 < ((List.length y2 : Nat) : Int))) = true then
 if 0 ≤ y7 ∧ y7 < ((List.length y2) : Int) then
  if ((AV.int (AV.fld (y2.getD (Int.toNat y7) .u) 0)) == (0 : Int)) = true then
   if (decide ((AV.int (AV.fld (y2.getD (Int.toNat y7) .u) 0)) > (0 : Int))) = true then
    if (decide ((AV.int (AV.fld (y2.getD (Int.toNat y7) .u) 1)) > (0 : Int))) = true then
     if (!((AV.int (AV.fld (y2.getD (Int.toNat y7) .u) 1)) == (0 : Int))) = true then
      if (!(decide ((AV.int (AV.fld (y2.getD (Int.toNat y7) .u) 1)) < (4 : Int)))) = false then
       if (y7 == (0 : Int)) = true then
        some [(AV.b false)]
       else
        l_ref13_Sound_r8 0 (y0) (y1) (y2) (y3) (y4) (y5) (y6) ((IntKind.wrap .i64 (y7 + (1 : Int))))
      else
       some [(AV.b false)]
     else
      l_ref13_Sound_r8 0 (y0) (y1) (y2) (y3) (y4) (y5) (y6) ((IntKind.wrap .i64 (y7 + (1 : Int))))
    else
     if (!((AV.int (AV.fld (y2.getD (Int.toNat y7) .u) 1)) == (0 : Int))) = true then
      some [(AV.b false)]
     else
      l_ref13_Sound_r8 0 (y0) (y1) (y2) (y3) (y4) (y5) (y6) ((IntKind.wrap .i64 (y7 + (1 : Int))))
   else
    if (!((AV.int (AV.fld (y2.getD (Int.toNat y7) .u) 1)) == (0 : Int))) = true then
     some [(AV.b false)]
    else
     l_ref13_Sound_r8 0 (y0) (y1) (y2) (y3) (y4) (y5) (y6) ((IntKind.wrap .i64 (y7 + (1 : Int))))
  else
   if (decide ((AV.int (AV.fld (y2.getD (Int.toNat y7) .u) 0)) > (0 : Int))) = true then
    if (decide ((AV.int (AV.fld (y2.getD (Int.toNat y7) .u) 1)) > (0 : Int))) = true then
     if (!(decide ((AV.int (AV.fld (y2.getD (Int.toNat y7) .u) 1)) < (4 : Int)))) = false then
      if (y7 == (0 : Int)) = true then
       some [(AV.b false)]
      else
       l_ref13_Sound_r8 0 (y0) (y1) (y2) (y3) (y4) (y5) (y6) ((IntKind.wrap .i64 (y7 + (1 : Int))))
     else
      some [(AV.b false)]
    else
     some [(AV.b false)]
   else
    some [(AV.b false)]
 else
  none
else
 if (((List.length y1 : Nat) : Int) == (0 : Int)) = true then
  if (y4 != (0 : Int)) = false then
   if (decide (((List.length y1 : Nat) : Int) > (0 : Int))) = true then
    if (decide (y4 ≤ y5)) = false then
     if (decide (y4 > y6)) = true then
      some [(AV.b false)]
     else
      l_ref13_Sound_r18 5 (y0) (y1) (y2) (y3) (y4) (y5) (y6) ((0 : Int))
    else
     some [(AV.b false)]
   else
    l_ref13_Sound_r18 5 (y0) (y1) (y2) (y3) (y4) (y5) (y6) ((0 : Int))
  else
   some [(AV.b false)]
 else
  if (decide (((List.length y1 : Nat) : Int) > (0 : Int))) = true then
   if (decide (y4 ≤ y5)) = false then
    if (decide (y4 > y6)) = true then
     some [(AV.b false)]
    else
     l_ref13_Sound_r18 5 (y0) (y1) (y2) (y3) (y4) (y5) (y6) ((0 : Int))
   else
    some [(AV.b false)]
  else
   l_ref13_Sound_r18 5 (y0) (y1) (y2) (y3) (y4) (y5) (y6) ((0 : Int))
theorem e_ref13_Sound_r8 (k : Nat) (y0 y1 : List AV) (y2 y3 : List AV) (y4 y5 : Int) (y6 y7 : Int) : l_ref13_Sound_r8 (k + 20) y0 y1 y2 y3 y4 y5 y6 y7 = t_ref13_Sound_r8 (fun c => callP C (callF C (k + c))) (fun c => l_ref13_Sound_r8 (k + c)) (fun c => l_ref13_Sound_r18 (k + c)) y0 y1 y2 y3 y4 y5 y6 y7 := by kernel_rfl
theorem d_ref13_Sound_r8 (y0 y1 : List AV) (y2 y3 : List AV) (y4 y5 : Int) (y6 y7 : Int) {o : List AV} (h : t_ref13_Sound_r8 (fun _ => D) (fun _ => L_ref13_Sound_r8) (fun _ => L_ref13_Sound_r18) y0 y1 y2 y3 y4 y5 y6 y7 = some o) : L_ref13_Sound_r8 y0 y1 y2 y3 y4 y5 y6 y7 = some o := Lt.fin (fun k => e_ref13_Sound_r8 k y0 y1 y2 y3 y4 y5 y6 y7) (Lt.ite (Lt.ite (Lt.ite (Lt.ite (Lt.ite (Lt.ite (Lt.ite (Lt.ite Lt.ret (lt_ref13_Sound_r8 0 _ _ _ _ _ _ _ _)) Lt.ret) (lt_ref13_Sound_r8 0 _ _ _ _ _ _ _ _)) (Lt.ite Lt.ret (lt_ref13_Sound_r8 0 _ _ _ _ _ _ _ _))) (Lt.ite Lt.ret (lt_ref13_Sound_r8 0 _ _ _ _ _ _ _ _))) (Lt.ite (Lt.ite (Lt.ite (Lt.ite Lt.ret (lt_ref13_Sound_r8 0 _ _ _ _ _ _ _ _)) Lt.ret) Lt.ret) Lt.ret)) Lt.no) (Lt.ite (Lt.ite (Lt.ite (Lt.ite (Lt.ite Lt.ret (lt_ref13_Sound_r18 5 _ _ _ _ _ _ _ _)) Lt.ret) (lt_ref13_Sound_r18 5 _ _ _ _ _ _ _ _)) Lt.ret) (Lt.ite (Lt.ite (Lt.ite Lt.ret (lt_ref13_Sound_r18 5 _ _ _ _ _ _ _ _)) Lt.ret) (lt_ref13_Sound_r18 5 _ _ _ _ _ _ _ _)))) h
noncomputable def t_items_Goto_r5 (Q : Nat → FuncId → List AV → Out) (l_items_Goto_r5 : Nat → List AV → List AV → List AV → List AV → Int → Int → List AV → List AV → Int → Int → Out) (y0 y1 : List AV) (y2 y3 : List AV) (y4 y5 : Int) (y6 y7 : List AV) (y8 y9 : Int) : Out :=
 if (decide (y9 < y8)) = true then
 if 0 ≤ y9 ∧ y9 < ((List.length y7) : Int) then
  (Q 9 items_next [(AV.g [(AV.l T_api_Rule y0), (AV.l T_string y1), (AV.l T_api_Level y2), (AV.l T_api_Prod y3), (AV.i .i64 y4)]), (AV.g [(AV.i .i64 (AV.int (AV.fld (y7.getD (Int.toNat y9) .u) 0))), (AV.i .i64 (AV.int (AV.fld (y7.getD (Int.toNat y9) .u) 1)))])]).bind fun o1 =>
   if ((AV.int (List.headD o1 .u)) != (0 : Int)) = true then
   if ((AV.int (List.headD o1 .u)) == y5) = true then
    if (List.length y6) + (List.length [(AV.g [(AV.i .i64 (AV.int (AV.fld (y7.getD (Int.toNat y9) .u) 0))), (AV.i .i64 (IntKind.wrap .i64 ((AV.int (AV.fld (y7.getD (Int.toNat y9) .u) 1)) + (1 : Int))))])]) ≤ 16777216 ∧ (false && false) = false then
     l_items_Goto_r5 0 (y0) (y1) (y2) (y3) (y4) (y5) ((y6 ++ [(AV.g [(AV.i .i64 (AV.int (AV.fld (y7.getD (Int.toNat y9) .u) 0))), (AV.i .i64 (IntKind.wrap .i64 ((AV.int (AV.fld (y7.getD (Int.toNat y9) .u) 1)) + (1 : Int))))])])) (y7) (y8) ((IntKind.wrap .i64 (y9 + (1 : Int))))
    else
     none
   else
    l_items_Goto_r5 0 (y0) (y1) (y2) (y3) (y4) (y5) (y6) (y7) (y8) ((IntKind.wrap .i64 (y9 + (1 : Int))))
  else
   l_items_Goto_r5 0 (y0) (y1) (y2) (y3) (y4) (y5) (y6) (y7) (y8) ((IntKind.wrap .i64 (y9 + (1 : Int))))
 else
  none
else
 (Q 13 items_sorted [(AV.l T_api_Item y6)]).bind fun o2 =>
  some [(AV.l T_api_Item (AV.list (List.headD o2 .u)))]
theorem e_items_Goto_r5 (k : Nat) (y0 y1 : List AV) (y2 y3 : List AV) (y4 y5 : Int) (y6 y7 : List AV) (y8 y9 : Int) : l_items_Goto_r5 (k + 18) y0 y1 y2 y3 y4 y5 y6 y7 y8 y9 = t_items_Goto_r5 (fun c => callP C (callF C (k + c))) (fun c => l_items_Goto_r5 (k + c)) y0 y1 y2 y3 y4 y5 y6 y7 y8 y9 := by kernel_rfl
theorem d_items_Goto_r5 (y0 y1 : List AV) (y2 y3 : List AV) (y4 y5 : Int) (y6 y7 : List AV) (y8 y9 : Int) {o : List AV} (h : t_items_Goto_r5 (fun _ => D) (fun _ => L_items_Goto_r5) y0 y1 y2 y3 y4 y5 y6 y7 y8 y9 = some o) : L_items_Goto_r5 y0 y1 y2 y3 y4 y5 y6 y7 y8 y9 = some o := Lt.fin (fun k => e_items_Goto_r5 k y0 y1 y2 y3 y4 y5 y6 y7 y8 y9) (Lt.ite (Lt.ite (Lt.bind (D_lt 9 _ _) fun o1 => (Lt.ite (Lt.ite (Lt.ite (lt_items_Goto_r5 0 _ _ _ _ _ _ _ _ _ _) Lt.no) (lt_items_Goto_r5 0 _ _ _ _ _ _ _ _ _ _)) (lt_items_Goto_r5 0 _ _ _ _ _ _ _ _ _ _))) Lt.no) (Lt.bind (D_lt 13 _ _) fun o2 => Lt.ret)) h
noncomputable def t_auto_key_r3_x1 (Q : Nat → FuncId → List AV → Out) (l_auto_key_r3_x1 : Nat → List AV → List AV → Int → Int → Out) (y0 y1 : List AV) (y2 y3 : Int) : Out :=
 if (decide (y3 < y2)) = true then
 if 0 ≤ y3 ∧ y3 < ((List.length y1) : Int) then
  (Q 12 strconv_Itoa [(AV.i .i64 (AV.int (AV.fld (y1.getD (Int.toNat y3) .u) 0)))]).bind fun o1 =>
   if ByteArray.size (AV.str (List.headD o1 .u)) + ByteArray.size ⟨#[46]⟩ ≤ 9223372036854775807 then
   (Q 12 strconv_Itoa [(AV.i .i64 (AV.int (AV.fld (y1.getD (Int.toNat y3) .u) 1)))]).bind fun o2 =>
    if ByteArray.size ((AV.str (List.headD o1 .u)) ++ ⟨#[46]⟩) + ByteArray.size (AV.str (List.headD o2 .u)) ≤ 9223372036854775807 then
    if ByteArray.size (((AV.str (List.headD o1 .u)) ++ ⟨#[46]⟩) ++ (AV.str (List.headD o2 .u))) + ByteArray.size ⟨#[32]⟩ ≤ 9223372036854775807 then
     if (List.length y0) + (List.length ((((((AV.str (List.headD o1 .u)) ++ ⟨#[46]⟩) ++ (AV.str (List.headD o2 .u))) ++ ⟨#[32]⟩)).data.toList.map fun (c : UInt8) => AV.i .u8 (c.toNat : Int))) ≤ 16777216 ∧ (true && false) = false then
      l_auto_key_r3_x1 7 ((y0 ++ ((((((AV.str (List.headD o1 .u)) ++ ⟨#[46]⟩) ++ (AV.str (List.headD o2 .u))) ++ ⟨#[32]⟩)).data.toList.map fun (c : UInt8) => AV.i .u8 (c.toNat : Int)))) (y1) (y2) ((IntKind.wrap .i64 (y3 + (1 : Int))))
     else
      none
    else
     none
   else
    none
  else
   none
 else
  none
else
 if (decide ((5 : Nat) = 5 ∧ List.length y0 ≤ 16777216 ∧ List.all y0 isByte = true)) = true then
  some [(AV.s (bytesOf y0))]
 else
  none
theorem e_auto_key_r3_x1 (k : Nat) (y0 y1 : List AV) (y2 y3 : Int) : l_auto_key_r3_x1 (k + 20) y0 y1 y2 y3 = t_auto_key_r3_x1 (fun c => callP C (callF C (k + c))) (fun c => l_auto_key_r3_x1 (k + c)) y0 y1 y2 y3 := by kernel_rfl
theorem d_auto_key_r3_x1 (y0 y1 : List AV) (y2 y3 : Int) {o : List AV} (h : t_auto_key_r3_x1 (fun _ => D) (fun _ => L_auto_key_r3_x1) y0 y1 y2 y3 = some o) : L_auto_key_r3_x1 y0 y1 y2 y3 = some o := Lt.fin (fun k => e_auto_key_r3_x1 k y0 y1 y2 y3) (Lt.ite (Lt.ite (Lt.bind (D_lt 12 _ _) fun o1 => (Lt.ite (Lt.bind (D_lt 12 _ _) fun o2 => (Lt.ite (Lt.ite (Lt.ite (lt_auto_key_r3_x1 7 _ _ _ _) Lt.no) Lt.no) Lt.no)) Lt.no)) Lt.no) (Lt.ite Lt.ret Lt.no)) h
noncomputable def t_ref13_Sound_r24 (Q : Nat → FuncId → List AV → Out) (l_ref13_Sound_r24 : Nat → List AV → List AV → List AV → List AV → Int → Int → List AV → Int → Int → Int → Int → Int → Out) (l_ref13_Sound_r18 : Nat → List AV → List AV → List AV → List AV → Int → Int → Int → Int → Out) (y0 y1 : List AV) (y2 y3 : List AV) (y4 y5 : Int) (y6 : List AV) (y7 y8 : Int) (y9 y10 y11 : Int) : Out :=
 if (decide (y11 < ((List.length y6 : Nat) : Int))) = true then
 if 0 ≤ y11 ∧ y11 < ((List.length y6) : Int) then
  if (decide ((AV.int (y6.getD (Int.toNat y11) .u)) < (1 : Int))) = false then
   if 0 ≤ y11 ∧ y11 < ((List.length y6) : Int) then
    if (decide ((AV.int (y6.getD (Int.toNat y11) .u)) > y9)) = true then
     some [(AV.b false)]
    else
     l_ref13_Sound_r24 0 (y0) (y1) (y2) (y3) (y4) (y5) (y6) (y7) (y8) (y9) (y10) ((IntKind.wrap .i64 (y11 + (1 : Int))))
   else
    none
  else
   some [(AV.b false)]
 else
  none
else
 l_ref13_Sound_r18 6 (y0) (y1) (y2) (y3) (y4) (y8) (y9) ((IntKind.wrap .i64 (y10 + (1 : Int))))
theorem e_ref13_Sound_r24 (k : Nat) (y0 y1 : List AV) (y2 y3 : List AV) (y4 y5 : Int) (y6 : List AV) (y7 y8 : Int) (y9 y10 y11 : Int) : l_ref13_Sound_r24 (k + 14) y0 y1 y2 y3 y4 y5 y6 y7 y8 y9 y10 y11 = t_ref13_Sound_r24 (fun c => callP C (callF C (k + c))) (fun c => l_ref13_Sound_r24 (k + c)) (fun c => l_ref13_Sound_r18 (k + c)) y0 y1 y2 y3 y4 y5 y6 y7 y8 y9 y10 y11 := by kernel_rfl
theorem d_ref13_Sound_r24 (y0 y1 : List AV) (y2 y3 : List AV) (y4 y5 : Int) (y6 : List AV) (y7 y8 : Int) (y9 y10 y11 : Int) {o : List AV} (h : t_ref13_Sound_r24 (fun _ => D) (fun _ => L_ref13_Sound_r24) (fun _ => L_ref13_Sound_r18) y0 y1 y2 y3 y4 y5 y6 y7 y8 y9 y10 y11 = some o) : L_ref13_Sound_r24 y0 y1 y2 y3 y4 y5 y6 y7 y8 y9 y10 y11 = some o := Lt.fin (fun k => e_ref13_Sound_r24 k y0 y1 y2 y3 y4 y5 y6 y7 y8 y9 y10 y11) (Lt.ite (Lt.ite (Lt.ite (Lt.ite (Lt.ite Lt.ret (lt_ref13_Sound_r24 0 _ _ _ _ _ _ _ _ _ _ _ _)) Lt.no) Lt.ret) Lt.no) (lt_ref13_Sound_r18 6 _ _ _ _ _ _ _ _)) h
noncomputable def t_law17_AutoBuilds (Q : Nat → FuncId → List AV → Out) (x0 x1 : List AV) (x2 x3 : List AV) (x4 : Int) : Out :=
 (Q 14 law17_wakes []).bind fun o1 =>
 if (!(AV.bool (List.headD o1 .u))) = true then
 some [(AV.b false)]
else
 (Q 9 law17_heavy [(AV.g [(AV.l T_api_Rule x0), (AV.l T_string x1), (AV.l T_api_Level x2), (AV.l T_api_Prod x3), (AV.i .i64 x4)])]).bind fun o2 =>
  if (AV.bool (List.headD o2 .u)) = true then
  some [(AV.b true)]
 else
  (Q 5 auto_Build [(AV.g [(AV.l T_api_Rule x0), (AV.l T_string x1), (AV.l T_api_Level x2), (AV.l T_api_Prod x3), (AV.i .i64 x4)])]).bind fun o3 =>
   (Q 3 ref17_Build [(AV.g [(AV.l T_api_Rule x0), (AV.l T_string x1), (AV.l T_api_Level x2), (AV.l T_api_Prod x3), (AV.i .i64 x4)])]).bind fun o4 =>
   (Q 1 ref17_Same [(AV.l T_api_State (AV.list (List.headD o3 .u))), (AV.l T_api_State (AV.list (List.headD o4 .u)))]).bind fun o5 =>
   if (AV.bool (List.headD o5 .u)) = true then
   some [(AV.b ((AV.int (List.headD (List.tail o3) .u)) == (AV.int (List.headD (List.tail o4) .u))))]
  else
   some [(AV.b false)]
theorem e_law17_AutoBuilds (k : Nat) (x0 x1 : List AV) (x2 x3 : List AV) (x4 : Int) : call C (k + 19) law17_AutoBuilds [(AV.g [(AV.l T_api_Rule x0), (AV.l T_string x1), (AV.l T_api_Level x2), (AV.l T_api_Prod x3), (AV.i .i64 x4)])] = t_law17_AutoBuilds (fun c => callP C (callF C (k + c))) x0 x1 x2 x3 x4 := by kernel_rfl
theorem d_law17_AutoBuilds (x0 x1 : List AV) (x2 x3 : List AV) (x4 : Int) {o : List AV} (h : t_law17_AutoBuilds (fun _ => D) x0 x1 x2 x3 x4 = some o) : D law17_AutoBuilds [(AV.g [(AV.l T_api_Rule x0), (AV.l T_string x1), (AV.l T_api_Level x2), (AV.l T_api_Prod x3), (AV.i .i64 x4)])] = some o := D_fin (by rfl) (fun k => e_law17_AutoBuilds k x0 x1 x2 x3 x4) (Lt.bind (D_lt 14 _ _) fun o1 => (Lt.ite Lt.ret (Lt.bind (D_lt 9 _ _) fun o2 => (Lt.ite Lt.ret (Lt.bind (D_lt 5 _ _) fun o3 => (Lt.bind (D_lt 3 _ _) fun o4 => (Lt.bind (D_lt 1 _ _) fun o5 => (Lt.ite Lt.ret Lt.ret)))))))) h
noncomputable def t_ref17_Same_r4 (Q : Nat → FuncId → List AV → Out) (l_ref17_Same_r4 : Nat → List AV → List AV → Int → Out) (y0 y1 : List AV) (y2 : Int) : Out :=
 if (decide (y2 < ((List.length y0 : Nat) : Int))) = true then
 if 0 ≤ y2 ∧ y2 < ((List.length y0) : Int) then
  if 0 ≤ y2 ∧ y2 < ((List.length y1) : Int) then
   (Q 8 ref16_Same [(AV.l T_api_Item (AV.list (AV.fld (y0.getD (Int.toNat y2) .u) 0))), (AV.l T_api_Item (AV.list (AV.fld (y1.getD (Int.toNat y2) .u) 0)))]).bind fun o1 =>
    if (!(AV.bool (List.headD o1 .u))) = false then
    if 0 ≤ y2 ∧ y2 < ((List.length y0) : Int) then
     if 0 ≤ y2 ∧ y2 < ((List.length y1) : Int) then
      (Q 8 ref04_Same [(AV.l T_int (AV.list (AV.fld (y0.getD (Int.toNat y2) .u) 1))), (AV.l T_int (AV.list (AV.fld (y1.getD (Int.toNat y2) .u) 1)))]).bind fun o2 =>
       if (!(AV.bool (List.headD o2 .u))) = true then
       some [(AV.b false)]
      else
       l_ref17_Same_r4 0 (y0) (y1) ((IntKind.wrap .i64 (y2 + (1 : Int))))
     else
      none
    else
     none
   else
    some [(AV.b false)]
  else
   none
 else
  none
else
 some [(AV.b true)]
theorem e_ref17_Same_r4 (k : Nat) (y0 y1 : List AV) (y2 : Int) : l_ref17_Same_r4 (k + 14) y0 y1 y2 = t_ref17_Same_r4 (fun c => callP C (callF C (k + c))) (fun c => l_ref17_Same_r4 (k + c)) y0 y1 y2 := by kernel_rfl
theorem d_ref17_Same_r4 (y0 y1 : List AV) (y2 : Int) {o : List AV} (h : t_ref17_Same_r4 (fun _ => D) (fun _ => L_ref17_Same_r4) y0 y1 y2 = some o) : L_ref17_Same_r4 y0 y1 y2 = some o := Lt.fin (fun k => e_ref17_Same_r4 k y0 y1 y2) (Lt.ite (Lt.ite (Lt.ite (Lt.bind (D_lt 8 _ _) fun o1 => (Lt.ite (Lt.ite (Lt.ite (Lt.bind (D_lt 8 _ _) fun o2 => (Lt.ite Lt.ret (lt_ref17_Same_r4 0 _ _ _))) Lt.no) Lt.no) Lt.ret)) Lt.no) Lt.no) Lt.ret) h
noncomputable def t_items_is (Q : Nat → FuncId → List AV → Out) (x0 x1 : List AV) (x2 x3 : List AV) (x4 x5 x6 : Int) : Out :=
 if (decide (x5 ≥ (-1 : Int))) = true then
 if (decide (x5 < ((List.length x3 : Nat) : Int))) = true then
  if (decide (x6 ≥ (0 : Int))) = true then
   (Q 1 items_side [(AV.g [(AV.l T_api_Rule x0), (AV.l T_string x1), (AV.l T_api_Level x2), (AV.l T_api_Prod x3), (AV.i .i64 x4)]), (AV.i .i64 x5)]).bind fun o1 =>
    some [(AV.b (decide (x6 ≤ ((List.length (AV.list (List.headD o1 .u)) : Nat) : Int))))]
  else
   some [(AV.b false)]
 else
  some [(AV.b false)]
else
 some [(AV.b false)]
theorem e_items_is (k : Nat) (x0 x1 : List AV) (x2 x3 : List AV) (x4 x5 x6 : Int) : call C (k + 5) items_is [(AV.g [(AV.l T_api_Rule x0), (AV.l T_string x1), (AV.l T_api_Level x2), (AV.l T_api_Prod x3), (AV.i .i64 x4)]), (AV.g [(AV.i .i64 x5), (AV.i .i64 x6)])] = t_items_is (fun c => callP C (callF C (k + c))) x0 x1 x2 x3 x4 x5 x6 := by kernel_rfl
theorem d_items_is (x0 x1 : List AV) (x2 x3 : List AV) (x4 x5 x6 : Int) {o : List AV} (h : t_items_is (fun _ => D) x0 x1 x2 x3 x4 x5 x6 = some o) : D items_is [(AV.g [(AV.l T_api_Rule x0), (AV.l T_string x1), (AV.l T_api_Level x2), (AV.l T_api_Prod x3), (AV.i .i64 x4)]), (AV.g [(AV.i .i64 x5), (AV.i .i64 x6)])] = some o := D_fin (by rfl) (fun k => e_items_is k x0 x1 x2 x3 x4 x5 x6) (Lt.ite (Lt.ite (Lt.ite (Lt.bind (D_lt 1 _ _) fun o1 => Lt.ret) Lt.ret) Lt.ret) Lt.ret) h
noncomputable def t_ref16_Side (Q : Nat → FuncId → List AV → Out) (x0 x1 : List AV) (x2 x3 : List AV) (x4 x5 : Int) : Out :=
 if (decide (x5 < (0 : Int))) = true then
 if (List.length ([] : List AV)) + (List.length [(AV.i .i64 x4)]) ≤ 16777216 ∧ (false && false) = false then
  some [(AV.l T_int (([] : List AV) ++ [(AV.i .i64 x4)]))]
 else
  none
else
 if 0 ≤ x5 ∧ x5 < ((List.length x3) : Int) then
  if (List.length ([] : List AV)) + (List.length (AV.list (AV.fld (x3.getD (Int.toNat x5) .u) 1))) ≤ 16777216 ∧ (false && false) = false then
   some [(AV.l T_int (([] : List AV) ++ (AV.list (AV.fld (x3.getD (Int.toNat x5) .u) 1))))]
  else
   none
 else
  none
theorem e_ref16_Side (k : Nat) (x0 x1 : List AV) (x2 x3 : List AV) (x4 x5 : Int) : call C (k + 12) ref16_Side [(AV.g [(AV.l T_api_Rule x0), (AV.l T_string x1), (AV.l T_api_Level x2), (AV.l T_api_Prod x3), (AV.i .i64 x4)]), (AV.i .i64 x5)] = t_ref16_Side (fun c => callP C (callF C (k + c))) x0 x1 x2 x3 x4 x5 := by kernel_rfl
theorem d_ref16_Side (x0 x1 : List AV) (x2 x3 : List AV) (x4 x5 : Int) {o : List AV} (h : t_ref16_Side (fun _ => D) x0 x1 x2 x3 x4 x5 = some o) : D ref16_Side [(AV.g [(AV.l T_api_Rule x0), (AV.l T_string x1), (AV.l T_api_Level x2), (AV.l T_api_Prod x3), (AV.i .i64 x4)]), (AV.i .i64 x5)] = some o := D_fin (by rfl) (fun k => e_ref16_Side k x0 x1 x2 x3 x4 x5) (Lt.ite (Lt.ite Lt.ret Lt.no) (Lt.ite (Lt.ite Lt.ret Lt.no) Lt.no)) h
noncomputable def t_items_Right_c1_c (Q : Nat → FuncId → List AV → Out) (x0 x1 : Int) (x2 x3 : List AV) (x4 x5 : List AV) (x6 : Int) : Out :=
 (Q 1 items_is [(AV.g [(AV.l T_api_Rule x2), (AV.l T_string x3), (AV.l T_api_Level x4), (AV.l T_api_Prod x5), (AV.i .i64 x6)]), (AV.g [(AV.i .i64 x0), (AV.i .i64 x1)])]).bind fun o1 =>
 some [(AV.b (!(AV.bool (List.headD o1 .u))))]
theorem e_items_Right_c1_c (k : Nat) (x0 x1 : Int) (x2 x3 : List AV) (x4 x5 : List AV) (x6 : Int) : call C (k + 5) items_Right_c1 [(AV.g [(AV.i .i64 x0), (AV.i .i64 x1)]), (AV.at T_api_Grammar (AV.g [(AV.l T_api_Rule x2), (AV.l T_string x3), (AV.l T_api_Level x4), (AV.l T_api_Prod x5), (AV.i .i64 x6)]))] = t_items_Right_c1_c (fun c => callP C (callF C (k + c))) x0 x1 x2 x3 x4 x5 x6 := by kernel_rfl
theorem d_items_Right_c1_c (x0 x1 : Int) (x2 x3 : List AV) (x4 x5 : List AV) (x6 : Int) {o : List AV} (h : t_items_Right_c1_c (fun _ => D) x0 x1 x2 x3 x4 x5 x6 = some o) : D items_Right_c1 [(AV.g [(AV.i .i64 x0), (AV.i .i64 x1)]), (AV.at T_api_Grammar (AV.g [(AV.l T_api_Rule x2), (AV.l T_string x3), (AV.l T_api_Level x4), (AV.l T_api_Prod x5), (AV.i .i64 x6)]))] = some o := D_fin (by rfl) (fun k => e_items_Right_c1_c k x0 x1 x2 x3 x4 x5 x6) (Lt.bind (D_lt 1 _ _) fun o1 => Lt.ret) h
noncomputable def t_items_usable (Q : Nat → FuncId → List AV → Out) (x0 x1 : List AV) (x2 x3 : List AV) (x4 : Int) : Out :=
 if (decide (((List.length x1 : Nat) : Int) > (0 : Int))) = true then
 (Q 1 check_Sound [(AV.g [(AV.l T_api_Rule x0), (AV.l T_string x1), (AV.l T_api_Level x2), (AV.l T_api_Prod x3), (AV.i .i64 x4)])]).bind fun o1 =>
  some [(AV.b (AV.bool (List.headD o1 .u)))]
else
 some [(AV.b false)]
theorem e_items_usable (k : Nat) (x0 x1 : List AV) (x2 x3 : List AV) (x4 : Int) : call C (k + 5) items_usable [(AV.g [(AV.l T_api_Rule x0), (AV.l T_string x1), (AV.l T_api_Level x2), (AV.l T_api_Prod x3), (AV.i .i64 x4)])] = t_items_usable (fun c => callP C (callF C (k + c))) x0 x1 x2 x3 x4 := by kernel_rfl
theorem d_items_usable (x0 x1 : List AV) (x2 x3 : List AV) (x4 : Int) {o : List AV} (h : t_items_usable (fun _ => D) x0 x1 x2 x3 x4 = some o) : D items_usable [(AV.g [(AV.l T_api_Rule x0), (AV.l T_string x1), (AV.l T_api_Level x2), (AV.l T_api_Prod x3), (AV.i .i64 x4)])] = some o := D_fin (by rfl) (fun k => e_items_usable k x0 x1 x2 x3 x4) (Lt.ite (Lt.bind (D_lt 1 _ _) fun o1 => Lt.ret) Lt.ret) h
noncomputable def t_ref16_Has_r2 (Q : Nat → FuncId → List AV → Out) (l_ref16_Has_r2 : Nat → Int → Int → List AV → Int → Out) (y0 y1 : Int) (y2 : List AV) (y3 : Int) : Out :=
 if (decide (y3 < ((List.length y2 : Nat) : Int))) = true then
 if 0 ≤ y3 ∧ y3 < ((List.length y2) : Int) then
  if (((AV.int (AV.fld (y2.getD (Int.toNat y3) .u) 0)) == y0) && (((AV.int (AV.fld (y2.getD (Int.toNat y3) .u) 1)) == y1) && true)) = true then
   some [(AV.b true)]
  else
   l_ref16_Has_r2 0 (y0) (y1) (y2) ((IntKind.wrap .i64 (y3 + (1 : Int))))
 else
  none
else
 some [(AV.b false)]
theorem e_ref16_Has_r2 (k : Nat) (y0 y1 : Int) (y2 : List AV) (y3 : Int) : l_ref16_Has_r2 (k + 14) y0 y1 y2 y3 = t_ref16_Has_r2 (fun c => callP C (callF C (k + c))) (fun c => l_ref16_Has_r2 (k + c)) y0 y1 y2 y3 := by kernel_rfl
theorem d_ref16_Has_r2 (y0 y1 : Int) (y2 : List AV) (y3 : Int) {o : List AV} (h : t_ref16_Has_r2 (fun _ => D) (fun _ => L_ref16_Has_r2) y0 y1 y2 y3 = some o) : L_ref16_Has_r2 y0 y1 y2 y3 = some o := Lt.fin (fun k => e_ref16_Has_r2 k y0 y1 y2 y3) (Lt.ite (Lt.ite (Lt.ite Lt.ret (lt_ref16_Has_r2 0 _ _ _ _)) Lt.no) Lt.ret) h
noncomputable def t_ref06_Wants (Q : Nat → FuncId → List AV → Out) (x0 : Int) : Out :=
 if (x0 == (1 : Int)) = false then
 if (x0 == (2 : Int)) = true then
  some [(AV.i .i64 (0 : Int))]
 else
  if (x0 == (3 : Int)) = false then
   if (x0 == (4 : Int)) = true then
    some [(AV.i .i64 (2 : Int))]
   else
    if (decide (x0 ≥ (5 : Int))) = true then
     if (decide (x0 ≤ (7 : Int))) = true then
      some [(AV.i .i64 (1 : Int))]
     else
      some [(AV.i .i64 (-1 : Int))]
    else
     some [(AV.i .i64 (-1 : Int))]
  else
   some [(AV.i .i64 (2 : Int))]
else
 some [(AV.i .i64 (0 : Int))]
theorem e_ref06_Wants (k : Nat) (x0 : Int) : call C (k + 20) ref06_Wants [(AV.i .i64 x0)] = t_ref06_Wants (fun c => callP C (callF C (k + c))) x0 := by kernel_rfl
theorem d_ref06_Wants (x0 : Int) {o : List AV} (h : t_ref06_Wants (fun _ => D) x0 = some o) : D ref06_Wants [(AV.i .i64 x0)] = some o := D_fin (by rfl) (fun k => e_ref06_Wants k x0) (Lt.ite (Lt.ite Lt.ret (Lt.ite (Lt.ite Lt.ret (Lt.ite (Lt.ite Lt.ret Lt.ret) Lt.ret)) Lt.ret)) Lt.ret) h
noncomputable def t_ref17_Same (Q : Nat → FuncId → List AV → Out) (l_ref17_Same_r4 : Nat → List AV → List AV → Int → Out) (x0 x1 : List AV) : Out :=
 if (((List.length x0 : Nat) : Int) != ((List.length x1 : Nat) : Int)) = true then
 some [(AV.b false)]
else
 l_ref17_Same_r4 0 (x0) (x1) ((0 : Int))
theorem e_ref17_Same (k : Nat) (x0 x1 : List AV) : call C (k + 15) ref17_Same [(AV.l T_api_State x0), (AV.l T_api_State x1)] = t_ref17_Same (fun c => callP C (callF C (k + c))) (fun c => l_ref17_Same_r4 (k + c)) x0 x1 := by kernel_rfl
theorem d_ref17_Same (x0 x1 : List AV) {o : List AV} (h : t_ref17_Same (fun _ => D) (fun _ => L_ref17_Same_r4) x0 x1 = some o) : D ref17_Same [(AV.l T_api_State x0), (AV.l T_api_State x1)] = some o := D_fin (by rfl) (fun k => e_ref17_Same k x0 x1) (Lt.ite Lt.ret (lt_ref17_Same_r4 0 _ _ _)) h
noncomputable def t_slices_Clone_api_Item (Q : Nat → FuncId → List AV → Out) (x0 : List AV) : Out :=
 if (List.isEmpty x0) = false then
 if (List.length ([] : List AV)) + (List.length x0) ≤ 16777216 ∧ (false && false) = false then
  some [(AV.l T_api_Item (([] : List AV) ++ x0))]
 else
  none
else
 none
theorem e_slices_Clone_api_Item (k : Nat) (x0 : List AV) : call C (k + 10) slices_Clone_api_Item [(AV.l T_api_Item x0)] = t_slices_Clone_api_Item (fun c => callP C (callF C (k + c))) x0 := by kernel_rfl
theorem d_slices_Clone_api_Item (x0 : List AV) {o : List AV} (h : t_slices_Clone_api_Item (fun _ => D) x0 = some o) : D slices_Clone_api_Item [(AV.l T_api_Item x0)] = some o := D_fin (by rfl) (fun k => e_slices_Clone_api_Item k x0) (Lt.ite (Lt.ite Lt.ret Lt.no) Lt.no) h
noncomputable def t_word_blank (Q : Nat → FuncId → List AV → Out) (l_word_blank_r2 : Nat → ByteArray → Int → Out) (x0 : ByteArray) : Out :=
 l_word_blank_r2 0 (x0) ((0 : Int))
theorem e_word_blank (k : Nat) (x0 : ByteArray) : call C (k + 10) word_blank [(AV.s x0)] = t_word_blank (fun c => callP C (callF C (k + c))) (fun c => l_word_blank_r2 (k + c)) x0 := by kernel_rfl
theorem d_word_blank (x0 : ByteArray) {o : List AV} (h : t_word_blank (fun _ => D) (fun _ => L_word_blank_r2) x0 = some o) : D word_blank [(AV.s x0)] = some o := D_fin (by rfl) (fun k => e_word_blank k x0) (lt_word_blank_r2 0 _ _) h
end Go.Proofs.YteklakapimggeaaGreatDoor.Den
