/- Proved here: a part of the proof, told one step at a time: DenEq7, DenEq8. No condition but those each theorem names. -/
import Derived.Test.YteklakapimggeaaGreatDoorQa1
namespace Go.Proofs.YteklakapimggeaaGreatDoor.Den
open Go Go.Proofs
set_option linter.unusedVariables false
noncomputable def t_check_Sound_r8 (Q : Nat → FuncId → List AV → Out) (l_check_Sound_r8 : Nat → List AV → List AV → List AV → List AV → Int → Int → Int → List AV → Int → Int → Out) (l_check_Sound_r17 : Nat → Int → Int → Int → Int → List AV → Int → Int → Out) (y0 y1 : List AV) (y2 y3 : List AV) (y4 y5 y6 : Int) (y7 : List AV) (y8 y9 : Int) : Out :=
 if (decide (y9 < y8)) = true then
 if 0 ≤ y9 ∧ y9 < ((List.length y7) : Int) then
  if (!(((AV.int (AV.fld (y7.getD (Int.toNat y9) .u) 0)) == (0 : Int)) && (((AV.int (AV.fld (y7.getD (Int.toNat y9) .u) 1)) == (0 : Int)) && true))) = true then
   if (decide ((AV.int (AV.fld (y7.getD (Int.toNat y9) .u) 0)) < (1 : Int))) = false then
    if (decide ((AV.int (AV.fld (y7.getD (Int.toNat y9) .u) 1)) < (1 : Int))) = false then
     if (decide ((AV.int (AV.fld (y7.getD (Int.toNat y9) .u) 1)) > (3 : Int))) = true then
      some [(AV.b false)]
     else
      l_check_Sound_r8 1 (y0) (y1) (y2) (y3) (y4) (y5) (y6) (y7) (y8) ((IntKind.wrap .i64 (y9 + (1 : Int))))
    else
     some [(AV.b false)]
   else
    some [(AV.b false)]
  else
   l_check_Sound_r8 1 (y0) (y1) (y2) (y3) (y4) (y5) (y6) (y7) (y8) ((IntKind.wrap .i64 (y9 + (1 : Int))))
 else
  none
else
 if (decide (((List.length y1 : Nat) : Int) > (0 : Int))) = true then
  if (decide (y4 > y5)) = true then
   if (!(decide (y4 ≤ y6))) = false then
    if (((List.length y1 : Nat) : Int) == (0 : Int)) = true then
     if (y4 != (0 : Int)) = true then
      some [(AV.b false)]
     else
      l_check_Sound_r17 0 (y5) (y6) (y5) (y6) (y3) (((List.length y3 : Nat) : Int)) ((0 : Int))
    else
     l_check_Sound_r17 0 (y5) (y6) (y5) (y6) (y3) (((List.length y3 : Nat) : Int)) ((0 : Int))
   else
    some [(AV.b false)]
  else
   some [(AV.b false)]
 else
  if (((List.length y1 : Nat) : Int) == (0 : Int)) = true then
   if (y4 != (0 : Int)) = true then
    some [(AV.b false)]
   else
    l_check_Sound_r17 0 (y5) (y6) (y5) (y6) (y3) (((List.length y3 : Nat) : Int)) ((0 : Int))
  else
   l_check_Sound_r17 0 (y5) (y6) (y5) (y6) (y3) (((List.length y3 : Nat) : Int)) ((0 : Int))
theorem e_check_Sound_r8 (k : Nat) (y0 y1 : List AV) (y2 y3 : List AV) (y4 y5 y6 : Int) (y7 : List AV) (y8 y9 : Int) : l_check_Sound_r8 (k + 17) y0 y1 y2 y3 y4 y5 y6 y7 y8 y9 = t_check_Sound_r8 (fun c => callP C (callF C (k + c))) (fun c => l_check_Sound_r8 (k + c)) (fun c => l_check_Sound_r17 (k + c)) y0 y1 y2 y3 y4 y5 y6 y7 y8 y9 := by kernel_rfl
theorem d_check_Sound_r8 (y0 y1 : List AV) (y2 y3 : List AV) (y4 y5 y6 : Int) (y7 : List AV) (y8 y9 : Int) {o : List AV} (h : t_check_Sound_r8 (fun _ => D) (fun _ => L_check_Sound_r8) (fun _ => L_check_Sound_r17) y0 y1 y2 y3 y4 y5 y6 y7 y8 y9 = some o) : L_check_Sound_r8 y0 y1 y2 y3 y4 y5 y6 y7 y8 y9 = some o := Lt.fin (fun k => e_check_Sound_r8 k y0 y1 y2 y3 y4 y5 y6 y7 y8 y9) (Lt.ite (Lt.ite (Lt.ite (Lt.ite (Lt.ite (Lt.ite Lt.ret (lt_check_Sound_r8 1 _ _ _ _ _ _ _ _ _ _)) Lt.ret) Lt.ret) (lt_check_Sound_r8 1 _ _ _ _ _ _ _ _ _ _)) Lt.no) (Lt.ite (Lt.ite (Lt.ite (Lt.ite (Lt.ite Lt.ret (lt_check_Sound_r17 0 _ _ _ _ _ _ _)) (lt_check_Sound_r17 0 _ _ _ _ _ _ _)) Lt.ret) Lt.ret) (Lt.ite (Lt.ite Lt.ret (lt_check_Sound_r17 0 _ _ _ _ _ _ _)) (lt_check_Sound_r17 0 _ _ _ _ _ _ _)))) h
noncomputable def t_ref16_Goto_r4 (Q : Nat → FuncId → List AV → Out) (l_ref16_Goto_r4 : Nat → List AV → List AV → List AV → List AV → Int → Int → List AV → List AV → Int → Out) (y0 y1 : List AV) (y2 y3 : List AV) (y4 y5 : Int) (y6 y7 : List AV) (y8 : Int) : Out :=
 if (decide (y8 < ((List.length y7 : Nat) : Int))) = true then
 if (decide (y5 > (0 : Int))) = true then
  if 0 ≤ y8 ∧ y8 < ((List.length y7) : Int) then
   (Q 8 ref16_Next [(AV.g [(AV.l T_api_Rule y0), (AV.l T_string y1), (AV.l T_api_Level y2), (AV.l T_api_Prod y3), (AV.i .i64 y4)]), (AV.g [(AV.i .i64 (AV.int (AV.fld (y7.getD (Int.toNat y8) .u) 0))), (AV.i .i64 (AV.int (AV.fld (y7.getD (Int.toNat y8) .u) 1)))])]).bind fun o1 =>
    if ((AV.int (List.headD o1 .u)) == y5) = true then
    if 0 ≤ y8 ∧ y8 < ((List.length y7) : Int) then
     if 0 ≤ y8 ∧ y8 < ((List.length y7) : Int) then
      if (List.length y6) + (List.length [(AV.g [(AV.i .i64 (AV.int (AV.fld (y7.getD (Int.toNat y8) .u) 0))), (AV.i .i64 (IntKind.wrap .i64 ((AV.int (AV.fld (y7.getD (Int.toNat y8) .u) 1)) + (1 : Int))))])]) ≤ 16777216 ∧ (false && false) = false then
       l_ref16_Goto_r4 0 (y0) (y1) (y2) (y3) (y4) (y5) ((y6 ++ [(AV.g [(AV.i .i64 (AV.int (AV.fld (y7.getD (Int.toNat y8) .u) 0))), (AV.i .i64 (IntKind.wrap .i64 ((AV.int (AV.fld (y7.getD (Int.toNat y8) .u) 1)) + (1 : Int))))])])) (y7) ((IntKind.wrap .i64 (y8 + (1 : Int))))
      else
       none
     else
      none
    else
     none
   else
    l_ref16_Goto_r4 0 (y0) (y1) (y2) (y3) (y4) (y5) (y6) (y7) ((IntKind.wrap .i64 (y8 + (1 : Int))))
  else
   none
 else
  l_ref16_Goto_r4 0 (y0) (y1) (y2) (y3) (y4) (y5) (y6) (y7) ((IntKind.wrap .i64 (y8 + (1 : Int))))
else
 (Q 10 ref16_Of [(AV.g [(AV.l T_api_Rule y0), (AV.l T_string y1), (AV.l T_api_Level y2), (AV.l T_api_Prod y3), (AV.i .i64 y4)]), (AV.l T_api_Item y6)]).bind fun o2 =>
  some [(AV.l T_api_Item (AV.list (List.headD o2 .u)))]
theorem e_ref16_Goto_r4 (k : Nat) (y0 y1 : List AV) (y2 y3 : List AV) (y4 y5 : Int) (y6 y7 : List AV) (y8 : Int) : l_ref16_Goto_r4 (k + 14) y0 y1 y2 y3 y4 y5 y6 y7 y8 = t_ref16_Goto_r4 (fun c => callP C (callF C (k + c))) (fun c => l_ref16_Goto_r4 (k + c)) y0 y1 y2 y3 y4 y5 y6 y7 y8 := by kernel_rfl
theorem d_ref16_Goto_r4 (y0 y1 : List AV) (y2 y3 : List AV) (y4 y5 : Int) (y6 y7 : List AV) (y8 : Int) {o : List AV} (h : t_ref16_Goto_r4 (fun _ => D) (fun _ => L_ref16_Goto_r4) y0 y1 y2 y3 y4 y5 y6 y7 y8 = some o) : L_ref16_Goto_r4 y0 y1 y2 y3 y4 y5 y6 y7 y8 = some o := Lt.fin (fun k => e_ref16_Goto_r4 k y0 y1 y2 y3 y4 y5 y6 y7 y8) (Lt.ite (Lt.ite (Lt.ite (Lt.bind (D_lt 8 _ _) fun o1 => (Lt.ite (Lt.ite (Lt.ite (Lt.ite (lt_ref16_Goto_r4 0 _ _ _ _ _ _ _ _ _) Lt.no) Lt.no) Lt.no) (lt_ref16_Goto_r4 0 _ _ _ _ _ _ _ _ _))) Lt.no) (lt_ref16_Goto_r4 0 _ _ _ _ _ _ _ _ _)) (Lt.bind (D_lt 10 _ _) fun o2 => Lt.ret)) h
noncomputable def t_items_closure_r10 (Q : Nat → FuncId → List AV → Out) (l_items_closure_r10 : Nat → List AV → List AV → List AV → List AV → Int → List AV → List AV → Int → Int → List AV → Int → Int → Out) (l_items_closure_r4 : Nat → List AV → List AV → List AV → List AV → Int → List AV → List AV → Int → Out) (y0 y1 : List AV) (y2 y3 : List AV) (y4 : Int) (y5 y6 : List AV) (y7 y8 : Int) (y9 : List AV) (y10 y11 : Int) : Out :=
 if (decide (y11 < y10)) = true then
 if 0 ≤ y11 ∧ y11 < ((List.length y9) : Int) then
  if ((AV.int (AV.fld (y9.getD (Int.toNat y11) .u) 0)) == y8) = true then
   if (List.length y5) + (List.length [(AV.g [(AV.i .i64 y11), (AV.i .i64 (0 : Int))])]) ≤ 16777216 ∧ (false && false) = false then
    l_items_closure_r10 0 (y0) (y1) (y2) (y3) (y4) ((y5 ++ [(AV.g [(AV.i .i64 y11), (AV.i .i64 (0 : Int))])])) (((unM (AV.l T_map_int_bool y6)).map fun q => AV.g [q.1, q.2])) (y7) (y8) (y9) (y10) ((IntKind.wrap .i64 (y11 + (1 : Int))))
   else
    none
  else
   l_items_closure_r10 0 (y0) (y1) (y2) (y3) (y4) (y5) (((unM (AV.l T_map_int_bool y6)).map fun q => AV.g [q.1, q.2])) (y7) (y8) (y9) (y10) ((IntKind.wrap .i64 (y11 + (1 : Int))))
 else
  none
else
 l_items_closure_r4 7 (y0) (y1) (y2) (y3) (y4) (y5) (((unM (AV.l T_map_int_bool y6)).map fun q => AV.g [q.1, q.2])) ((IntKind.wrap .i64 (y7 + (1 : Int))))
theorem e_items_closure_r10 (k : Nat) (y0 y1 : List AV) (y2 y3 : List AV) (y4 : Int) (y5 y6 : List AV) (y7 y8 : Int) (y9 : List AV) (y10 y11 : Int) : l_items_closure_r10 (k + 16) y0 y1 y2 y3 y4 y5 y6 y7 y8 y9 y10 y11 = t_items_closure_r10 (fun c => callP C (callF C (k + c))) (fun c => l_items_closure_r10 (k + c)) (fun c => l_items_closure_r4 (k + c)) y0 y1 y2 y3 y4 y5 y6 y7 y8 y9 y10 y11 := by kernel_rfl
theorem d_items_closure_r10 (y0 y1 : List AV) (y2 y3 : List AV) (y4 : Int) (y5 y6 : List AV) (y7 y8 : Int) (y9 : List AV) (y10 y11 : Int) {o : List AV} (h : t_items_closure_r10 (fun _ => D) (fun _ => L_items_closure_r10) (fun _ => L_items_closure_r4) y0 y1 y2 y3 y4 y5 y6 y7 y8 y9 y10 y11 = some o) : L_items_closure_r10 y0 y1 y2 y3 y4 y5 y6 y7 y8 y9 y10 y11 = some o := Lt.fin (fun k => e_items_closure_r10 k y0 y1 y2 y3 y4 y5 y6 y7 y8 y9 y10 y11) (Lt.ite (Lt.ite (Lt.ite (Lt.ite (lt_items_closure_r10 0 _ _ _ _ _ _ _ _ _ _ _ _) Lt.no) (lt_items_closure_r10 0 _ _ _ _ _ _ _ _ _ _ _ _)) Lt.no) (lt_items_closure_r4 7 _ _ _ _ _ _ _ _)) h
noncomputable def t_auto_key_r3 (Q : Nat → FuncId → List AV → Out) (l_auto_key_r3_x1 : Nat → List AV → List AV → Int → Int → Out) (y0 y1 : List AV) (y2 y3 : Int) : Out :=
 if (decide (y3 < y2)) = true then
 if 0 ≤ y3 ∧ y3 < ((List.length y1) : Int) then
  (Q 9 strconv_Itoa [(AV.i .i64 (AV.int (AV.fld (y1.getD (Int.toNat y3) .u) 0)))]).bind fun o1 =>
   if ByteArray.size (AV.str (List.headD o1 .u)) + ByteArray.size ⟨#[46]⟩ ≤ 9223372036854775807 then
   (Q 9 strconv_Itoa [(AV.i .i64 (AV.int (AV.fld (y1.getD (Int.toNat y3) .u) 1)))]).bind fun o2 =>
    if ByteArray.size ((AV.str (List.headD o1 .u)) ++ ⟨#[46]⟩) + ByteArray.size (AV.str (List.headD o2 .u)) ≤ 9223372036854775807 then
    if ByteArray.size (((AV.str (List.headD o1 .u)) ++ ⟨#[46]⟩) ++ (AV.str (List.headD o2 .u))) + ByteArray.size ⟨#[32]⟩ ≤ 9223372036854775807 then
     if (List.length y0) + (List.length ((((((AV.str (List.headD o1 .u)) ++ ⟨#[46]⟩) ++ (AV.str (List.headD o2 .u))) ++ ⟨#[32]⟩)).data.toList.map fun (c : UInt8) => AV.i .u8 (c.toNat : Int))) ≤ 16777216 ∧ (true && false) = false then
      l_auto_key_r3_x1 4 ((y0 ++ ((((((AV.str (List.headD o1 .u)) ++ ⟨#[46]⟩) ++ (AV.str (List.headD o2 .u))) ++ ⟨#[32]⟩)).data.toList.map fun (c : UInt8) => AV.i .u8 (c.toNat : Int)))) (y1) (y2) ((IntKind.wrap .i64 (y3 + (1 : Int))))
     else
      none
    else
     none
   else
    none
  else
   none
 else
  none
else
 if (decide ((5 : Nat) = 5 ∧ List.length y0 ≤ 16777216 ∧ List.all y0 isByte = true)) = true then
  some [(AV.s (bytesOf y0))]
 else
  none
theorem e_auto_key_r3 (k : Nat) (y0 y1 : List AV) (y2 y3 : Int) : l_auto_key_r3 (k + 17) y0 y1 y2 y3 = t_auto_key_r3 (fun c => callP C (callF C (k + c))) (fun c => l_auto_key_r3_x1 (k + c)) y0 y1 y2 y3 := by kernel_rfl
theorem d_auto_key_r3 (y0 y1 : List AV) (y2 y3 : Int) {o : List AV} (h : t_auto_key_r3 (fun _ => D) (fun _ => L_auto_key_r3_x1) y0 y1 y2 y3 = some o) : L_auto_key_r3 y0 y1 y2 y3 = some o := Lt.fin (fun k => e_auto_key_r3 k y0 y1 y2 y3) (Lt.ite (Lt.ite (Lt.bind (D_lt 9 _ _) fun o1 => (Lt.ite (Lt.bind (D_lt 9 _ _) fun o2 => (Lt.ite (Lt.ite (Lt.ite (lt_auto_key_r3_x1 4 _ _ _ _) Lt.no) Lt.no) Lt.no)) Lt.no)) Lt.no) (Lt.ite Lt.ret Lt.no)) h
noncomputable def t_ref16_Of_r7 (Q : Nat → FuncId → List AV → Out) (l_ref16_Of_r7 : Nat → List AV → List AV → List AV → List AV → Int → List AV → List AV → Int → Int → Int → Out) (l_ref16_Of_r3 : Nat → List AV → List AV → List AV → List AV → Int → List AV → List AV → Int → Out) (y0 y1 : List AV) (y2 y3 : List AV) (y4 : Int) (y5 y6 : List AV) (y7 y8 y9 : Int) : Out :=
 if (decide (y9 ≤ y8)) = true then
 (Q 8 ref16_Has [(AV.l T_api_Item y5), (AV.g [(AV.i .i64 y7), (AV.i .i64 y9)])]).bind fun o1 =>
  if (AV.bool (List.headD o1 .u)) = true then
  if (List.length y6) + (List.length [(AV.g [(AV.i .i64 y7), (AV.i .i64 y9)])]) ≤ 16777216 ∧ (false && false) = false then
   l_ref16_Of_r7 0 (y0) (y1) (y2) (y3) (y4) (y5) ((y6 ++ [(AV.g [(AV.i .i64 y7), (AV.i .i64 y9)])])) (y7) (y8) ((IntKind.wrap .i64 (y9 + (1 : Int))))
  else
   none
 else
  l_ref16_Of_r7 0 (y0) (y1) (y2) (y3) (y4) (y5) (y6) (y7) (y8) ((IntKind.wrap .i64 (y9 + (1 : Int))))
else
 l_ref16_Of_r3 6 (y0) (y1) (y2) (y3) (y4) (y5) (y6) ((IntKind.wrap .i64 (y7 + (1 : Int))))
theorem e_ref16_Of_r7 (k : Nat) (y0 y1 : List AV) (y2 y3 : List AV) (y4 : Int) (y5 y6 : List AV) (y7 y8 y9 : Int) : l_ref16_Of_r7 (k + 14) y0 y1 y2 y3 y4 y5 y6 y7 y8 y9 = t_ref16_Of_r7 (fun c => callP C (callF C (k + c))) (fun c => l_ref16_Of_r7 (k + c)) (fun c => l_ref16_Of_r3 (k + c)) y0 y1 y2 y3 y4 y5 y6 y7 y8 y9 := by kernel_rfl
theorem d_ref16_Of_r7 (y0 y1 : List AV) (y2 y3 : List AV) (y4 : Int) (y5 y6 : List AV) (y7 y8 y9 : Int) {o : List AV} (h : t_ref16_Of_r7 (fun _ => D) (fun _ => L_ref16_Of_r7) (fun _ => L_ref16_Of_r3) y0 y1 y2 y3 y4 y5 y6 y7 y8 y9 = some o) : L_ref16_Of_r7 y0 y1 y2 y3 y4 y5 y6 y7 y8 y9 = some o := Lt.fin (fun k => e_ref16_Of_r7 k y0 y1 y2 y3 y4 y5 y6 y7 y8 y9) (Lt.ite (Lt.bind (D_lt 8 _ _) fun o1 => (Lt.ite (Lt.ite (lt_ref16_Of_r7 0 _ _ _ _ _ _ _ _ _ _) Lt.no) (lt_ref16_Of_r7 0 _ _ _ _ _ _ _ _ _ _))) (lt_ref16_Of_r3 6 _ _ _ _ _ _ _ _)) h
noncomputable def t_ref16_Closure_r7 (Q : Nat → FuncId → List AV → Out) (l_ref16_Closure_r7 : Nat → List AV → List AV → List AV → List AV → Int → List AV → Bool → Int → Out) (l_ref16_Closure_r12 : Nat → List AV → List AV → List AV → List AV → Int → Int → Int → List AV → Bool → Int → Int → Out) (l_ref16_Closure_r4 : Nat → List AV → List AV → List AV → List AV → Int → List AV → Bool → Out) (y0 y1 : List AV) (y2 y3 : List AV) (y4 : Int) (y5 : List AV) (y6 : Bool) (y7 : Int) : Out :=
 if (decide (y7 < ((List.length y3 : Nat) : Int))) = true then
 (Q 9 ref16_Has [(AV.l T_api_Item y5), (AV.g [(AV.i .i64 y7), (AV.i .i64 (0 : Int))])]).bind fun o1 =>
  if (AV.bool (List.headD o1 .u)) = true then
  l_ref16_Closure_r7 2 (y0) (y1) (y2) (y3) (y4) (y5) (y6) ((IntKind.wrap .i64 (y7 + (1 : Int))))
 else
  l_ref16_Closure_r12 0 (y0) (y1) (y2) (y3) (y4) (y7) ((0 : Int)) (y5) (y6) (y7) ((0 : Int))
else
 l_ref16_Closure_r4 11 (y0) (y1) (y2) (y3) (y4) (y5) (y6)
theorem e_ref16_Closure_r7 (k : Nat) (y0 y1 : List AV) (y2 y3 : List AV) (y4 : Int) (y5 : List AV) (y6 : Bool) (y7 : Int) : l_ref16_Closure_r7 (k + 18) y0 y1 y2 y3 y4 y5 y6 y7 = t_ref16_Closure_r7 (fun c => callP C (callF C (k + c))) (fun c => l_ref16_Closure_r7 (k + c)) (fun c => l_ref16_Closure_r12 (k + c)) (fun c => l_ref16_Closure_r4 (k + c)) y0 y1 y2 y3 y4 y5 y6 y7 := by kernel_rfl
theorem d_ref16_Closure_r7 (y0 y1 : List AV) (y2 y3 : List AV) (y4 : Int) (y5 : List AV) (y6 : Bool) (y7 : Int) {o : List AV} (h : t_ref16_Closure_r7 (fun _ => D) (fun _ => L_ref16_Closure_r7) (fun _ => L_ref16_Closure_r12) (fun _ => L_ref16_Closure_r4) y0 y1 y2 y3 y4 y5 y6 y7 = some o) : L_ref16_Closure_r7 y0 y1 y2 y3 y4 y5 y6 y7 = some o := Lt.fin (fun k => e_ref16_Closure_r7 k y0 y1 y2 y3 y4 y5 y6 y7) (Lt.ite (Lt.bind (D_lt 9 _ _) fun o1 => (Lt.ite (lt_ref16_Closure_r7 2 _ _ _ _ _ _ _ _) (lt_ref16_Closure_r12 0 _ _ _ _ _ _ _ _ _ _ _))) (lt_ref16_Closure_r4 11 _ _ _ _ _ _ _)) h
noncomputable def t_slices_ContainsFunc_api_Item_items_Right_c1 (Q : Nat → FuncId → List AV → Out) (x0 x1 : List AV) (x2 x3 x4 : List AV) (x5 : Int) : Out :=
 (Q 1 slices_IndexFunc_api_Item [(AV.l T_api_Item x0), (AV.fn items_Right_c1 [] [(AV.at T_api_Grammar (AV.g [(AV.l T_api_Rule x1), (AV.l T_string x2), (AV.l T_api_Level x3), (AV.l T_api_Prod x4), (AV.i .i64 x5)]))])]).bind fun o1 =>
 some [(AV.b (decide ((AV.int (List.headD o1 .u)) ≥ (0 : Int))))]
theorem e_slices_ContainsFunc_api_Item_items_Right_c1 (k : Nat) (x0 x1 : List AV) (x2 x3 x4 : List AV) (x5 : Int) : call C (k + 5) slices_ContainsFunc_api_Item [(AV.l T_api_Item x0), (AV.fn items_Right_c1 [] [(AV.at T_api_Grammar (AV.g [(AV.l T_api_Rule x1), (AV.l T_string x2), (AV.l T_api_Level x3), (AV.l T_api_Prod x4), (AV.i .i64 x5)]))])] = t_slices_ContainsFunc_api_Item_items_Right_c1 (fun c => callP C (callF C (k + c))) x0 x1 x2 x3 x4 x5 := by kernel_rfl
theorem d_slices_ContainsFunc_api_Item_items_Right_c1 (x0 x1 : List AV) (x2 x3 x4 : List AV) (x5 : Int) {o : List AV} (h : t_slices_ContainsFunc_api_Item_items_Right_c1 (fun _ => D) x0 x1 x2 x3 x4 x5 = some o) : D slices_ContainsFunc_api_Item [(AV.l T_api_Item x0), (AV.fn items_Right_c1 [] [(AV.at T_api_Grammar (AV.g [(AV.l T_api_Rule x1), (AV.l T_string x2), (AV.l T_api_Level x3), (AV.l T_api_Prod x4), (AV.i .i64 x5)]))])] = some o := D_fin (by rfl) (fun k => e_slices_ContainsFunc_api_Item_items_Right_c1 k x0 x1 x2 x3 x4 x5) (Lt.bind (D_lt 1 _ _) fun o1 => Lt.ret) h
noncomputable def t_ref16_Goto (Q : Nat → FuncId → List AV → Out) (l_ref16_Goto_r4 : Nat → List AV → List AV → List AV → List AV → Int → Int → List AV → List AV → Int → Out) (x0 x1 : List AV) (x2 x3 : List AV) (x4 : Int) (x5 : List AV) (x6 : Int) : Out :=
 (Q 8 ref16_Closure [(AV.g [(AV.l T_api_Rule x0), (AV.l T_string x1), (AV.l T_api_Level x2), (AV.l T_api_Prod x3), (AV.i .i64 x4)]), (AV.l T_api_Item x5)]).bind fun o1 =>
 l_ref16_Goto_r4 0 (x0) (x1) (x2) (x3) (x4) (x6) (([] : List AV)) ((AV.list (List.headD o1 .u))) ((0 : Int))
theorem e_ref16_Goto (k : Nat) (x0 x1 : List AV) (x2 x3 : List AV) (x4 : Int) (x5 : List AV) (x6 : Int) : call C (k + 14) ref16_Goto [(AV.g [(AV.l T_api_Rule x0), (AV.l T_string x1), (AV.l T_api_Level x2), (AV.l T_api_Prod x3), (AV.i .i64 x4)]), (AV.l T_api_Item x5), (AV.i .i64 x6)] = t_ref16_Goto (fun c => callP C (callF C (k + c))) (fun c => l_ref16_Goto_r4 (k + c)) x0 x1 x2 x3 x4 x5 x6 := by kernel_rfl
theorem d_ref16_Goto (x0 x1 : List AV) (x2 x3 : List AV) (x4 : Int) (x5 : List AV) (x6 : Int) {o : List AV} (h : t_ref16_Goto (fun _ => D) (fun _ => L_ref16_Goto_r4) x0 x1 x2 x3 x4 x5 x6 = some o) : D ref16_Goto [(AV.g [(AV.l T_api_Rule x0), (AV.l T_string x1), (AV.l T_api_Level x2), (AV.l T_api_Prod x3), (AV.i .i64 x4)]), (AV.l T_api_Item x5), (AV.i .i64 x6)] = some o := D_fin (by rfl) (fun k => e_ref16_Goto k x0 x1 x2 x3 x4 x5 x6) (Lt.bind (D_lt 8 _ _) fun o1 => (lt_ref16_Goto_r4 0 _ _ _ _ _ _ _ _ _)) h
noncomputable def t_items_closure (Q : Nat → FuncId → List AV → Out) (l_items_closure_r4 : Nat → List AV → List AV → List AV → List AV → Int → List AV → List AV → Int → Out) (x0 x1 : List AV) (x2 x3 : List AV) (x4 : Int) (x5 : List AV) : Out :=
 (Q 10 slices_Clone_api_Item [(AV.l T_api_Item x5)]).bind fun o1 =>
 l_items_closure_r4 0 (x0) (x1) (x2) (x3) (x4) ((AV.list (List.headD o1 .u))) ((([] : List (AV × AV)).map fun q => AV.g [q.1, q.2])) ((0 : Int))
theorem e_items_closure (k : Nat) (x0 x1 : List AV) (x2 x3 : List AV) (x4 : Int) (x5 : List AV) : call C (k + 14) items_closure [(AV.g [(AV.l T_api_Rule x0), (AV.l T_string x1), (AV.l T_api_Level x2), (AV.l T_api_Prod x3), (AV.i .i64 x4)]), (AV.l T_api_Item x5)] = t_items_closure (fun c => callP C (callF C (k + c))) (fun c => l_items_closure_r4 (k + c)) x0 x1 x2 x3 x4 x5 := by kernel_rfl
theorem d_items_closure (x0 x1 : List AV) (x2 x3 : List AV) (x4 : Int) (x5 : List AV) {o : List AV} (h : t_items_closure (fun _ => D) (fun _ => L_items_closure_r4) x0 x1 x2 x3 x4 x5 = some o) : D items_closure [(AV.g [(AV.l T_api_Rule x0), (AV.l T_string x1), (AV.l T_api_Level x2), (AV.l T_api_Prod x3), (AV.i .i64 x4)]), (AV.l T_api_Item x5)] = some o := D_fin (by rfl) (fun k => e_items_closure k x0 x1 x2 x3 x4 x5) (Lt.bind (D_lt 10 _ _) fun o1 => (lt_items_closure_r4 0 _ _ _ _ _ _ _ _)) h
noncomputable def t_cmp_Compare_int (Q : Nat → FuncId → List AV → Out) (x0 x1 : Int) : Out :=
 (Q 25 cmp_isNaN_int [(AV.i .i64 x0)]).bind fun o1 =>
 (Q 23 cmp_isNaN_int [(AV.i .i64 x1)]).bind fun o2 =>
 if (AV.bool (List.headD o1 .u)) = true then
 if (AV.bool (List.headD o2 .u)) = true then
  some [(AV.i .i64 (0 : Int))]
 else
  some [(AV.i .i64 (-1 : Int))]
else
 if (AV.bool (List.headD o2 .u)) = true then
  some [(AV.i .i64 (1 : Int))]
 else
  if (decide (x0 < x1)) = true then
   some [(AV.i .i64 (-1 : Int))]
  else
   if (decide (x0 > x1)) = true then
    some [(AV.i .i64 (1 : Int))]
   else
    some [(AV.i .i64 (0 : Int))]
theorem e_cmp_Compare_int (k : Nat) (x0 x1 : Int) : call C (k + 29) cmp_Compare_int [(AV.i .i64 x0), (AV.i .i64 x1)] = t_cmp_Compare_int (fun c => callP C (callF C (k + c))) x0 x1 := by kernel_rfl
theorem d_cmp_Compare_int (x0 x1 : Int) {o : List AV} (h : t_cmp_Compare_int (fun _ => D) x0 x1 = some o) : D cmp_Compare_int [(AV.i .i64 x0), (AV.i .i64 x1)] = some o := D_fin (by rfl) (fun k => e_cmp_Compare_int k x0 x1) (Lt.bind (D_lt 25 _ _) fun o1 => (Lt.bind (D_lt 23 _ _) fun o2 => (Lt.ite (Lt.ite Lt.ret Lt.ret) (Lt.ite Lt.ret (Lt.ite Lt.ret (Lt.ite Lt.ret Lt.ret)))))) h
noncomputable def t_word_blank_r7 (Q : Nat → FuncId → List AV → Out) (l_word_blank_r7 : Nat → ByteArray → Int → Out) (l_word_blank_r2 : Nat → ByteArray → Int → Out) (y0 : ByteArray) (y1 : Int) : Out :=
 if (decide (y1 < ((ByteArray.size y0 : Nat) : Int))) = true then
 if 0 ≤ y1 ∧ y1 < ((ByteArray.size y0 : Nat) : Int) then
  if (((((y0).data.getD (Int.toNat y1) 0).toNat : Nat) : Int) != (10 : Int)) = true then
   l_word_blank_r7 0 (y0) ((IntKind.wrap .i64 (y1 + (1 : Int))))
  else
   l_word_blank_r2 1 (y0) (y1)
 else
  none
else
 l_word_blank_r2 1 (y0) (y1)
theorem e_word_blank_r7 (k : Nat) (y0 : ByteArray) (y1 : Int) : l_word_blank_r7 (k + 9) y0 y1 = t_word_blank_r7 (fun c => callP C (callF C (k + c))) (fun c => l_word_blank_r7 (k + c)) (fun c => l_word_blank_r2 (k + c)) y0 y1 := by kernel_rfl
theorem d_word_blank_r7 (y0 : ByteArray) (y1 : Int) {o : List AV} (h : t_word_blank_r7 (fun _ => D) (fun _ => L_word_blank_r7) (fun _ => L_word_blank_r2) y0 y1 = some o) : L_word_blank_r7 y0 y1 = some o := Lt.fin (fun k => e_word_blank_r7 k y0 y1) (Lt.ite (Lt.ite (Lt.ite (lt_word_blank_r7 0 _ _) (lt_word_blank_r2 1 _ _)) Lt.no) (lt_word_blank_r2 1 _ _)) h
noncomputable def t_ref13_names_r10 (Q : Nat → FuncId → List AV → Out) (l_ref13_names_r15 : Nat → List AV → Int → Int → Out) (y0 : List AV) (y1 : Int) : Out :=
 if (decide (y1 < ((List.length y0 : Nat) : Int))) = true then
 if 0 ≤ y1 ∧ y1 < ((List.length y0) : Int) then
  (Q 9 ref13_named [(AV.s (AV.str (y0.getD (Int.toNat y1) .u)))]).bind fun o1 =>
   if (!(AV.bool (List.headD o1 .u))) = true then
   some [(AV.b false)]
  else
   l_ref13_names_r15 0 (y0) (y1) ((0 : Int))
 else
  none
else
 some [(AV.b true)]
theorem e_ref13_names_r10 (k : Nat) (y0 : List AV) (y1 : Int) : l_ref13_names_r10 (k + 16) y0 y1 = t_ref13_names_r10 (fun c => callP C (callF C (k + c))) (fun c => l_ref13_names_r15 (k + c)) y0 y1 := by kernel_rfl
theorem d_ref13_names_r10 (y0 : List AV) (y1 : Int) {o : List AV} (h : t_ref13_names_r10 (fun _ => D) (fun _ => L_ref13_names_r15) y0 y1 = some o) : L_ref13_names_r10 y0 y1 = some o := Lt.fin (fun k => e_ref13_names_r10 k y0 y1) (Lt.ite (Lt.ite (Lt.bind (D_lt 9 _ _) fun o1 => (Lt.ite Lt.ret (lt_ref13_names_r15 0 _ _ _))) Lt.no) Lt.ret) h
noncomputable def t_slices_ContainsFunc_int_check_Sound_c2 (Q : Nat → FuncId → List AV → Out) (x0 : List AV) (x1 : Int) : Out :=
 (Q 1 slices_IndexFunc_int [(AV.l T_int x0), (AV.fn check_Sound_c2 [] [(AV.at T_int (AV.i .i64 x1))])]).bind fun o1 =>
 some [(AV.b (decide ((AV.int (List.headD o1 .u)) ≥ (0 : Int))))]
theorem e_slices_ContainsFunc_int_check_Sound_c2 (k : Nat) (x0 : List AV) (x1 : Int) : call C (k + 5) slices_ContainsFunc_int [(AV.l T_int x0), (AV.fn check_Sound_c2 [] [(AV.at T_int (AV.i .i64 x1))])] = t_slices_ContainsFunc_int_check_Sound_c2 (fun c => callP C (callF C (k + c))) x0 x1 := by kernel_rfl
theorem d_slices_ContainsFunc_int_check_Sound_c2 (x0 : List AV) (x1 : Int) {o : List AV} (h : t_slices_ContainsFunc_int_check_Sound_c2 (fun _ => D) x0 x1 = some o) : D slices_ContainsFunc_int [(AV.l T_int x0), (AV.fn check_Sound_c2 [] [(AV.at T_int (AV.i .i64 x1))])] = some o := D_fin (by rfl) (fun k => e_slices_ContainsFunc_int_check_Sound_c2 k x0 x1) (Lt.bind (D_lt 1 _ _) fun o1 => Lt.ret) h
noncomputable def t_slices_Contains_string (Q : Nat → FuncId → List AV → Out) (x0 : List AV) (x1 : ByteArray) : Out :=
 (Q 1 slices_Index_string [(AV.l T_string x0), (AV.s x1)]).bind fun o1 =>
 some [(AV.b (decide ((AV.int (List.headD o1 .u)) ≥ (0 : Int))))]
theorem e_slices_Contains_string (k : Nat) (x0 : List AV) (x1 : ByteArray) : call C (k + 5) slices_Contains_string [(AV.l T_string x0), (AV.s x1)] = t_slices_Contains_string (fun c => callP C (callF C (k + c))) x0 x1 := by kernel_rfl
theorem d_slices_Contains_string (x0 : List AV) (x1 : ByteArray) {o : List AV} (h : t_slices_Contains_string (fun _ => D) x0 x1 = some o) : D slices_Contains_string [(AV.l T_string x0), (AV.s x1)] = some o := D_fin (by rfl) (fun k => e_slices_Contains_string k x0 x1) (Lt.bind (D_lt 1 _ _) fun o1 => Lt.ret) h
noncomputable def t_cmp_isNaN_int (Q : Nat → FuncId → List AV → Out) (x0 : Int) : Out :=
 some [(AV.b (x0 != x0))]
theorem e_cmp_isNaN_int (k : Nat) (x0 : Int) : call C (k + 5) cmp_isNaN_int [(AV.i .i64 x0)] = t_cmp_isNaN_int (fun c => callP C (callF C (k + c))) x0 := by kernel_rfl
theorem d_cmp_isNaN_int (x0 : Int) {o : List AV} (h : t_cmp_isNaN_int (fun _ => D) x0 = some o) : D cmp_isNaN_int [(AV.i .i64 x0)] = some o := D_fin (by rfl) (fun k => e_cmp_isNaN_int k x0) Lt.ret h
noncomputable def t_slices_CompactFunc_api_Item_items_sorted_c1_r9 (Q : Nat → FuncId → List AV → Out) (l_slices_CompactFunc_api_Item_items_sorted_c1_r9 : Nat → List AV → Int → Int → Nat → Nat → Out) (y0 : List AV) (y1 y2 : Int) (y3 y4 : Nat) : Out :=
 if (decide (y2 < ((y4 : Nat) : Int))) = true then
 if 0 ≤ y2 ∧ y2 < (y4 : Int) then
  if 0 ≤ (IntKind.wrap .i64 (y2 - (1 : Int))) ∧ (IntKind.wrap .i64 (y2 - (1 : Int))) < (y4 : Int) then
   (Q 10 items_sorted_c1 [(AV.g [(AV.i .i64 (AV.int (AV.fld (y0.getD (y3 + (Int.toNat y2)) .u) 0))), (AV.i .i64 (AV.int (AV.fld (y0.getD (y3 + (Int.toNat y2)) .u) 1)))]), (AV.g [(AV.i .i64 (AV.int (AV.fld (y0.getD (y3 + (Int.toNat (IntKind.wrap .i64 (y2 - (1 : Int))))) .u) 0))), (AV.i .i64 (AV.int (AV.fld (y0.getD (y3 + (Int.toNat (IntKind.wrap .i64 (y2 - (1 : Int))))) .u) 1)))])]).bind fun o1 =>
    if (!(AV.bool (List.headD o1 .u))) = true then
    if 0 ≤ y2 ∧ y2 < (y4 : Int) then
     if 0 ≤ y1 ∧ y1 < ((List.length y0) : Int) then
      l_slices_CompactFunc_api_Item_items_sorted_c1_r9 0 ((y0.set (Int.toNat y1) (AV.g [(AV.i .i64 (AV.int (AV.fld (y0.getD (y3 + (Int.toNat y2)) .u) 0))), (AV.i .i64 (AV.int (AV.fld (y0.getD (y3 + (Int.toNat y2)) .u) 1)))]))) ((IntKind.wrap .i64 (y1 + (1 : Int)))) ((IntKind.wrap .i64 (y2 + (1 : Int)))) (y3) (y4)
     else
      none
    else
     none
   else
    l_slices_CompactFunc_api_Item_items_sorted_c1_r9 2 (y0) (y1) ((IntKind.wrap .i64 (y2 + (1 : Int)))) (y3) (y4)
  else
   none
 else
  none
else
 if 0 ≤ y1 ∧ y1 ≤ ((List.length y0) : Int) then
  if (43 : Nat) = 43 ∧ (Int.toNat y1) + ((List.length y0) - (Int.toNat y1)) ≤ List.length y0 then
   if 0 ≤ y1 ∧ y1 ≤ ((List.length (y0.take (Int.toNat y1) ++ (List.replicate ((List.length y0) - (Int.toNat y1)) (AV.g [(AV.i .i64 (0 : Int)), (AV.i .i64 (0 : Int))]) ++ y0.drop ((Int.toNat y1) + ((List.length y0) - (Int.toNat y1)))))) : Int) then
    some [(AV.l T_api_Item (((y0.take (Int.toNat y1) ++ (List.replicate ((List.length y0) - (Int.toNat y1)) (AV.g [(AV.i .i64 (0 : Int)), (AV.i .i64 (0 : Int))]) ++ y0.drop ((Int.toNat y1) + ((List.length y0) - (Int.toNat y1))))).drop 0).take ((Int.toNat y1) - 0)))]
   else
    none
  else
   none
 else
  none
theorem e_slices_CompactFunc_api_Item_items_sorted_c1_r9 (k : Nat) (y0 : List AV) (y1 y2 : Int) (y3 y4 : Nat) : l_slices_CompactFunc_api_Item_items_sorted_c1_r9 (k + 16) y0 y1 y2 y3 y4 = t_slices_CompactFunc_api_Item_items_sorted_c1_r9 (fun c => callP C (callF C (k + c))) (fun c => l_slices_CompactFunc_api_Item_items_sorted_c1_r9 (k + c)) y0 y1 y2 y3 y4 := by kernel_rfl
theorem d_slices_CompactFunc_api_Item_items_sorted_c1_r9 (y0 : List AV) (y1 y2 : Int) (y3 y4 : Nat) {o : List AV} (h : t_slices_CompactFunc_api_Item_items_sorted_c1_r9 (fun _ => D) (fun _ => L_slices_CompactFunc_api_Item_items_sorted_c1_r9) y0 y1 y2 y3 y4 = some o) : L_slices_CompactFunc_api_Item_items_sorted_c1_r9 y0 y1 y2 y3 y4 = some o := Lt.fin (fun k => e_slices_CompactFunc_api_Item_items_sorted_c1_r9 k y0 y1 y2 y3 y4) (Lt.ite (Lt.ite (Lt.ite (Lt.bind (D_lt 10 _ _) fun o1 => (Lt.ite (Lt.ite (Lt.ite (lt_slices_CompactFunc_api_Item_items_sorted_c1_r9 0 _ _ _ _ _) Lt.no) Lt.no) (lt_slices_CompactFunc_api_Item_items_sorted_c1_r9 2 _ _ _ _ _))) Lt.no) Lt.no) (Lt.ite (Lt.ite (Lt.ite Lt.ret Lt.no) Lt.no) Lt.no)) h
noncomputable def t_items_closure_r4 (Q : Nat → FuncId → List AV → Out) (l_items_closure_r4 : Nat → List AV → List AV → List AV → List AV → Int → List AV → List AV → Int → Out) (l_items_closure_r10 : Nat → List AV → List AV → List AV → List AV → Int → List AV → List AV → Int → Int → List AV → Int → Int → Out) (y0 y1 : List AV) (y2 y3 : List AV) (y4 : Int) (y5 y6 : List AV) (y7 : Int) : Out :=
 if (decide (y7 < ((List.length y5 : Nat) : Int))) = true then
 if 0 ≤ y7 ∧ y7 < ((List.length y5) : Int) then
  (Q 13 items_next [(AV.g [(AV.l T_api_Rule y0), (AV.l T_string y1), (AV.l T_api_Level y2), (AV.l T_api_Prod y3), (AV.i .i64 y4)]), (AV.g [(AV.i .i64 (AV.int (AV.fld (y5.getD (Int.toNat y7) .u) 0))), (AV.i .i64 (AV.int (AV.fld (y5.getD (Int.toNat y7) .u) 1)))])]).bind fun o1 =>
   if ((AV.int (List.headD o1 .u)) == (0 : Int)) = false then
   if (hasM (AV.i .i64 (AV.int (List.headD o1 .u))) (unM (AV.l T_map_int_bool y6))) = true then
    if (AV.bool (getM (AV.i .i64 (AV.int (List.headD o1 .u))) (unM (AV.l T_map_int_bool y6)))) = true then
     l_items_closure_r4 3 (y0) (y1) (y2) (y3) (y4) (y5) (((unM (AV.l T_map_int_bool y6)).map fun q => AV.g [q.1, q.2])) ((IntKind.wrap .i64 (y7 + (1 : Int))))
    else
     l_items_closure_r10 0 (y0) (y1) (y2) (y3) (y4) (y5) (((putM (AV.i .i64 (AV.int (List.headD o1 .u))) (AV.b true) (unM (AV.l T_map_int_bool y6))).map fun q => AV.g [q.1, q.2])) (y7) ((AV.int (List.headD o1 .u))) (y3) (((List.length y3 : Nat) : Int)) ((0 : Int))
   else
    l_items_closure_r10 0 (y0) (y1) (y2) (y3) (y4) (y5) (((putM (AV.i .i64 (AV.int (List.headD o1 .u))) (AV.b true) (unM (AV.l T_map_int_bool y6))).map fun q => AV.g [q.1, q.2])) (y7) ((AV.int (List.headD o1 .u))) (y3) (((List.length y3 : Nat) : Int)) ((0 : Int))
  else
   l_items_closure_r4 3 (y0) (y1) (y2) (y3) (y4) (y5) (((unM (AV.l T_map_int_bool y6)).map fun q => AV.g [q.1, q.2])) ((IntKind.wrap .i64 (y7 + (1 : Int))))
 else
  none
else
 (Q 15 items_sorted [(AV.l T_api_Item y5)]).bind fun o2 =>
  some [(AV.l T_api_Item (AV.list (List.headD o2 .u)))]
theorem e_items_closure_r4 (k : Nat) (y0 y1 : List AV) (y2 y3 : List AV) (y4 : Int) (y5 y6 : List AV) (y7 : Int) : l_items_closure_r4 (k + 19) y0 y1 y2 y3 y4 y5 y6 y7 = t_items_closure_r4 (fun c => callP C (callF C (k + c))) (fun c => l_items_closure_r4 (k + c)) (fun c => l_items_closure_r10 (k + c)) y0 y1 y2 y3 y4 y5 y6 y7 := by kernel_rfl
theorem d_items_closure_r4 (y0 y1 : List AV) (y2 y3 : List AV) (y4 : Int) (y5 y6 : List AV) (y7 : Int) {o : List AV} (h : t_items_closure_r4 (fun _ => D) (fun _ => L_items_closure_r4) (fun _ => L_items_closure_r10) y0 y1 y2 y3 y4 y5 y6 y7 = some o) : L_items_closure_r4 y0 y1 y2 y3 y4 y5 y6 y7 = some o := Lt.fin (fun k => e_items_closure_r4 k y0 y1 y2 y3 y4 y5 y6 y7) (Lt.ite (Lt.ite (Lt.bind (D_lt 13 _ _) fun o1 => (Lt.ite (Lt.ite (Lt.ite (lt_items_closure_r4 3 _ _ _ _ _ _ _ _) (lt_items_closure_r10 0 _ _ _ _ _ _ _ _ _ _ _ _)) (lt_items_closure_r10 0 _ _ _ _ _ _ _ _ _ _ _ _)) (lt_items_closure_r4 3 _ _ _ _ _ _ _ _))) Lt.no) (Lt.bind (D_lt 15 _ _) fun o2 => Lt.ret)) h
noncomputable def t_slices_CompactFunc_api_Item_items_sorted_c1_r4 (Q : Nat → FuncId → List AV → Out) (l_slices_CompactFunc_api_Item_items_sorted_c1_r9 : Nat → List AV → Int → Int → Nat → Nat → Out) (l_slices_CompactFunc_api_Item_items_sorted_c1_r4 : Nat → List AV → Int → Out) (y0 : List AV) (y1 : Int) : Out :=
 if (decide (y1 < ((List.length y0 : Nat) : Int))) = true then
 if 0 ≤ y1 ∧ y1 < ((List.length y0) : Int) then
  if 0 ≤ (IntKind.wrap .i64 (y1 - (1 : Int))) ∧ (IntKind.wrap .i64 (y1 - (1 : Int))) < ((List.length y0) : Int) then
   (Q 11 items_sorted_c1 [(AV.g [(AV.i .i64 (AV.int (AV.fld (y0.getD (Int.toNat y1) .u) 0))), (AV.i .i64 (AV.int (AV.fld (y0.getD (Int.toNat y1) .u) 1)))]), (AV.g [(AV.i .i64 (AV.int (AV.fld (y0.getD (Int.toNat (IntKind.wrap .i64 (y1 - (1 : Int)))) .u) 0))), (AV.i .i64 (AV.int (AV.fld (y0.getD (Int.toNat (IntKind.wrap .i64 (y1 - (1 : Int)))) .u) 1)))])]).bind fun o1 =>
    if (AV.bool (List.headD o1 .u)) = true then
    if 0 ≤ y1 ∧ y1 ≤ ((List.length y0) : Int) then
     l_slices_CompactFunc_api_Item_items_sorted_c1_r9 0 (y0) (y1) ((1 : Int)) ((Int.toNat y1)) (((List.length y0) - (Int.toNat y1)))
    else
     none
   else
    l_slices_CompactFunc_api_Item_items_sorted_c1_r4 3 (y0) ((IntKind.wrap .i64 (y1 + (1 : Int))))
  else
   none
 else
  none
else
 some [(AV.l T_api_Item y0)]
theorem e_slices_CompactFunc_api_Item_items_sorted_c1_r4 (k : Nat) (y0 : List AV) (y1 : Int) : l_slices_CompactFunc_api_Item_items_sorted_c1_r4 (k + 17) y0 y1 = t_slices_CompactFunc_api_Item_items_sorted_c1_r4 (fun c => callP C (callF C (k + c))) (fun c => l_slices_CompactFunc_api_Item_items_sorted_c1_r9 (k + c)) (fun c => l_slices_CompactFunc_api_Item_items_sorted_c1_r4 (k + c)) y0 y1 := by kernel_rfl
theorem d_slices_CompactFunc_api_Item_items_sorted_c1_r4 (y0 : List AV) (y1 : Int) {o : List AV} (h : t_slices_CompactFunc_api_Item_items_sorted_c1_r4 (fun _ => D) (fun _ => L_slices_CompactFunc_api_Item_items_sorted_c1_r9) (fun _ => L_slices_CompactFunc_api_Item_items_sorted_c1_r4) y0 y1 = some o) : L_slices_CompactFunc_api_Item_items_sorted_c1_r4 y0 y1 = some o := Lt.fin (fun k => e_slices_CompactFunc_api_Item_items_sorted_c1_r4 k y0 y1) (Lt.ite (Lt.ite (Lt.ite (Lt.bind (D_lt 11 _ _) fun o1 => (Lt.ite (Lt.ite (lt_slices_CompactFunc_api_Item_items_sorted_c1_r9 0 _ _ _ _ _) Lt.no) (lt_slices_CompactFunc_api_Item_items_sorted_c1_r4 3 _ _))) Lt.no) Lt.no) Lt.ret) h
noncomputable def t_law17_AutoOne_r25 (Q : Nat → FuncId → List AV → Out) (l_law17_AutoOne_r30 : Nat → List AV → List AV → List AV → List AV → Int → List AV → List AV → List AV → Int → Int → Int → Out) (y0 y1 : List AV) (y2 y3 : List AV) (y4 : Int) (y5 y6 y7 : List AV) (y8 : Int) : Out :=
 if (decide (y8 < ((List.length y5 : Nat) : Int))) = true then
 if 0 ≤ y8 ∧ y8 < ((List.length y6) : Int) then
  if ((AV.int (y6.getD (Int.toNat y8) .u)) == (0 : Int)) = false then
   if 0 ≤ y8 ∧ y8 < ((List.length y7) : Int) then
    if (decide ((AV.int (y7.getD (Int.toNat y8) .u)) ≥ y8)) = true then
     some [(AV.b false)]
    else
     l_law17_AutoOne_r30 0 (y0) (y1) (y2) (y3) (y4) (y5) (y6) (y7) (y8) (y8) ((0 : Int))
   else
    none
  else
   some [(AV.b false)]
 else
  none
else
 if 0 ≤ (0 : Int) ∧ (0 : Int) < ((List.length y5) : Int) then
  (Q 12 ref12_Terms [(AV.g [(AV.l T_api_Rule y0), (AV.l T_string y1), (AV.l T_api_Level y2), (AV.l T_api_Prod y3), (AV.i .i64 y4)])]).bind fun o1 =>
   some [(AV.b (((List.length (AV.list (AV.fld (y5.getD 0 .u) 1)) : Nat) : Int) == (IntKind.wrap .i64 ((IntKind.wrap .i64 ((AV.int (List.headD o1 .u)) + ((List.length y1 : Nat) : Int))) + (1 : Int)))))]
 else
  none
theorem e_law17_AutoOne_r25 (k : Nat) (y0 y1 : List AV) (y2 y3 : List AV) (y4 : Int) (y5 y6 y7 : List AV) (y8 : Int) : l_law17_AutoOne_r25 (k + 16) y0 y1 y2 y3 y4 y5 y6 y7 y8 = t_law17_AutoOne_r25 (fun c => callP C (callF C (k + c))) (fun c => l_law17_AutoOne_r30 (k + c)) y0 y1 y2 y3 y4 y5 y6 y7 y8 := by kernel_rfl
theorem d_law17_AutoOne_r25 (y0 y1 : List AV) (y2 y3 : List AV) (y4 : Int) (y5 y6 y7 : List AV) (y8 : Int) {o : List AV} (h : t_law17_AutoOne_r25 (fun _ => D) (fun _ => L_law17_AutoOne_r30) y0 y1 y2 y3 y4 y5 y6 y7 y8 = some o) : L_law17_AutoOne_r25 y0 y1 y2 y3 y4 y5 y6 y7 y8 = some o := Lt.fin (fun k => e_law17_AutoOne_r25 k y0 y1 y2 y3 y4 y5 y6 y7 y8) (Lt.ite (Lt.ite (Lt.ite (Lt.ite (Lt.ite Lt.ret (lt_law17_AutoOne_r30 0 _ _ _ _ _ _ _ _ _ _ _)) Lt.no) Lt.ret) Lt.no) (Lt.ite (Lt.bind (D_lt 12 _ _) fun o1 => Lt.ret) Lt.no)) h
noncomputable def t_auto_wants_r3 (Q : Nat → FuncId → List AV → Out) (l_auto_wants_r3 : Nat → List AV → List AV → List AV → List AV → Int → List AV → List AV → Int → Int → Out) (y0 y1 : List AV) (y2 y3 : List AV) (y4 : Int) (y5 y6 : List AV) (y7 y8 : Int) : Out :=
 if (decide (y8 < y7)) = true then
 if 0 ≤ y8 ∧ y8 < ((List.length y6) : Int) then
  (Q 9 items_Next [(AV.g [(AV.l T_api_Rule y0), (AV.l T_string y1), (AV.l T_api_Level y2), (AV.l T_api_Prod y3), (AV.i .i64 y4)]), (AV.g [(AV.i .i64 (AV.int (AV.fld (y6.getD (Int.toNat y8) .u) 0))), (AV.i .i64 (AV.int (AV.fld (y6.getD (Int.toNat y8) .u) 1)))])]).bind fun o1 =>
   if (decide ((AV.int (List.headD o1 .u)) > (0 : Int))) = true then
   if 0 ≤ (AV.int (List.headD o1 .u)) ∧ (AV.int (List.headD o1 .u)) < ((List.length y5) : Int) then
    l_auto_wants_r3 0 (y0) (y1) (y2) (y3) (y4) ((y5.set (Int.toNat (AV.int (List.headD o1 .u))) (AV.b true))) (y6) (y7) ((IntKind.wrap .i64 (y8 + (1 : Int))))
   else
    none
  else
   l_auto_wants_r3 0 (y0) (y1) (y2) (y3) (y4) (y5) (y6) (y7) ((IntKind.wrap .i64 (y8 + (1 : Int))))
 else
  none
else
 some [(AV.l T_bool y5)]
theorem e_auto_wants_r3 (k : Nat) (y0 y1 : List AV) (y2 y3 : List AV) (y4 : Int) (y5 y6 : List AV) (y7 y8 : Int) : l_auto_wants_r3 (k + 18) y0 y1 y2 y3 y4 y5 y6 y7 y8 = t_auto_wants_r3 (fun c => callP C (callF C (k + c))) (fun c => l_auto_wants_r3 (k + c)) y0 y1 y2 y3 y4 y5 y6 y7 y8 := by kernel_rfl
theorem d_auto_wants_r3 (y0 y1 : List AV) (y2 y3 : List AV) (y4 : Int) (y5 y6 : List AV) (y7 y8 : Int) {o : List AV} (h : t_auto_wants_r3 (fun _ => D) (fun _ => L_auto_wants_r3) y0 y1 y2 y3 y4 y5 y6 y7 y8 = some o) : L_auto_wants_r3 y0 y1 y2 y3 y4 y5 y6 y7 y8 = some o := Lt.fin (fun k => e_auto_wants_r3 k y0 y1 y2 y3 y4 y5 y6 y7 y8) (Lt.ite (Lt.ite (Lt.bind (D_lt 9 _ _) fun o1 => (Lt.ite (Lt.ite (lt_auto_wants_r3 0 _ _ _ _ _ _ _ _ _) Lt.no) (lt_auto_wants_r3 0 _ _ _ _ _ _ _ _ _))) Lt.no) Lt.ret) h
noncomputable def t_items_Goto (Q : Nat → FuncId → List AV → Out) (l_items_Goto_r5 : Nat → List AV → List AV → List AV → List AV → Int → Int → List AV → List AV → Int → Int → Out) (x0 x1 : List AV) (x2 x3 : List AV) (x4 : Int) (x5 : List AV) (x6 : Int) : Out :=
 (Q 11 items_Right [(AV.g [(AV.l T_api_Rule x0), (AV.l T_string x1), (AV.l T_api_Level x2), (AV.l T_api_Prod x3), (AV.i .i64 x4)]), (AV.l T_api_Item x5)]).bind fun o1 =>
 if (!(AV.bool (List.headD o1 .u))) = true then
 some [(AV.l T_api_Item ([] : List AV))]
else
 (Q 4 items_closure [(AV.g [(AV.l T_api_Rule x0), (AV.l T_string x1), (AV.l T_api_Level x2), (AV.l T_api_Prod x3), (AV.i .i64 x4)]), (AV.l T_api_Item x5)]).bind fun o2 =>
  l_items_Goto_r5 0 (x0) (x1) (x2) (x3) (x4) (x6) (([] : List AV)) ((AV.list (List.headD o2 .u))) (((List.length (AV.list (List.headD o2 .u)) : Nat) : Int)) ((0 : Int))
theorem e_items_Goto (k : Nat) (x0 x1 : List AV) (x2 x3 : List AV) (x4 : Int) (x5 : List AV) (x6 : Int) : call C (k + 16) items_Goto [(AV.g [(AV.l T_api_Rule x0), (AV.l T_string x1), (AV.l T_api_Level x2), (AV.l T_api_Prod x3), (AV.i .i64 x4)]), (AV.l T_api_Item x5), (AV.i .i64 x6)] = t_items_Goto (fun c => callP C (callF C (k + c))) (fun c => l_items_Goto_r5 (k + c)) x0 x1 x2 x3 x4 x5 x6 := by kernel_rfl
theorem d_items_Goto (x0 x1 : List AV) (x2 x3 : List AV) (x4 : Int) (x5 : List AV) (x6 : Int) {o : List AV} (h : t_items_Goto (fun _ => D) (fun _ => L_items_Goto_r5) x0 x1 x2 x3 x4 x5 x6 = some o) : D items_Goto [(AV.g [(AV.l T_api_Rule x0), (AV.l T_string x1), (AV.l T_api_Level x2), (AV.l T_api_Prod x3), (AV.i .i64 x4)]), (AV.l T_api_Item x5), (AV.i .i64 x6)] = some o := D_fin (by rfl) (fun k => e_items_Goto k x0 x1 x2 x3 x4 x5 x6) (Lt.bind (D_lt 11 _ _) fun o1 => (Lt.ite Lt.ret (Lt.bind (D_lt 4 _ _) fun o2 => (lt_items_Goto_r5 0 _ _ _ _ _ _ _ _ _ _)))) h
noncomputable def t_items_Next (Q : Nat → FuncId → List AV → Out) (x0 x1 : List AV) (x2 x3 : List AV) (x4 x5 x6 : Int) : Out :=
 (Q 5 items_Right [(AV.g [(AV.l T_api_Rule x0), (AV.l T_string x1), (AV.l T_api_Level x2), (AV.l T_api_Prod x3), (AV.i .i64 x4)]), (AV.l T_api_Item [(AV.g [(AV.i .i64 x5), (AV.i .i64 x6)])])]).bind fun o1 =>
 if (!(AV.bool (List.headD o1 .u))) = true then
 some [(AV.i .i64 (0 : Int))]
else
 (Q 1 items_next [(AV.g [(AV.l T_api_Rule x0), (AV.l T_string x1), (AV.l T_api_Level x2), (AV.l T_api_Prod x3), (AV.i .i64 x4)]), (AV.g [(AV.i .i64 x5), (AV.i .i64 x6)])]).bind fun o2 =>
  some [(AV.i .i64 (AV.int (List.headD o2 .u)))]
theorem e_items_Next (k : Nat) (x0 x1 : List AV) (x2 x3 : List AV) (x4 x5 x6 : Int) : call C (k + 10) items_Next [(AV.g [(AV.l T_api_Rule x0), (AV.l T_string x1), (AV.l T_api_Level x2), (AV.l T_api_Prod x3), (AV.i .i64 x4)]), (AV.g [(AV.i .i64 x5), (AV.i .i64 x6)])] = t_items_Next (fun c => callP C (callF C (k + c))) x0 x1 x2 x3 x4 x5 x6 := by kernel_rfl
theorem d_items_Next (x0 x1 : List AV) (x2 x3 : List AV) (x4 x5 x6 : Int) {o : List AV} (h : t_items_Next (fun _ => D) x0 x1 x2 x3 x4 x5 x6 = some o) : D items_Next [(AV.g [(AV.l T_api_Rule x0), (AV.l T_string x1), (AV.l T_api_Level x2), (AV.l T_api_Prod x3), (AV.i .i64 x4)]), (AV.g [(AV.i .i64 x5), (AV.i .i64 x6)])] = some o := D_fin (by rfl) (fun k => e_items_Next k x0 x1 x2 x3 x4 x5 x6) (Lt.bind (D_lt 5 _ _) fun o1 => (Lt.ite Lt.ret (Lt.bind (D_lt 1 _ _) fun o2 => Lt.ret))) h
noncomputable def t_items_next (Q : Nat → FuncId → List AV → Out) (x0 x1 : List AV) (x2 x3 : List AV) (x4 x5 x6 : Int) : Out :=
 (Q 7 items_side [(AV.g [(AV.l T_api_Rule x0), (AV.l T_string x1), (AV.l T_api_Level x2), (AV.l T_api_Prod x3), (AV.i .i64 x4)]), (AV.i .i64 x5)]).bind fun o1 =>
 if (decide (x6 < ((List.length (AV.list (List.headD o1 .u)) : Nat) : Int))) = true then
 if 0 ≤ x6 ∧ x6 < ((List.length (AV.list (List.headD o1 .u))) : Int) then
  some [(AV.i .i64 (AV.int ((AV.list (List.headD o1 .u)).getD (Int.toNat x6) .u)))]
 else
  none
else
 some [(AV.i .i64 (0 : Int))]
theorem e_items_next (k : Nat) (x0 x1 : List AV) (x2 x3 : List AV) (x4 x5 x6 : Int) : call C (k + 12) items_next [(AV.g [(AV.l T_api_Rule x0), (AV.l T_string x1), (AV.l T_api_Level x2), (AV.l T_api_Prod x3), (AV.i .i64 x4)]), (AV.g [(AV.i .i64 x5), (AV.i .i64 x6)])] = t_items_next (fun c => callP C (callF C (k + c))) x0 x1 x2 x3 x4 x5 x6 := by kernel_rfl
theorem d_items_next (x0 x1 : List AV) (x2 x3 : List AV) (x4 x5 x6 : Int) {o : List AV} (h : t_items_next (fun _ => D) x0 x1 x2 x3 x4 x5 x6 = some o) : D items_next [(AV.g [(AV.l T_api_Rule x0), (AV.l T_string x1), (AV.l T_api_Level x2), (AV.l T_api_Prod x3), (AV.i .i64 x4)]), (AV.g [(AV.i .i64 x5), (AV.i .i64 x6)])] = some o := D_fin (by rfl) (fun k => e_items_next k x0 x1 x2 x3 x4 x5 x6) (Lt.bind (D_lt 7 _ _) fun o1 => (Lt.ite (Lt.ite Lt.ret Lt.no) Lt.ret)) h
noncomputable def t_ref16_Of_r3 (Q : Nat → FuncId → List AV → Out) (l_ref16_Of_r7 : Nat → List AV → List AV → List AV → List AV → Int → List AV → List AV → Int → Int → Int → Out) (y0 y1 : List AV) (y2 y3 : List AV) (y4 : Int) (y5 y6 : List AV) (y7 : Int) : Out :=
 if (decide (y7 < ((List.length y3 : Nat) : Int))) = true then
 (Q 7 ref16_Side [(AV.g [(AV.l T_api_Rule y0), (AV.l T_string y1), (AV.l T_api_Level y2), (AV.l T_api_Prod y3), (AV.i .i64 y4)]), (AV.i .i64 y7)]).bind fun o1 =>
  l_ref16_Of_r7 0 (y0) (y1) (y2) (y3) (y4) (y5) (y6) (y7) (((List.length (AV.list (List.headD o1 .u)) : Nat) : Int)) ((0 : Int))
else
 some [(AV.l T_api_Item y6)]
theorem e_ref16_Of_r3 (k : Nat) (y0 y1 : List AV) (y2 y3 : List AV) (y4 : Int) (y5 y6 : List AV) (y7 : Int) : l_ref16_Of_r3 (k + 13) y0 y1 y2 y3 y4 y5 y6 y7 = t_ref16_Of_r3 (fun c => callP C (callF C (k + c))) (fun c => l_ref16_Of_r7 (k + c)) y0 y1 y2 y3 y4 y5 y6 y7 := by kernel_rfl
theorem d_ref16_Of_r3 (y0 y1 : List AV) (y2 y3 : List AV) (y4 : Int) (y5 y6 : List AV) (y7 : Int) {o : List AV} (h : t_ref16_Of_r3 (fun _ => D) (fun _ => L_ref16_Of_r7) y0 y1 y2 y3 y4 y5 y6 y7 = some o) : L_ref16_Of_r3 y0 y1 y2 y3 y4 y5 y6 y7 = some o := Lt.fin (fun k => e_ref16_Of_r3 k y0 y1 y2 y3 y4 y5 y6 y7) (Lt.ite (Lt.bind (D_lt 7 _ _) fun o1 => (lt_ref16_Of_r7 0 _ _ _ _ _ _ _ _ _ _)) Lt.ret) h
noncomputable def t_ref12_Reserved (Q : Nat → FuncId → List AV → Out) (x0 : ByteArray) : Out :=
 if ((ByteArray.toList x0) == (ByteArray.toList ⟨#[116, 111, 107, 101, 110]⟩)) = false then
 if ((ByteArray.toList x0) == (ByteArray.toList ⟨#[115, 107, 105, 112]⟩)) = false then
  if ((ByteArray.toList x0) == (ByteArray.toList ⟨#[108, 101, 102, 116]⟩)) = false then
   if ((ByteArray.toList x0) == (ByteArray.toList ⟨#[114, 105, 103, 104, 116]⟩)) = false then
    if ((ByteArray.toList x0) == (ByteArray.toList ⟨#[110, 111, 110, 101]⟩)) = false then
     some [(AV.b ((ByteArray.toList x0) == (ByteArray.toList ⟨#[115, 116, 97, 114, 116]⟩)))]
    else
     some [(AV.b true)]
   else
    some [(AV.b true)]
  else
   some [(AV.b true)]
 else
  some [(AV.b true)]
else
 some [(AV.b true)]
theorem e_ref12_Reserved (k : Nat) (x0 : ByteArray) : call C (k + 5) ref12_Reserved [(AV.s x0)] = t_ref12_Reserved (fun c => callP C (callF C (k + c))) x0 := by kernel_rfl
theorem d_ref12_Reserved (x0 : ByteArray) {o : List AV} (h : t_ref12_Reserved (fun _ => D) x0 = some o) : D ref12_Reserved [(AV.s x0)] = some o := D_fin (by rfl) (fun k => e_ref12_Reserved k x0) (Lt.ite (Lt.ite (Lt.ite (Lt.ite (Lt.ite Lt.ret Lt.ret) Lt.ret) Lt.ret) Lt.ret) Lt.ret) h
noncomputable def t_ref16_Of (Q : Nat → FuncId → List AV → Out) (l_ref16_Of_r3 : Nat → List AV → List AV → List AV → List AV → Int → List AV → List AV → Int → Out) (x0 x1 : List AV) (x2 x3 : List AV) (x4 : Int) (x5 : List AV) : Out :=
 l_ref16_Of_r3 0 (x0) (x1) (x2) (x3) (x4) (x5) (([] : List AV)) ((-1 : Int))
theorem e_ref16_Of (k : Nat) (x0 x1 : List AV) (x2 x3 : List AV) (x4 : Int) (x5 : List AV) : call C (k + 12) ref16_Of [(AV.g [(AV.l T_api_Rule x0), (AV.l T_string x1), (AV.l T_api_Level x2), (AV.l T_api_Prod x3), (AV.i .i64 x4)]), (AV.l T_api_Item x5)] = t_ref16_Of (fun c => callP C (callF C (k + c))) (fun c => l_ref16_Of_r3 (k + c)) x0 x1 x2 x3 x4 x5 := by kernel_rfl
theorem d_ref16_Of (x0 x1 : List AV) (x2 x3 : List AV) (x4 : Int) (x5 : List AV) {o : List AV} (h : t_ref16_Of (fun _ => D) (fun _ => L_ref16_Of_r3) x0 x1 x2 x3 x4 x5 = some o) : D ref16_Of [(AV.g [(AV.l T_api_Rule x0), (AV.l T_string x1), (AV.l T_api_Level x2), (AV.l T_api_Prod x3), (AV.i .i64 x4)]), (AV.l T_api_Item x5)] = some o := D_fin (by rfl) (fun k => e_ref16_Of k x0 x1 x2 x3 x4 x5) (lt_ref16_Of_r3 0 _ _ _ _ _ _ _ _) h
noncomputable def t_ref12_Terms (Q : Nat → FuncId → List AV → Out) (l_ref12_Terms_r3 : Nat → List AV → List AV → List AV → List AV → Int → Int → Int → Out) (x0 x1 : List AV) (x2 x3 : List AV) (x4 : Int) : Out :=
 l_ref12_Terms_r3 0 (x0) (x1) (x2) (x3) (x4) ((0 : Int)) ((0 : Int))
theorem e_ref12_Terms (k : Nat) (x0 x1 : List AV) (x2 x3 : List AV) (x4 : Int) : call C (k + 12) ref12_Terms [(AV.g [(AV.l T_api_Rule x0), (AV.l T_string x1), (AV.l T_api_Level x2), (AV.l T_api_Prod x3), (AV.i .i64 x4)])] = t_ref12_Terms (fun c => callP C (callF C (k + c))) (fun c => l_ref12_Terms_r3 (k + c)) x0 x1 x2 x3 x4 := by kernel_rfl
theorem d_ref12_Terms (x0 x1 : List AV) (x2 x3 : List AV) (x4 : Int) {o : List AV} (h : t_ref12_Terms (fun _ => D) (fun _ => L_ref12_Terms_r3) x0 x1 x2 x3 x4 = some o) : D ref12_Terms [(AV.g [(AV.l T_api_Rule x0), (AV.l T_string x1), (AV.l T_api_Level x2), (AV.l T_api_Prod x3), (AV.i .i64 x4)])] = some o := D_fin (by rfl) (fun k => e_ref12_Terms k x0 x1 x2 x3 x4) (lt_ref12_Terms_r3 0 _ _ _ _ _ _ _) h
noncomputable def t_word_All (Q : Nat → FuncId → List AV → Out) (l_word_All_r5 : Nat → ByteArray → List AV → Int → Out) (x0 : ByteArray) : Out :=
 if (decide (((ByteArray.size x0 : Nat) : Int) > (4000 : Int))) = true then
 some [(AV.l T_api_Word ([] : List AV)), (AV.i .i64 (0 : Int)), (AV.i .i64 (3 : Int))]
else
 (Q 5 word_blank [(AV.s x0)]).bind fun o1 =>
  l_word_All_r5 0 (x0) (([] : List AV)) ((AV.int (List.headD o1 .u)))
theorem e_word_All (k : Nat) (x0 : ByteArray) : call C (k + 17) word_All [(AV.s x0)] = t_word_All (fun c => callP C (callF C (k + c))) (fun c => l_word_All_r5 (k + c)) x0 := by kernel_rfl
theorem d_word_All (x0 : ByteArray) {o : List AV} (h : t_word_All (fun _ => D) (fun _ => L_word_All_r5) x0 = some o) : D word_All [(AV.s x0)] = some o := D_fin (by rfl) (fun k => e_word_All k x0) (Lt.ite Lt.ret (Lt.bind (D_lt 5 _ _) fun o1 => (lt_word_All_r5 0 _ _ _))) h
noncomputable def t_word_sign (Q : Nat → FuncId → List AV → Out) (x0 : ByteArray) : Out :=
 if 0 ≤ (0 : Int) ∧ (0 : Int) < ((ByteArray.size x0 : Nat) : Int) then
 (Q 5 strings_IndexByte [(AV.s ⟨#[58, 59, 124, 37]⟩), (AV.i .u8 ((((x0).data.getD 0 0).toNat : Nat) : Int))]).bind fun o1 =>
  if (decide ((AV.int (List.headD o1 .u)) < (0 : Int))) = true then
  some [(AV.i .i64 (0 : Int))]
 else
  some [(AV.i .i64 (1 : Int))]
else
 none
theorem e_word_sign (k : Nat) (x0 : ByteArray) : call C (k + 10) word_sign [(AV.s x0)] = t_word_sign (fun c => callP C (callF C (k + c))) x0 := by kernel_rfl
theorem d_word_sign (x0 : ByteArray) {o : List AV} (h : t_word_sign (fun _ => D) x0 = some o) : D word_sign [(AV.s x0)] = some o := D_fin (by rfl) (fun k => e_word_sign k x0) (Lt.ite (Lt.bind (D_lt 5 _ _) fun o1 => (Lt.ite Lt.ret Lt.ret)) Lt.no) h
noncomputable def t_ref04_Order (Q : Nat → FuncId → List AV → Out) (l_ref04_Order_r2 : Nat → List AV → List AV → Int → Out) (x0 x1 : List AV) : Out :=
 l_ref04_Order_r2 0 (x0) (x1) ((0 : Int))
theorem e_ref04_Order (k : Nat) (x0 x1 : List AV) : call C (k + 10) ref04_Order [(AV.l T_int x0), (AV.l T_int x1)] = t_ref04_Order (fun c => callP C (callF C (k + c))) (fun c => l_ref04_Order_r2 (k + c)) x0 x1 := by kernel_rfl
theorem d_ref04_Order (x0 x1 : List AV) {o : List AV} (h : t_ref04_Order (fun _ => D) (fun _ => L_ref04_Order_r2) x0 x1 = some o) : D ref04_Order [(AV.l T_int x0), (AV.l T_int x1)] = some o := D_fin (by rfl) (fun k => e_ref04_Order k x0 x1) (lt_ref04_Order_r2 0 _ _ _) h
end Go.Proofs.YteklakapimggeaaGreatDoor.Den
