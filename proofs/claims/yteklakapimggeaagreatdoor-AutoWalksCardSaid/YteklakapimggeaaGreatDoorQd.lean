/- Proved here: a part of the proof, told one step at a time: DenEq5, DenEq6. No condition but those each theorem names. -/
import Derived.Test.YteklakapimggeaaGreatDoorQa
namespace Go.Proofs.YteklakapimggeaaGreatDoor.Den
open Go Go.Proofs
set_option linter.unusedVariables false
noncomputable def t_regex_wants (Q : Nat → FuncId → List AV → Out) (x0 : Int) : Out :=
 if (x0 == (1 : Int)) = true then
 if (x0 == (1 : Int)) = true then
  some [(AV.i .i64 (0 : Int))]
 else
  if (x0 == (5 : Int)) = true then
   if (x0 == (5 : Int)) = true then
    some [(AV.i .i64 (1 : Int))]
   else
    if (x0 == (3 : Int)) = true then
     if (x0 == (3 : Int)) = true then
      some [(AV.i .i64 (2 : Int))]
     else
      some [(AV.i .i64 (-1 : Int))]
    else
     if (x0 == (4 : Int)) = true then
      some [(AV.i .i64 (2 : Int))]
     else
      some [(AV.i .i64 (-1 : Int))]
  else
   if (x0 == (6 : Int)) = true then
    if (x0 == (6 : Int)) = true then
     some [(AV.i .i64 (1 : Int))]
    else
     if (x0 == (3 : Int)) = true then
      if (x0 == (3 : Int)) = true then
       some [(AV.i .i64 (2 : Int))]
      else
       some [(AV.i .i64 (-1 : Int))]
     else
      if (x0 == (4 : Int)) = true then
       some [(AV.i .i64 (2 : Int))]
      else
       some [(AV.i .i64 (-1 : Int))]
   else
    if (x0 == (7 : Int)) = true then
     some [(AV.i .i64 (1 : Int))]
    else
     if (x0 == (3 : Int)) = true then
      if (x0 == (3 : Int)) = true then
       some [(AV.i .i64 (2 : Int))]
      else
       some [(AV.i .i64 (-1 : Int))]
     else
      if (x0 == (4 : Int)) = true then
       some [(AV.i .i64 (2 : Int))]
      else
       some [(AV.i .i64 (-1 : Int))]
else
 if (x0 == (2 : Int)) = true then
  some [(AV.i .i64 (0 : Int))]
 else
  if (x0 == (5 : Int)) = true then
   if (x0 == (5 : Int)) = true then
    some [(AV.i .i64 (1 : Int))]
   else
    if (x0 == (3 : Int)) = true then
     if (x0 == (3 : Int)) = true then
      some [(AV.i .i64 (2 : Int))]
     else
      some [(AV.i .i64 (-1 : Int))]
    else
     if (x0 == (4 : Int)) = true then
      some [(AV.i .i64 (2 : Int))]
     else
      some [(AV.i .i64 (-1 : Int))]
  else
   if (x0 == (6 : Int)) = true then
    if (x0 == (6 : Int)) = true then
     some [(AV.i .i64 (1 : Int))]
    else
     if (x0 == (3 : Int)) = true then
      if (x0 == (3 : Int)) = true then
       some [(AV.i .i64 (2 : Int))]
      else
       some [(AV.i .i64 (-1 : Int))]
     else
      if (x0 == (4 : Int)) = true then
       some [(AV.i .i64 (2 : Int))]
      else
       some [(AV.i .i64 (-1 : Int))]
   else
    if (x0 == (7 : Int)) = true then
     some [(AV.i .i64 (1 : Int))]
    else
     if (x0 == (3 : Int)) = true then
      if (x0 == (3 : Int)) = true then
       some [(AV.i .i64 (2 : Int))]
      else
       some [(AV.i .i64 (-1 : Int))]
     else
      if (x0 == (4 : Int)) = true then
       some [(AV.i .i64 (2 : Int))]
      else
       some [(AV.i .i64 (-1 : Int))]
theorem e_regex_wants (k : Nat) (x0 : Int) : call C (k + 32) regex_wants [(AV.i .i64 x0)] = t_regex_wants (fun c => callP C (callF C (k + c))) x0 := by kernel_rfl
theorem d_regex_wants (x0 : Int) {o : List AV} (h : t_regex_wants (fun _ => D) x0 = some o) : D regex_wants [(AV.i .i64 x0)] = some o := D_fin (by rfl) (fun k => e_regex_wants k x0) (Lt.ite (Lt.ite Lt.ret (Lt.ite (Lt.ite Lt.ret (Lt.ite (Lt.ite Lt.ret Lt.ret) (Lt.ite Lt.ret Lt.ret))) (Lt.ite (Lt.ite Lt.ret (Lt.ite (Lt.ite Lt.ret Lt.ret) (Lt.ite Lt.ret Lt.ret))) (Lt.ite Lt.ret (Lt.ite (Lt.ite Lt.ret Lt.ret) (Lt.ite Lt.ret Lt.ret)))))) (Lt.ite Lt.ret (Lt.ite (Lt.ite Lt.ret (Lt.ite (Lt.ite Lt.ret Lt.ret) (Lt.ite Lt.ret Lt.ret))) (Lt.ite (Lt.ite Lt.ret (Lt.ite (Lt.ite Lt.ret Lt.ret) (Lt.ite Lt.ret Lt.ret))) (Lt.ite Lt.ret (Lt.ite (Lt.ite Lt.ret Lt.ret) (Lt.ite Lt.ret Lt.ret))))))) h
noncomputable def t_ref16_Closure_r12 (Q : Nat → FuncId → List AV → Out) (l_ref16_Closure_r7 : Nat → List AV → List AV → List AV → List AV → Int → List AV → Bool → Int → Out) (l_ref16_Closure_r12 : Nat → List AV → List AV → List AV → List AV → Int → Int → Int → List AV → Bool → Int → Int → Out) (y0 y1 : List AV) (y2 y3 : List AV) (y4 y5 y6 : Int) (y7 : List AV) (y8 : Bool) (y9 y10 : Int) : Out :=
 if (decide (y10 < ((List.length y7 : Nat) : Int))) = true then
 if 0 ≤ y10 ∧ y10 < ((List.length y7) : Int) then
  (Q 12 ref16_Next [(AV.g [(AV.l T_api_Rule y0), (AV.l T_string y1), (AV.l T_api_Level y2), (AV.l T_api_Prod y3), (AV.i .i64 y4)]), (AV.g [(AV.i .i64 (AV.int (AV.fld (y7.getD (Int.toNat y10) .u) 0))), (AV.i .i64 (AV.int (AV.fld (y7.getD (Int.toNat y10) .u) 1)))])]).bind fun o1 =>
   if 0 ≤ y9 ∧ y9 < ((List.length y3) : Int) then
   if ((AV.int (List.headD o1 .u)) == (AV.int (AV.fld (y3.getD (Int.toNat y9) .u) 0))) = true then
    if (List.length y7) + (List.length [(AV.g [(AV.i .i64 y5), (AV.i .i64 y6)])]) ≤ 16777216 ∧ (false && false) = false then
     l_ref16_Closure_r7 0 (y0) (y1) (y2) (y3) (y4) ((y7 ++ [(AV.g [(AV.i .i64 y5), (AV.i .i64 y6)])])) (true) ((IntKind.wrap .i64 (y9 + (1 : Int))))
    else
     none
   else
    l_ref16_Closure_r12 4 (y0) (y1) (y2) (y3) (y4) (y5) (y6) (y7) (y8) (y9) ((IntKind.wrap .i64 (y10 + (1 : Int))))
  else
   none
 else
  none
else
 l_ref16_Closure_r7 10 (y0) (y1) (y2) (y3) (y4) (y7) (y8) ((IntKind.wrap .i64 (y9 + (1 : Int))))
theorem e_ref16_Closure_r12 (k : Nat) (y0 y1 : List AV) (y2 y3 : List AV) (y4 y5 y6 : Int) (y7 : List AV) (y8 : Bool) (y9 y10 : Int) : l_ref16_Closure_r12 (k + 18) y0 y1 y2 y3 y4 y5 y6 y7 y8 y9 y10 = t_ref16_Closure_r12 (fun c => callP C (callF C (k + c))) (fun c => l_ref16_Closure_r7 (k + c)) (fun c => l_ref16_Closure_r12 (k + c)) y0 y1 y2 y3 y4 y5 y6 y7 y8 y9 y10 := by kernel_rfl
theorem d_ref16_Closure_r12 (y0 y1 : List AV) (y2 y3 : List AV) (y4 y5 y6 : Int) (y7 : List AV) (y8 : Bool) (y9 y10 : Int) {o : List AV} (h : t_ref16_Closure_r12 (fun _ => D) (fun _ => L_ref16_Closure_r7) (fun _ => L_ref16_Closure_r12) y0 y1 y2 y3 y4 y5 y6 y7 y8 y9 y10 = some o) : L_ref16_Closure_r12 y0 y1 y2 y3 y4 y5 y6 y7 y8 y9 y10 = some o := Lt.fin (fun k => e_ref16_Closure_r12 k y0 y1 y2 y3 y4 y5 y6 y7 y8 y9 y10) (Lt.ite (Lt.ite (Lt.bind (D_lt 12 _ _) fun o1 => (Lt.ite (Lt.ite (Lt.ite (lt_ref16_Closure_r7 0 _ _ _ _ _ _ _ _) Lt.no) (lt_ref16_Closure_r12 4 _ _ _ _ _ _ _ _ _ _ _)) Lt.no)) Lt.no) (lt_ref16_Closure_r7 10 _ _ _ _ _ _ _ _)) h
noncomputable def t_auto_Build_r8 (Q : Nat → FuncId → List AV → Out) (l_auto_Build_r15 : Nat → List AV → List AV → List AV → List AV → Int → Int → List AV → List AV → Int → List AV → List AV → List AV → Int → Out) (y0 y1 : List AV) (y2 y3 : List AV) (y4 y5 : Int) (y6 y7 : List AV) (y8 : Int) : Out :=
 if (decide (y8 < ((List.length y6 : Nat) : Int))) = true then
 if 0 ≤ y5 ∧ y5 ≤ y5 ∧ y5 ≤ 16777216 then
  if 0 ≤ (0 : Int) ∧ (0 : Int) < ((List.length (List.replicate (Int.toNat y5) (AV.i .i64 (0 : Int)))) : Int) then
   if 0 ≤ y8 ∧ y8 < ((List.length y6) : Int) then
    (Q 10 items_Closure [(AV.g [(AV.l T_api_Rule y0), (AV.l T_string y1), (AV.l T_api_Level y2), (AV.l T_api_Prod y3), (AV.i .i64 y4)]), (AV.l T_api_Item (AV.list (AV.fld (y6.getD (Int.toNat y8) .u) 0)))]).bind fun o1 =>
     (Q 8 auto_wants [(AV.g [(AV.l T_api_Rule y0), (AV.l T_string y1), (AV.l T_api_Level y2), (AV.l T_api_Prod y3), (AV.i .i64 y4)]), (AV.l T_api_Item (AV.list (List.headD o1 .u))), (AV.i .i64 y5)]).bind fun o2 =>
     l_auto_Build_r15 0 (y0) (y1) (y2) (y3) (y4) (y5) (y6) (((unM (AV.l T_map_string_int y7)).map fun q => AV.g [q.1, q.2])) (y8) (((List.replicate (Int.toNat y5) (AV.i .i64 (0 : Int))).set 0 (AV.i .i64 (-1 : Int)))) ((AV.list (List.headD o1 .u))) ((AV.list (List.headD o2 .u))) ((1 : Int))
   else
    none
  else
   none
 else
  none
else
 some [(AV.l T_api_State y6), (AV.i .i64 (0 : Int))]
theorem e_auto_Build_r8 (k : Nat) (y0 y1 : List AV) (y2 y3 : List AV) (y4 y5 : Int) (y6 y7 : List AV) (y8 : Int) : l_auto_Build_r8 (k + 20) y0 y1 y2 y3 y4 y5 y6 y7 y8 = t_auto_Build_r8 (fun c => callP C (callF C (k + c))) (fun c => l_auto_Build_r15 (k + c)) y0 y1 y2 y3 y4 y5 y6 y7 y8 := by kernel_rfl
theorem d_auto_Build_r8 (y0 y1 : List AV) (y2 y3 : List AV) (y4 y5 : Int) (y6 y7 : List AV) (y8 : Int) {o : List AV} (h : t_auto_Build_r8 (fun _ => D) (fun _ => L_auto_Build_r15) y0 y1 y2 y3 y4 y5 y6 y7 y8 = some o) : L_auto_Build_r8 y0 y1 y2 y3 y4 y5 y6 y7 y8 = some o := Lt.fin (fun k => e_auto_Build_r8 k y0 y1 y2 y3 y4 y5 y6 y7 y8) (Lt.ite (Lt.ite (Lt.ite (Lt.ite (Lt.bind (D_lt 10 _ _) fun o1 => (Lt.bind (D_lt 8 _ _) fun o2 => (lt_auto_Build_r15 0 _ _ _ _ _ _ _ _ _ _ _ _ _))) Lt.no) Lt.no) Lt.no) Lt.ret) h
noncomputable def t_auto_key_r3 (Q : Nat → FuncId → List AV → Out) (l_auto_key_r3_x1 : Nat → List AV → List AV → Int → Int → Out) (y0 y1 : List AV) (y2 y3 : Int) : Out :=
 if (decide (y3 < y2)) = true then
 if 0 ≤ y3 ∧ y3 < ((List.length y1) : Int) then
  (Q 9 strconv_Itoa [(AV.i .i64 (AV.int (AV.fld (y1.getD (Int.toNat y3) .u) 0)))]).bind fun o1 =>
   if ByteArray.size (AV.str (List.headD o1 .u)) + ByteArray.size ⟨#[46]⟩ ≤ 9223372036854775807 then
   (Q 9 strconv_Itoa [(AV.i .i64 (AV.int (AV.fld (y1.getD (Int.toNat y3) .u) 1)))]).bind fun o2 =>
    if ByteArray.size ((AV.str (List.headD o1 .u)) ++ ⟨#[46]⟩) + ByteArray.size (AV.str (List.headD o2 .u)) ≤ 9223372036854775807 then
    if ByteArray.size (((AV.str (List.headD o1 .u)) ++ ⟨#[46]⟩) ++ (AV.str (List.headD o2 .u))) + ByteArray.size ⟨#[32]⟩ ≤ 9223372036854775807 then
     if (List.length y0) + (List.length ((((((AV.str (List.headD o1 .u)) ++ ⟨#[46]⟩) ++ (AV.str (List.headD o2 .u))) ++ ⟨#[32]⟩)).data.toList.map fun (c : UInt8) => AV.i .u8 (c.toNat : Int))) ≤ 16777216 ∧ (true && false) = false then
      l_auto_key_r3_x1 4 ((y0 ++ ((((((AV.str (List.headD o1 .u)) ++ ⟨#[46]⟩) ++ (AV.str (List.headD o2 .u))) ++ ⟨#[32]⟩)).data.toList.map fun (c : UInt8) => AV.i .u8 (c.toNat : Int)))) (y1) (y2) ((IntKind.wrap .i64 (y3 + (1 : Int))))
     else
      none
    else
     none
   else
    none
  else
   none
 else
  none
else
 if (decide ((5 : Nat) = 5 ∧ List.length y0 ≤ 16777216 ∧ List.all y0 isByte = true)) = true then
  some [(AV.s (bytesOf y0))]
 else
  none
theorem e_auto_key_r3 (k : Nat) (y0 y1 : List AV) (y2 y3 : Int) : l_auto_key_r3 (k + 17) y0 y1 y2 y3 = t_auto_key_r3 (fun c => callP C (callF C (k + c))) (fun c => l_auto_key_r3_x1 (k + c)) y0 y1 y2 y3 := by kernel_rfl
theorem d_auto_key_r3 (y0 y1 : List AV) (y2 y3 : Int) {o : List AV} (h : t_auto_key_r3 (fun _ => D) (fun _ => L_auto_key_r3_x1) y0 y1 y2 y3 = some o) : L_auto_key_r3 y0 y1 y2 y3 = some o := Lt.fin (fun k => e_auto_key_r3 k y0 y1 y2 y3) (Lt.ite (Lt.ite (Lt.bind (D_lt 9 _ _) fun o1 => (Lt.ite (Lt.bind (D_lt 9 _ _) fun o2 => (Lt.ite (Lt.ite (Lt.ite (lt_auto_key_r3_x1 4 _ _ _ _) Lt.no) Lt.no) Lt.no)) Lt.no)) Lt.no) (Lt.ite Lt.ret Lt.no)) h
noncomputable def t_auto_wants_r3 (Q : Nat → FuncId → List AV → Out) (l_auto_wants_r3 : Nat → List AV → List AV → List AV → List AV → Int → List AV → List AV → Int → Int → Out) (y0 y1 : List AV) (y2 y3 : List AV) (y4 : Int) (y5 y6 : List AV) (y7 y8 : Int) : Out :=
 if (decide (y8 < y7)) = true then
 if 0 ≤ y8 ∧ y8 < ((List.length y6) : Int) then
  (Q 9 items_Next [(AV.g [(AV.l T_api_Rule y0), (AV.l T_string y1), (AV.l T_api_Level y2), (AV.l T_api_Prod y3), (AV.i .i64 y4)]), (AV.g [(AV.i .i64 (AV.int (AV.fld (y6.getD (Int.toNat y8) .u) 0))), (AV.i .i64 (AV.int (AV.fld (y6.getD (Int.toNat y8) .u) 1)))])]).bind fun o1 =>
   if (decide ((AV.int (List.headD o1 .u)) > (0 : Int))) = true then
   if 0 ≤ (AV.int (List.headD o1 .u)) ∧ (AV.int (List.headD o1 .u)) < ((List.length y5) : Int) then
    l_auto_wants_r3 0 (y0) (y1) (y2) (y3) (y4) ((y5.set (Int.toNat (AV.int (List.headD o1 .u))) (AV.b true))) (y6) (y7) ((IntKind.wrap .i64 (y8 + (1 : Int))))
   else
    none
  else
   l_auto_wants_r3 0 (y0) (y1) (y2) (y3) (y4) (y5) (y6) (y7) ((IntKind.wrap .i64 (y8 + (1 : Int))))
 else
  none
else
 some [(AV.l T_bool y5)]
theorem e_auto_wants_r3 (k : Nat) (y0 y1 : List AV) (y2 y3 : List AV) (y4 : Int) (y5 y6 : List AV) (y7 y8 : Int) : l_auto_wants_r3 (k + 18) y0 y1 y2 y3 y4 y5 y6 y7 y8 = t_auto_wants_r3 (fun c => callP C (callF C (k + c))) (fun c => l_auto_wants_r3 (k + c)) y0 y1 y2 y3 y4 y5 y6 y7 y8 := by kernel_rfl
theorem d_auto_wants_r3 (y0 y1 : List AV) (y2 y3 : List AV) (y4 : Int) (y5 y6 : List AV) (y7 y8 : Int) {o : List AV} (h : t_auto_wants_r3 (fun _ => D) (fun _ => L_auto_wants_r3) y0 y1 y2 y3 y4 y5 y6 y7 y8 = some o) : L_auto_wants_r3 y0 y1 y2 y3 y4 y5 y6 y7 y8 = some o := Lt.fin (fun k => e_auto_wants_r3 k y0 y1 y2 y3 y4 y5 y6 y7 y8) (Lt.ite (Lt.ite (Lt.bind (D_lt 9 _ _) fun o1 => (Lt.ite (Lt.ite (lt_auto_wants_r3 0 _ _ _ _ _ _ _ _ _) Lt.no) (lt_auto_wants_r3 0 _ _ _ _ _ _ _ _ _))) Lt.no) Lt.ret) h
noncomputable def t_regex_Right_r5 (Q : Nat → FuncId → List AV → Out) (l_regex_Right_r5 : Nat → Int → List AV → Int → Int → Out) (y0 : Int) (y1 : List AV) (y2 y3 : Int) : Out :=
 if (decide (y3 < y2)) = true then
 if 0 ≤ y3 ∧ y3 < ((List.length y1) : Int) then
  (Q 11 regex_wants [(AV.i .i64 (AV.int (AV.fld (y1.getD (Int.toNat y3) .u) 0)))]).bind fun o1 =>
   if (decide ((AV.int (List.headD o1 .u)) < (0 : Int))) = false then
   if (decide ((AV.int (List.headD o1 .u)) > y0)) = false then
    if (!(((AV.int (AV.fld (y1.getD (Int.toNat y3) .u) 0)) == (1 : Int)) == (!(((AV.int (AV.fld (AV.fld (y1.getD (Int.toNat y3) .u) 1) 0)) == (0 : Int)) && (((AV.int (AV.fld (AV.fld (y1.getD (Int.toNat y3) .u) 1) 1)) == (0 : Int)) && (((AV.int (AV.fld (AV.fld (y1.getD (Int.toNat y3) .u) 1) 2)) == (0 : Int)) && (((AV.int (AV.fld (AV.fld (y1.getD (Int.toNat y3) .u) 1) 3)) == (0 : Int)) && true))))))) = true then
     some [(AV.b false)]
    else
     l_regex_Right_r5 0 ((IntKind.wrap .i64 (y0 + (IntKind.wrap .i64 ((1 : Int) - (AV.int (List.headD o1 .u))))))) (y1) (y2) ((IntKind.wrap .i64 (y3 + (1 : Int))))
   else
    some [(AV.b false)]
  else
   some [(AV.b false)]
 else
  none
else
 some [(AV.b (y0 == (1 : Int)))]
theorem e_regex_Right_r5 (k : Nat) (y0 : Int) (y1 : List AV) (y2 y3 : Int) : l_regex_Right_r5 (k + 20) y0 y1 y2 y3 = t_regex_Right_r5 (fun c => callP C (callF C (k + c))) (fun c => l_regex_Right_r5 (k + c)) y0 y1 y2 y3 := by kernel_rfl
theorem d_regex_Right_r5 (y0 : Int) (y1 : List AV) (y2 y3 : Int) {o : List AV} (h : t_regex_Right_r5 (fun _ => D) (fun _ => L_regex_Right_r5) y0 y1 y2 y3 = some o) : L_regex_Right_r5 y0 y1 y2 y3 = some o := Lt.fin (fun k => e_regex_Right_r5 k y0 y1 y2 y3) (Lt.ite (Lt.ite (Lt.bind (D_lt 11 _ _) fun o1 => (Lt.ite (Lt.ite (Lt.ite Lt.ret (lt_regex_Right_r5 0 _ _ _ _)) Lt.ret) Lt.ret)) Lt.no) Lt.ret) h
noncomputable def t_ref17_Build_r9 (Q : Nat → FuncId → List AV → Out) (l_ref17_Build_r14 : Nat → List AV → List AV → List AV → List AV → Int → Int → List AV → Int → List AV → Int → Out) (y0 y1 : List AV) (y2 y3 : List AV) (y4 y5 : Int) (y6 : List AV) (y7 : Int) : Out :=
 if (decide (y7 < ((List.length y6 : Nat) : Int))) = true then
 if 0 ≤ y5 ∧ y5 ≤ y5 ∧ y5 ≤ 16777216 then
  if 0 ≤ (0 : Int) ∧ (0 : Int) < ((List.length (List.replicate (Int.toNat y5) (AV.i .i64 (0 : Int)))) : Int) then
   l_ref17_Build_r14 0 (y0) (y1) (y2) (y3) (y4) (y5) (y6) (y7) (((List.replicate (Int.toNat y5) (AV.i .i64 (0 : Int))).set 0 (AV.i .i64 (-1 : Int)))) ((1 : Int))
  else
   none
 else
  none
else
 some [(AV.l T_api_State y6), (AV.i .i64 (0 : Int))]
theorem e_ref17_Build_r9 (k : Nat) (y0 y1 : List AV) (y2 y3 : List AV) (y4 y5 : Int) (y6 : List AV) (y7 : Int) : l_ref17_Build_r9 (k + 16) y0 y1 y2 y3 y4 y5 y6 y7 = t_ref17_Build_r9 (fun c => callP C (callF C (k + c))) (fun c => l_ref17_Build_r14 (k + c)) y0 y1 y2 y3 y4 y5 y6 y7 := by kernel_rfl
theorem d_ref17_Build_r9 (y0 y1 : List AV) (y2 y3 : List AV) (y4 y5 : Int) (y6 : List AV) (y7 : Int) {o : List AV} (h : t_ref17_Build_r9 (fun _ => D) (fun _ => L_ref17_Build_r14) y0 y1 y2 y3 y4 y5 y6 y7 = some o) : L_ref17_Build_r9 y0 y1 y2 y3 y4 y5 y6 y7 = some o := Lt.fin (fun k => e_ref17_Build_r9 k y0 y1 y2 y3 y4 y5 y6 y7) (Lt.ite (Lt.ite (Lt.ite (lt_ref17_Build_r14 0 _ _ _ _ _ _ _ _ _ _) Lt.no) Lt.no) Lt.ret) h
noncomputable def t_ref16_Goto (Q : Nat → FuncId → List AV → Out) (l_ref16_Goto_r4 : Nat → List AV → List AV → List AV → List AV → Int → Int → List AV → List AV → Int → Out) (x0 x1 : List AV) (x2 x3 : List AV) (x4 : Int) (x5 : List AV) (x6 : Int) : Out :=
 (Q 8 ref16_Closure [(AV.g [(AV.l T_api_Rule x0), (AV.l T_string x1), (AV.l T_api_Level x2), (AV.l T_api_Prod x3), (AV.i .i64 x4)]), (AV.l T_api_Item x5)]).bind fun o1 =>
 l_ref16_Goto_r4 0 (x0) (x1) (x2) (x3) (x4) (x6) (([] : List AV)) ((AV.list (List.headD o1 .u))) ((0 : Int))
theorem e_ref16_Goto (k : Nat) (x0 x1 : List AV) (x2 x3 : List AV) (x4 : Int) (x5 : List AV) (x6 : Int) : call C (k + 14) ref16_Goto [(AV.g [(AV.l T_api_Rule x0), (AV.l T_string x1), (AV.l T_api_Level x2), (AV.l T_api_Prod x3), (AV.i .i64 x4)]), (AV.l T_api_Item x5), (AV.i .i64 x6)] = t_ref16_Goto (fun c => callP C (callF C (k + c))) (fun c => l_ref16_Goto_r4 (k + c)) x0 x1 x2 x3 x4 x5 x6 := by kernel_rfl
theorem d_ref16_Goto (x0 x1 : List AV) (x2 x3 : List AV) (x4 : Int) (x5 : List AV) (x6 : Int) {o : List AV} (h : t_ref16_Goto (fun _ => D) (fun _ => L_ref16_Goto_r4) x0 x1 x2 x3 x4 x5 x6 = some o) : D ref16_Goto [(AV.g [(AV.l T_api_Rule x0), (AV.l T_string x1), (AV.l T_api_Level x2), (AV.l T_api_Prod x3), (AV.i .i64 x4)]), (AV.l T_api_Item x5), (AV.i .i64 x6)] = some o := D_fin (by rfl) (fun k => e_ref16_Goto k x0 x1 x2 x3 x4 x5 x6) (Lt.bind (D_lt 8 _ _) fun o1 => (lt_ref16_Goto_r4 0 _ _ _ _ _ _ _ _ _)) h
noncomputable def t_items_Right_c1_c (Q : Nat → FuncId → List AV → Out) (x0 x1 : Int) (x2 x3 : List AV) (x4 x5 : List AV) (x6 : Int) : Out :=
 (Q 1 items_is [(AV.g [(AV.l T_api_Rule x2), (AV.l T_string x3), (AV.l T_api_Level x4), (AV.l T_api_Prod x5), (AV.i .i64 x6)]), (AV.g [(AV.i .i64 x0), (AV.i .i64 x1)])]).bind fun o1 =>
 some [(AV.b (!(AV.bool (List.headD o1 .u))))]
theorem e_items_Right_c1_c (k : Nat) (x0 x1 : Int) (x2 x3 : List AV) (x4 x5 : List AV) (x6 : Int) : call C (k + 5) items_Right_c1 [(AV.g [(AV.i .i64 x0), (AV.i .i64 x1)]), (AV.at T_api_Grammar (AV.g [(AV.l T_api_Rule x2), (AV.l T_string x3), (AV.l T_api_Level x4), (AV.l T_api_Prod x5), (AV.i .i64 x6)]))] = t_items_Right_c1_c (fun c => callP C (callF C (k + c))) x0 x1 x2 x3 x4 x5 x6 := by kernel_rfl
theorem d_items_Right_c1_c (x0 x1 : Int) (x2 x3 : List AV) (x4 x5 : List AV) (x6 : Int) {o : List AV} (h : t_items_Right_c1_c (fun _ => D) x0 x1 x2 x3 x4 x5 x6 = some o) : D items_Right_c1 [(AV.g [(AV.i .i64 x0), (AV.i .i64 x1)]), (AV.at T_api_Grammar (AV.g [(AV.l T_api_Rule x2), (AV.l T_string x3), (AV.l T_api_Level x4), (AV.l T_api_Prod x5), (AV.i .i64 x6)]))] = some o := D_fin (by rfl) (fun k => e_items_Right_c1_c k x0 x1 x2 x3 x4 x5 x6) (Lt.bind (D_lt 1 _ _) fun o1 => Lt.ret) h
noncomputable def t_items_usable (Q : Nat → FuncId → List AV → Out) (x0 x1 : List AV) (x2 x3 : List AV) (x4 : Int) : Out :=
 if (decide (((List.length x1 : Nat) : Int) > (0 : Int))) = true then
 (Q 1 check_Sound [(AV.g [(AV.l T_api_Rule x0), (AV.l T_string x1), (AV.l T_api_Level x2), (AV.l T_api_Prod x3), (AV.i .i64 x4)])]).bind fun o1 =>
  some [(AV.b (AV.bool (List.headD o1 .u)))]
else
 some [(AV.b false)]
theorem e_items_usable (k : Nat) (x0 x1 : List AV) (x2 x3 : List AV) (x4 : Int) : call C (k + 5) items_usable [(AV.g [(AV.l T_api_Rule x0), (AV.l T_string x1), (AV.l T_api_Level x2), (AV.l T_api_Prod x3), (AV.i .i64 x4)])] = t_items_usable (fun c => callP C (callF C (k + c))) x0 x1 x2 x3 x4 := by kernel_rfl
theorem d_items_usable (x0 x1 : List AV) (x2 x3 : List AV) (x4 : Int) {o : List AV} (h : t_items_usable (fun _ => D) x0 x1 x2 x3 x4 = some o) : D items_usable [(AV.g [(AV.l T_api_Rule x0), (AV.l T_string x1), (AV.l T_api_Level x2), (AV.l T_api_Prod x3), (AV.i .i64 x4)])] = some o := D_fin (by rfl) (fun k => e_items_usable k x0 x1 x2 x3 x4) (Lt.ite (Lt.bind (D_lt 1 _ _) fun o1 => Lt.ret) Lt.ret) h
noncomputable def t_word_blank_r7 (Q : Nat → FuncId → List AV → Out) (l_word_blank_r7 : Nat → ByteArray → Int → Out) (l_word_blank_r2 : Nat → ByteArray → Int → Out) (y0 : ByteArray) (y1 : Int) : Out :=
 if (decide (y1 < ((ByteArray.size y0 : Nat) : Int))) = true then
 if 0 ≤ y1 ∧ y1 < ((ByteArray.size y0 : Nat) : Int) then
  if (((((y0).data.getD (Int.toNat y1) 0).toNat : Nat) : Int) != (10 : Int)) = true then
   l_word_blank_r7 0 (y0) ((IntKind.wrap .i64 (y1 + (1 : Int))))
  else
   l_word_blank_r2 1 (y0) (y1)
 else
  none
else
 l_word_blank_r2 1 (y0) (y1)
theorem e_word_blank_r7 (k : Nat) (y0 : ByteArray) (y1 : Int) : l_word_blank_r7 (k + 9) y0 y1 = t_word_blank_r7 (fun c => callP C (callF C (k + c))) (fun c => l_word_blank_r7 (k + c)) (fun c => l_word_blank_r2 (k + c)) y0 y1 := by kernel_rfl
theorem d_word_blank_r7 (y0 : ByteArray) (y1 : Int) {o : List AV} (h : t_word_blank_r7 (fun _ => D) (fun _ => L_word_blank_r7) (fun _ => L_word_blank_r2) y0 y1 = some o) : L_word_blank_r7 y0 y1 = some o := Lt.fin (fun k => e_word_blank_r7 k y0 y1) (Lt.ite (Lt.ite (Lt.ite (lt_word_blank_r7 0 _ _) (lt_word_blank_r2 1 _ _)) Lt.no) (lt_word_blank_r2 1 _ _)) h
noncomputable def t_ref11_Letter (Q : Nat → FuncId → List AV → Out) (x0 : Int) : Out :=
 if (x0 == (95 : Int)) = false then
 if (decide (x0 ≥ (65 : Int))) = true then
  if (decide (x0 ≤ (90 : Int))) = false then
   if (decide (x0 ≥ (97 : Int))) = true then
    some [(AV.b (decide (x0 ≤ (122 : Int))))]
   else
    some [(AV.b false)]
  else
   some [(AV.b true)]
 else
  if (decide (x0 ≥ (97 : Int))) = true then
   some [(AV.b (decide (x0 ≤ (122 : Int))))]
  else
   some [(AV.b false)]
else
 some [(AV.b true)]
theorem e_ref11_Letter (k : Nat) (x0 : Int) : call C (k + 5) ref11_Letter [(AV.i .u8 x0)] = t_ref11_Letter (fun c => callP C (callF C (k + c))) x0 := by kernel_rfl
theorem d_ref11_Letter (x0 : Int) {o : List AV} (h : t_ref11_Letter (fun _ => D) x0 = some o) : D ref11_Letter [(AV.i .u8 x0)] = some o := D_fin (by rfl) (fun k => e_ref11_Letter k x0) (Lt.ite (Lt.ite (Lt.ite (Lt.ite Lt.ret Lt.ret) Lt.ret) (Lt.ite Lt.ret Lt.ret)) Lt.ret) h
noncomputable def t_ref06_Right (Q : Nat → FuncId → List AV → Out) (l_ref06_Right_r5 : Nat → List AV → Int → Int → Out) (x0 : List AV) : Out :=
 if (decide (((List.length x0 : Nat) : Int) < (1 : Int))) = false then
 if (decide (((List.length x0 : Nat) : Int) > (60 : Int))) = true then
  some [(AV.b false)]
 else
  l_ref06_Right_r5 0 (x0) ((0 : Int)) ((0 : Int))
else
 some [(AV.b false)]
theorem e_ref06_Right (k : Nat) (x0 : List AV) : call C (k + 17) ref06_Right [(AV.l T_api_Cell x0)] = t_ref06_Right (fun c => callP C (callF C (k + c))) (fun c => l_ref06_Right_r5 (k + c)) x0 := by kernel_rfl
theorem d_ref06_Right (x0 : List AV) {o : List AV} (h : t_ref06_Right (fun _ => D) (fun _ => L_ref06_Right_r5) x0 = some o) : D ref06_Right [(AV.l T_api_Cell x0)] = some o := D_fin (by rfl) (fun k => e_ref06_Right k x0) (Lt.ite (Lt.ite Lt.ret (lt_ref06_Right_r5 0 _ _ _)) Lt.ret) h
noncomputable def t_word_rule (Q : Nat → FuncId → List AV → Out) (l_word_rule_r4 : Nat → ByteArray → Int → Out) (x0 : ByteArray) : Out :=
 if 0 ≤ (0 : Int) ∧ (0 : Int) < ((ByteArray.size x0 : Nat) : Int) then
 if (((((x0).data.getD 0 0).toNat : Nat) : Int) != (47 : Int)) = true then
  some [(AV.i .i64 (0 : Int))]
 else
  l_word_rule_r4 0 (x0) ((1 : Int))
else
 none
theorem e_word_rule (k : Nat) (x0 : ByteArray) : call C (k + 15) word_rule [(AV.s x0)] = t_word_rule (fun c => callP C (callF C (k + c))) (fun c => l_word_rule_r4 (k + c)) x0 := by kernel_rfl
theorem d_word_rule (x0 : ByteArray) {o : List AV} (h : t_word_rule (fun _ => D) (fun _ => L_word_rule_r4) x0 = some o) : D word_rule [(AV.s x0)] = some o := D_fin (by rfl) (fun k => e_word_rule k x0) (Lt.ite (Lt.ite Lt.ret (lt_word_rule_r4 0 _ _)) Lt.no) h
noncomputable def t_auto_key (Q : Nat → FuncId → List AV → Out) (l_auto_key_r3 : Nat → List AV → List AV → Int → Int → Out) (x0 : List AV) : Out :=
 l_auto_key_r3 0 (([] : List AV)) (x0) (((List.length x0 : Nat) : Int)) ((0 : Int))
theorem e_auto_key (k : Nat) (x0 : List AV) : call C (k + 11) auto_key [(AV.l T_api_Item x0)] = t_auto_key (fun c => callP C (callF C (k + c))) (fun c => l_auto_key_r3 (k + c)) x0 := by kernel_rfl
theorem d_auto_key (x0 : List AV) {o : List AV} (h : t_auto_key (fun _ => D) (fun _ => L_auto_key_r3) x0 = some o) : D auto_key [(AV.l T_api_Item x0)] = some o := D_fin (by rfl) (fun k => e_auto_key k x0) (lt_auto_key_r3 0 _ _ _ _) h
noncomputable def t_law17_AutoWalks (Q : Nat → FuncId → List AV → Out) (x0 x1 : List AV) (x2 x3 : List AV) (x4 x5 : Int) (x6 : List AV) : Out :=
 (Q 19 law17_wakes []).bind fun o1 =>
 if (!(AV.bool (List.headD o1 .u))) = true then
 some [(AV.b false)]
else
 (Q 14 law17_heavy [(AV.g [(AV.l T_api_Rule x0), (AV.l T_string x1), (AV.l T_api_Level x2), (AV.l T_api_Prod x3), (AV.i .i64 x4)])]).bind fun o2 =>
  if (AV.bool (List.headD o2 .u)) = false then
  if (decide (((List.length x6 : Nat) : Int) > (60 : Int))) = true then
   some [(AV.b true)]
  else
   (Q 10 auto_Build [(AV.g [(AV.l T_api_Rule x0), (AV.l T_string x1), (AV.l T_api_Level x2), (AV.l T_api_Prod x3), (AV.i .i64 x4)])]).bind fun o3 =>
    (Q 7 auto_Walk [(AV.l T_api_State (AV.list (List.headD o3 .u))), (AV.i .i64 x5), (AV.l T_int x6)]).bind fun o4 =>
    (Q 7 ref17_Walk [(AV.l T_api_State (AV.list (List.headD o3 .u))), (AV.i .i64 x5), (AV.l T_int x6)]).bind fun o5 =>
    if ((AV.int (List.headD o4 .u)) != (AV.int (List.headD o5 .u))) = true then
    some [(AV.b false)]
   else
    if 0 ≤ (IntKind.wrap .i64 (Int.tdiv ((List.length x6 : Nat) : Int) (2 : Int))) ∧ (IntKind.wrap .i64 (Int.tdiv ((List.length x6 : Nat) : Int) (2 : Int))) ≤ ((List.length x6) : Int) then
     (Q 1 auto_Walk [(AV.l T_api_State (AV.list (List.headD o3 .u))), (AV.i .i64 x5), (AV.l T_int ((x6.take (Int.toNat (IntKind.wrap .i64 (Int.tdiv ((List.length x6 : Nat) : Int) (2 : Int))))).drop 0))]).bind fun o6 =>
      if 0 ≤ (IntKind.wrap .i64 (Int.tdiv ((List.length x6 : Nat) : Int) (2 : Int))) ∧ (IntKind.wrap .i64 (Int.tdiv ((List.length x6 : Nat) : Int) (2 : Int))) ≤ ((List.length x6) : Int) then
      (Q 1 auto_Walk [(AV.l T_api_State (AV.list (List.headD o3 .u))), (AV.i .i64 (AV.int (List.headD o6 .u))), (AV.l T_int ((x6.take (List.length x6)).drop (Int.toNat (IntKind.wrap .i64 (Int.tdiv ((List.length x6 : Nat) : Int) (2 : Int))))))]).bind fun o7 =>
       (Q 1 auto_Walk [(AV.l T_api_State (AV.list (List.headD o3 .u))), (AV.i .i64 x5), (AV.l T_int x6)]).bind fun o8 =>
       some [(AV.b ((AV.int (List.headD o7 .u)) == (AV.int (List.headD o8 .u))))]
     else
      none
    else
     none
 else
  some [(AV.b true)]
theorem e_law17_AutoWalks (k : Nat) (x0 x1 : List AV) (x2 x3 : List AV) (x4 x5 : Int) (x6 : List AV) : call C (k + 24) law17_AutoWalks [(AV.g [(AV.l T_api_Rule x0), (AV.l T_string x1), (AV.l T_api_Level x2), (AV.l T_api_Prod x3), (AV.i .i64 x4)]), (AV.i .i64 x5), (AV.l T_int x6)] = t_law17_AutoWalks (fun c => callP C (callF C (k + c))) x0 x1 x2 x3 x4 x5 x6 := by kernel_rfl
theorem d_law17_AutoWalks (x0 x1 : List AV) (x2 x3 : List AV) (x4 x5 : Int) (x6 : List AV) {o : List AV} (h : t_law17_AutoWalks (fun _ => D) x0 x1 x2 x3 x4 x5 x6 = some o) : D law17_AutoWalks [(AV.g [(AV.l T_api_Rule x0), (AV.l T_string x1), (AV.l T_api_Level x2), (AV.l T_api_Prod x3), (AV.i .i64 x4)]), (AV.i .i64 x5), (AV.l T_int x6)] = some o := D_fin (by rfl) (fun k => e_law17_AutoWalks k x0 x1 x2 x3 x4 x5 x6) (Lt.bind (D_lt 19 _ _) fun o1 => (Lt.ite Lt.ret (Lt.bind (D_lt 14 _ _) fun o2 => (Lt.ite (Lt.ite Lt.ret (Lt.bind (D_lt 10 _ _) fun o3 => (Lt.bind (D_lt 7 _ _) fun o4 => (Lt.bind (D_lt 7 _ _) fun o5 => (Lt.ite Lt.ret (Lt.ite (Lt.bind (D_lt 1 _ _) fun o6 => (Lt.ite (Lt.bind (D_lt 1 _ _) fun o7 => (Lt.bind (D_lt 1 _ _) fun o8 => Lt.ret)) Lt.no)) Lt.no)))))) Lt.ret)))) h
noncomputable def t_items_Goto_r5 (Q : Nat → FuncId → List AV → Out) (l_items_Goto_r5 : Nat → List AV → List AV → List AV → List AV → Int → Int → List AV → List AV → Int → Int → Out) (y0 y1 : List AV) (y2 y3 : List AV) (y4 y5 : Int) (y6 y7 : List AV) (y8 y9 : Int) : Out :=
 if (decide (y9 < y8)) = true then
 if 0 ≤ y9 ∧ y9 < ((List.length y7) : Int) then
  (Q 9 items_next [(AV.g [(AV.l T_api_Rule y0), (AV.l T_string y1), (AV.l T_api_Level y2), (AV.l T_api_Prod y3), (AV.i .i64 y4)]), (AV.g [(AV.i .i64 (AV.int (AV.fld (y7.getD (Int.toNat y9) .u) 0))), (AV.i .i64 (AV.int (AV.fld (y7.getD (Int.toNat y9) .u) 1)))])]).bind fun o1 =>
   if ((AV.int (List.headD o1 .u)) != (0 : Int)) = true then
   if ((AV.int (List.headD o1 .u)) == y5) = true then
    if (List.length y6) + (List.length [(AV.g [(AV.i .i64 (AV.int (AV.fld (y7.getD (Int.toNat y9) .u) 0))), (AV.i .i64 (IntKind.wrap .i64 ((AV.int (AV.fld (y7.getD (Int.toNat y9) .u) 1)) + (1 : Int))))])]) ≤ 16777216 ∧ (false && false) = false then
     l_items_Goto_r5 0 (y0) (y1) (y2) (y3) (y4) (y5) ((y6 ++ [(AV.g [(AV.i .i64 (AV.int (AV.fld (y7.getD (Int.toNat y9) .u) 0))), (AV.i .i64 (IntKind.wrap .i64 ((AV.int (AV.fld (y7.getD (Int.toNat y9) .u) 1)) + (1 : Int))))])])) (y7) (y8) ((IntKind.wrap .i64 (y9 + (1 : Int))))
    else
     none
   else
    l_items_Goto_r5 0 (y0) (y1) (y2) (y3) (y4) (y5) (y6) (y7) (y8) ((IntKind.wrap .i64 (y9 + (1 : Int))))
  else
   l_items_Goto_r5 0 (y0) (y1) (y2) (y3) (y4) (y5) (y6) (y7) (y8) ((IntKind.wrap .i64 (y9 + (1 : Int))))
 else
  none
else
 (Q 13 items_sorted [(AV.l T_api_Item y6)]).bind fun o2 =>
  some [(AV.l T_api_Item (AV.list (List.headD o2 .u)))]
theorem e_items_Goto_r5 (k : Nat) (y0 y1 : List AV) (y2 y3 : List AV) (y4 y5 : Int) (y6 y7 : List AV) (y8 y9 : Int) : l_items_Goto_r5 (k + 18) y0 y1 y2 y3 y4 y5 y6 y7 y8 y9 = t_items_Goto_r5 (fun c => callP C (callF C (k + c))) (fun c => l_items_Goto_r5 (k + c)) y0 y1 y2 y3 y4 y5 y6 y7 y8 y9 := by kernel_rfl
theorem d_items_Goto_r5 (y0 y1 : List AV) (y2 y3 : List AV) (y4 y5 : Int) (y6 y7 : List AV) (y8 y9 : Int) {o : List AV} (h : t_items_Goto_r5 (fun _ => D) (fun _ => L_items_Goto_r5) y0 y1 y2 y3 y4 y5 y6 y7 y8 y9 = some o) : L_items_Goto_r5 y0 y1 y2 y3 y4 y5 y6 y7 y8 y9 = some o := Lt.fin (fun k => e_items_Goto_r5 k y0 y1 y2 y3 y4 y5 y6 y7 y8 y9) (Lt.ite (Lt.ite (Lt.bind (D_lt 9 _ _) fun o1 => (Lt.ite (Lt.ite (Lt.ite (lt_items_Goto_r5 0 _ _ _ _ _ _ _ _ _ _) Lt.no) (lt_items_Goto_r5 0 _ _ _ _ _ _ _ _ _ _)) (lt_items_Goto_r5 0 _ _ _ _ _ _ _ _ _ _))) Lt.no) (Lt.bind (D_lt 13 _ _) fun o2 => Lt.ret)) h
noncomputable def t_slices_CompactFunc_api_Item_items_sorted_c1_r4 (Q : Nat → FuncId → List AV → Out) (l_slices_CompactFunc_api_Item_items_sorted_c1_r9 : Nat → List AV → Int → Int → Nat → Nat → Out) (l_slices_CompactFunc_api_Item_items_sorted_c1_r4 : Nat → List AV → Int → Out) (y0 : List AV) (y1 : Int) : Out :=
 if (decide (y1 < ((List.length y0 : Nat) : Int))) = true then
 if 0 ≤ y1 ∧ y1 < ((List.length y0) : Int) then
  if 0 ≤ (IntKind.wrap .i64 (y1 - (1 : Int))) ∧ (IntKind.wrap .i64 (y1 - (1 : Int))) < ((List.length y0) : Int) then
   (Q 11 items_sorted_c1 [(AV.g [(AV.i .i64 (AV.int (AV.fld (y0.getD (Int.toNat y1) .u) 0))), (AV.i .i64 (AV.int (AV.fld (y0.getD (Int.toNat y1) .u) 1)))]), (AV.g [(AV.i .i64 (AV.int (AV.fld (y0.getD (Int.toNat (IntKind.wrap .i64 (y1 - (1 : Int)))) .u) 0))), (AV.i .i64 (AV.int (AV.fld (y0.getD (Int.toNat (IntKind.wrap .i64 (y1 - (1 : Int)))) .u) 1)))])]).bind fun o1 =>
    if (AV.bool (List.headD o1 .u)) = true then
    if 0 ≤ y1 ∧ y1 ≤ ((List.length y0) : Int) then
     l_slices_CompactFunc_api_Item_items_sorted_c1_r9 0 (y0) (y1) ((1 : Int)) ((Int.toNat y1)) (((List.length y0) - (Int.toNat y1)))
    else
     none
   else
    l_slices_CompactFunc_api_Item_items_sorted_c1_r4 3 (y0) ((IntKind.wrap .i64 (y1 + (1 : Int))))
  else
   none
 else
  none
else
 some [(AV.l T_api_Item y0)]
theorem e_slices_CompactFunc_api_Item_items_sorted_c1_r4 (k : Nat) (y0 : List AV) (y1 : Int) : l_slices_CompactFunc_api_Item_items_sorted_c1_r4 (k + 17) y0 y1 = t_slices_CompactFunc_api_Item_items_sorted_c1_r4 (fun c => callP C (callF C (k + c))) (fun c => l_slices_CompactFunc_api_Item_items_sorted_c1_r9 (k + c)) (fun c => l_slices_CompactFunc_api_Item_items_sorted_c1_r4 (k + c)) y0 y1 := by kernel_rfl
theorem d_slices_CompactFunc_api_Item_items_sorted_c1_r4 (y0 : List AV) (y1 : Int) {o : List AV} (h : t_slices_CompactFunc_api_Item_items_sorted_c1_r4 (fun _ => D) (fun _ => L_slices_CompactFunc_api_Item_items_sorted_c1_r9) (fun _ => L_slices_CompactFunc_api_Item_items_sorted_c1_r4) y0 y1 = some o) : L_slices_CompactFunc_api_Item_items_sorted_c1_r4 y0 y1 = some o := Lt.fin (fun k => e_slices_CompactFunc_api_Item_items_sorted_c1_r4 k y0 y1) (Lt.ite (Lt.ite (Lt.ite (Lt.bind (D_lt 11 _ _) fun o1 => (Lt.ite (Lt.ite (lt_slices_CompactFunc_api_Item_items_sorted_c1_r9 0 _ _ _ _ _) Lt.no) (lt_slices_CompactFunc_api_Item_items_sorted_c1_r4 3 _ _))) Lt.no) Lt.no) Lt.ret) h
noncomputable def t_ref13_Sound (Q : Nat → FuncId → List AV → Out) (l_ref13_Sound_r8 : Nat → List AV → List AV → List AV → List AV → Int → Int → Int → Int → Out) (x0 x1 : List AV) (x2 x3 : List AV) (x4 : Int) : Out :=
 if (decide (((List.length x0 : Nat) : Int) > (16 : Int))) = false then
 if (decide (((List.length x1 : Nat) : Int) > (16 : Int))) = false then
  if (decide (((List.length x3 : Nat) : Int) > (40 : Int))) = false then
   (Q 19 ref13_names [(AV.g [(AV.l T_api_Rule x0), (AV.l T_string x1), (AV.l T_api_Level x2), (AV.l T_api_Prod x3), (AV.i .i64 x4)])]).bind fun o1 =>
    if (!(AV.bool (List.headD o1 .u))) = true then
    some [(AV.b false)]
   else
    (Q 15 ref12_Terms [(AV.g [(AV.l T_api_Rule x0), (AV.l T_string x1), (AV.l T_api_Level x2), (AV.l T_api_Prod x3), (AV.i .i64 x4)])]).bind fun o2 =>
     if (((List.length x2 : Nat) : Int) != (IntKind.wrap .i64 ((AV.int (List.headD o2 .u)) + (1 : Int)))) = true then
     some [(AV.b false)]
    else
     l_ref13_Sound_r8 0 (x0) (x1) (x2) (x3) (x4) ((AV.int (List.headD o2 .u))) ((IntKind.wrap .i64 ((AV.int (List.headD o2 .u)) + ((List.length x1 : Nat) : Int)))) ((0 : Int))
  else
   some [(AV.b false)]
 else
  some [(AV.b false)]
else
 some [(AV.b false)]
theorem e_ref13_Sound (k : Nat) (x0 x1 : List AV) (x2 x3 : List AV) (x4 : Int) : call C (k + 24) ref13_Sound [(AV.g [(AV.l T_api_Rule x0), (AV.l T_string x1), (AV.l T_api_Level x2), (AV.l T_api_Prod x3), (AV.i .i64 x4)])] = t_ref13_Sound (fun c => callP C (callF C (k + c))) (fun c => l_ref13_Sound_r8 (k + c)) x0 x1 x2 x3 x4 := by kernel_rfl
theorem d_ref13_Sound (x0 x1 : List AV) (x2 x3 : List AV) (x4 : Int) {o : List AV} (h : t_ref13_Sound (fun _ => D) (fun _ => L_ref13_Sound_r8) x0 x1 x2 x3 x4 = some o) : D ref13_Sound [(AV.g [(AV.l T_api_Rule x0), (AV.l T_string x1), (AV.l T_api_Level x2), (AV.l T_api_Prod x3), (AV.i .i64 x4)])] = some o := D_fin (by rfl) (fun k => e_ref13_Sound k x0 x1 x2 x3 x4) (Lt.ite (Lt.ite (Lt.ite (Lt.bind (D_lt 19 _ _) fun o1 => (Lt.ite Lt.ret (Lt.bind (D_lt 15 _ _) fun o2 => (Lt.ite Lt.ret (lt_ref13_Sound_r8 0 _ _ _ _ _ _ _ _))))) Lt.ret) Lt.ret) Lt.ret) h
noncomputable def t_ref16_Of_r7 (Q : Nat → FuncId → List AV → Out) (l_ref16_Of_r7 : Nat → List AV → List AV → List AV → List AV → Int → List AV → List AV → Int → Int → Int → Out) (l_ref16_Of_r3 : Nat → List AV → List AV → List AV → List AV → Int → List AV → List AV → Int → Out) (y0 y1 : List AV) (y2 y3 : List AV) (y4 : Int) (y5 y6 : List AV) (y7 y8 y9 : Int) : Out :=
 if (decide (y9 ≤ y8)) = true then
 (Q 8 ref16_Has [(AV.l T_api_Item y5), (AV.g [(AV.i .i64 y7), (AV.i .i64 y9)])]).bind fun o1 =>
  if (AV.bool (List.headD o1 .u)) = true then
  if (List.length y6) + (List.length [(AV.g [(AV.i .i64 y7), (AV.i .i64 y9)])]) ≤ 16777216 ∧ (false && false) = false then
   l_ref16_Of_r7 0 (y0) (y1) (y2) (y3) (y4) (y5) ((y6 ++ [(AV.g [(AV.i .i64 y7), (AV.i .i64 y9)])])) (y7) (y8) ((IntKind.wrap .i64 (y9 + (1 : Int))))
  else
   none
 else
  l_ref16_Of_r7 0 (y0) (y1) (y2) (y3) (y4) (y5) (y6) (y7) (y8) ((IntKind.wrap .i64 (y9 + (1 : Int))))
else
 l_ref16_Of_r3 6 (y0) (y1) (y2) (y3) (y4) (y5) (y6) ((IntKind.wrap .i64 (y7 + (1 : Int))))
theorem e_ref16_Of_r7 (k : Nat) (y0 y1 : List AV) (y2 y3 : List AV) (y4 : Int) (y5 y6 : List AV) (y7 y8 y9 : Int) : l_ref16_Of_r7 (k + 14) y0 y1 y2 y3 y4 y5 y6 y7 y8 y9 = t_ref16_Of_r7 (fun c => callP C (callF C (k + c))) (fun c => l_ref16_Of_r7 (k + c)) (fun c => l_ref16_Of_r3 (k + c)) y0 y1 y2 y3 y4 y5 y6 y7 y8 y9 := by kernel_rfl
theorem d_ref16_Of_r7 (y0 y1 : List AV) (y2 y3 : List AV) (y4 : Int) (y5 y6 : List AV) (y7 y8 y9 : Int) {o : List AV} (h : t_ref16_Of_r7 (fun _ => D) (fun _ => L_ref16_Of_r7) (fun _ => L_ref16_Of_r3) y0 y1 y2 y3 y4 y5 y6 y7 y8 y9 = some o) : L_ref16_Of_r7 y0 y1 y2 y3 y4 y5 y6 y7 y8 y9 = some o := Lt.fin (fun k => e_ref16_Of_r7 k y0 y1 y2 y3 y4 y5 y6 y7 y8 y9) (Lt.ite (Lt.bind (D_lt 8 _ _) fun o1 => (Lt.ite (Lt.ite (lt_ref16_Of_r7 0 _ _ _ _ _ _ _ _ _ _) Lt.no) (lt_ref16_Of_r7 0 _ _ _ _ _ _ _ _ _ _))) (lt_ref16_Of_r3 6 _ _ _ _ _ _ _ _)) h
noncomputable def t_law17_heavy_r4 (Q : Nat → FuncId → List AV → Out) (l_law17_heavy_r4 : Nat → List AV → List AV → List AV → List AV → Int → Int → Int → Out) (l_law17_heavy_r10 : Nat → List AV → List AV → List AV → List AV → Int → Int → Int → Out) (y0 y1 : List AV) (y2 y3 : List AV) (y4 y5 y6 : Int) : Out :=
 if (decide (y6 < y5)) = true then
 if 0 ≤ y6 ∧ y6 < ((List.length y0) : Int) then
  if (decide (((List.length (AV.list (AV.fld (y0.getD (Int.toNat y6) .u) 1)) : Nat) : Int) > (30 : Int))) = false then
   if 0 ≤ y6 ∧ y6 < ((List.length y0) : Int) then
    if (decide (((ByteArray.size (AV.str (AV.fld (y0.getD (Int.toNat y6) .u) 0)) : Nat) : Int) > (40 : Int))) = true then
     some [(AV.b true)]
    else
     l_law17_heavy_r4 0 (y0) (y1) (y2) (y3) (y4) (y5) ((IntKind.wrap .i64 (y6 + (1 : Int))))
   else
    none
  else
   some [(AV.b true)]
 else
  none
else
 l_law17_heavy_r10 6 (y0) (y1) (y2) (y3) (y4) (((List.length y1 : Nat) : Int)) ((0 : Int))
theorem e_law17_heavy_r4 (k : Nat) (y0 y1 : List AV) (y2 y3 : List AV) (y4 y5 y6 : Int) : l_law17_heavy_r4 (k + 16) y0 y1 y2 y3 y4 y5 y6 = t_law17_heavy_r4 (fun c => callP C (callF C (k + c))) (fun c => l_law17_heavy_r4 (k + c)) (fun c => l_law17_heavy_r10 (k + c)) y0 y1 y2 y3 y4 y5 y6 := by kernel_rfl
theorem d_law17_heavy_r4 (y0 y1 : List AV) (y2 y3 : List AV) (y4 y5 y6 : Int) {o : List AV} (h : t_law17_heavy_r4 (fun _ => D) (fun _ => L_law17_heavy_r4) (fun _ => L_law17_heavy_r10) y0 y1 y2 y3 y4 y5 y6 = some o) : L_law17_heavy_r4 y0 y1 y2 y3 y4 y5 y6 = some o := Lt.fin (fun k => e_law17_heavy_r4 k y0 y1 y2 y3 y4 y5 y6) (Lt.ite (Lt.ite (Lt.ite (Lt.ite (Lt.ite Lt.ret (lt_law17_heavy_r4 0 _ _ _ _ _ _ _)) Lt.no) Lt.ret) Lt.no) (lt_law17_heavy_r10 6 _ _ _ _ _ _ _)) h
noncomputable def t_law17_heavy (Q : Nat → FuncId → List AV → Out) (l_law17_heavy_r4 : Nat → List AV → List AV → List AV → List AV → Int → Int → Int → Out) (x0 x1 : List AV) (x2 x3 : List AV) (x4 : Int) : Out :=
 if (decide (((List.length x3 : Nat) : Int) > (24 : Int))) = false then
 if (decide (((List.length x0 : Nat) : Int) > (10 : Int))) = false then
  if (decide (((List.length x1 : Nat) : Int) > (10 : Int))) = false then
   if (decide (((List.length x2 : Nat) : Int) > (20 : Int))) = true then
    some [(AV.b true)]
   else
    l_law17_heavy_r4 0 (x0) (x1) (x2) (x3) (x4) (((List.length x0 : Nat) : Int)) ((0 : Int))
  else
   some [(AV.b true)]
 else
  some [(AV.b true)]
else
 some [(AV.b true)]
theorem e_law17_heavy (k : Nat) (x0 x1 : List AV) (x2 x3 : List AV) (x4 : Int) : call C (k + 14) law17_heavy [(AV.g [(AV.l T_api_Rule x0), (AV.l T_string x1), (AV.l T_api_Level x2), (AV.l T_api_Prod x3), (AV.i .i64 x4)])] = t_law17_heavy (fun c => callP C (callF C (k + c))) (fun c => l_law17_heavy_r4 (k + c)) x0 x1 x2 x3 x4 := by kernel_rfl
theorem d_law17_heavy (x0 x1 : List AV) (x2 x3 : List AV) (x4 : Int) {o : List AV} (h : t_law17_heavy (fun _ => D) (fun _ => L_law17_heavy_r4) x0 x1 x2 x3 x4 = some o) : D law17_heavy [(AV.g [(AV.l T_api_Rule x0), (AV.l T_string x1), (AV.l T_api_Level x2), (AV.l T_api_Prod x3), (AV.i .i64 x4)])] = some o := D_fin (by rfl) (fun k => e_law17_heavy k x0 x1 x2 x3 x4) (Lt.ite (Lt.ite (Lt.ite (Lt.ite Lt.ret (lt_law17_heavy_r4 0 _ _ _ _ _ _ _)) Lt.ret) Lt.ret) Lt.ret) h
noncomputable def t_check_names_r11 (Q : Nat → FuncId → List AV → Out) (l_check_names_r11 : Nat → List AV → Int → Int → Out) (y0 : List AV) (y1 y2 : Int) : Out :=
 if (decide (y2 < y1)) = true then
 if 0 ≤ y2 ∧ y2 < ((List.length y0) : Int) then
  (Q 7 check_named [(AV.s (AV.str (y0.getD (Int.toNat y2) .u)))]).bind fun o1 =>
   if (!(AV.bool (List.headD o1 .u))) = false then
   if 0 ≤ y2 ∧ y2 ≤ ((List.length y0) : Int) then
    (Q 7 slices_Contains_string [(AV.l T_string ((y0.drop 0).take ((Int.toNat y2) - 0))), (AV.s (AV.str (y0.getD (Int.toNat y2) .u)))]).bind fun o2 =>
     if (AV.bool (List.headD o2 .u)) = true then
     some [(AV.b false)]
    else
     l_check_names_r11 0 (y0) (y1) ((IntKind.wrap .i64 (y2 + (1 : Int))))
   else
    none
  else
   some [(AV.b false)]
 else
  none
else
 some [(AV.b true)]
theorem e_check_names_r11 (k : Nat) (y0 : List AV) (y1 y2 : Int) : l_check_names_r11 (k + 16) y0 y1 y2 = t_check_names_r11 (fun c => callP C (callF C (k + c))) (fun c => l_check_names_r11 (k + c)) y0 y1 y2 := by kernel_rfl
theorem d_check_names_r11 (y0 : List AV) (y1 y2 : Int) {o : List AV} (h : t_check_names_r11 (fun _ => D) (fun _ => L_check_names_r11) y0 y1 y2 = some o) : L_check_names_r11 y0 y1 y2 = some o := Lt.fin (fun k => e_check_names_r11 k y0 y1 y2) (Lt.ite (Lt.ite (Lt.bind (D_lt 7 _ _) fun o1 => (Lt.ite (Lt.ite (Lt.bind (D_lt 7 _ _) fun o2 => (Lt.ite Lt.ret (lt_check_names_r11 0 _ _ _))) Lt.no) Lt.ret)) Lt.no) Lt.ret) h
noncomputable def t_items_closure (Q : Nat → FuncId → List AV → Out) (l_items_closure_r4 : Nat → List AV → List AV → List AV → List AV → Int → List AV → List AV → Int → Out) (x0 x1 : List AV) (x2 x3 : List AV) (x4 : Int) (x5 : List AV) : Out :=
 (Q 10 slices_Clone_api_Item [(AV.l T_api_Item x5)]).bind fun o1 =>
 l_items_closure_r4 0 (x0) (x1) (x2) (x3) (x4) ((AV.list (List.headD o1 .u))) ((([] : List (AV × AV)).map fun q => AV.g [q.1, q.2])) ((0 : Int))
theorem e_items_closure (k : Nat) (x0 x1 : List AV) (x2 x3 : List AV) (x4 : Int) (x5 : List AV) : call C (k + 14) items_closure [(AV.g [(AV.l T_api_Rule x0), (AV.l T_string x1), (AV.l T_api_Level x2), (AV.l T_api_Prod x3), (AV.i .i64 x4)]), (AV.l T_api_Item x5)] = t_items_closure (fun c => callP C (callF C (k + c))) (fun c => l_items_closure_r4 (k + c)) x0 x1 x2 x3 x4 x5 := by kernel_rfl
theorem d_items_closure (x0 x1 : List AV) (x2 x3 : List AV) (x4 : Int) (x5 : List AV) {o : List AV} (h : t_items_closure (fun _ => D) (fun _ => L_items_closure_r4) x0 x1 x2 x3 x4 x5 = some o) : D items_closure [(AV.g [(AV.l T_api_Rule x0), (AV.l T_string x1), (AV.l T_api_Level x2), (AV.l T_api_Prod x3), (AV.i .i64 x4)]), (AV.l T_api_Item x5)] = some o := D_fin (by rfl) (fun k => e_items_closure k x0 x1 x2 x3 x4 x5) (Lt.bind (D_lt 10 _ _) fun o1 => (lt_items_closure_r4 0 _ _ _ _ _ _ _ _)) h
noncomputable def t_ref16_Of (Q : Nat → FuncId → List AV → Out) (l_ref16_Of_r3 : Nat → List AV → List AV → List AV → List AV → Int → List AV → List AV → Int → Out) (x0 x1 : List AV) (x2 x3 : List AV) (x4 : Int) (x5 : List AV) : Out :=
 l_ref16_Of_r3 0 (x0) (x1) (x2) (x3) (x4) (x5) (([] : List AV)) ((-1 : Int))
theorem e_ref16_Of (k : Nat) (x0 x1 : List AV) (x2 x3 : List AV) (x4 : Int) (x5 : List AV) : call C (k + 12) ref16_Of [(AV.g [(AV.l T_api_Rule x0), (AV.l T_string x1), (AV.l T_api_Level x2), (AV.l T_api_Prod x3), (AV.i .i64 x4)]), (AV.l T_api_Item x5)] = t_ref16_Of (fun c => callP C (callF C (k + c))) (fun c => l_ref16_Of_r3 (k + c)) x0 x1 x2 x3 x4 x5 := by kernel_rfl
theorem d_ref16_Of (x0 x1 : List AV) (x2 x3 : List AV) (x4 : Int) (x5 : List AV) {o : List AV} (h : t_ref16_Of (fun _ => D) (fun _ => L_ref16_Of_r3) x0 x1 x2 x3 x4 x5 = some o) : D ref16_Of [(AV.g [(AV.l T_api_Rule x0), (AV.l T_string x1), (AV.l T_api_Level x2), (AV.l T_api_Prod x3), (AV.i .i64 x4)]), (AV.l T_api_Item x5)] = some o := D_fin (by rfl) (fun k => e_ref16_Of k x0 x1 x2 x3 x4 x5) (lt_ref16_Of_r3 0 _ _ _ _ _ _ _ _) h
noncomputable def t_ref13_names (Q : Nat → FuncId → List AV → Out) (l_ref13_names_r3 : Nat → List AV → List AV → List AV → List AV → Int → List AV → Int → Out) (x0 x1 : List AV) (x2 x3 : List AV) (x4 : Int) : Out :=
 l_ref13_names_r3 0 (x0) (x1) (x2) (x3) (x4) (([] : List AV)) ((0 : Int))
theorem e_ref13_names (k : Nat) (x0 x1 : List AV) (x2 x3 : List AV) (x4 : Int) : call C (k + 12) ref13_names [(AV.g [(AV.l T_api_Rule x0), (AV.l T_string x1), (AV.l T_api_Level x2), (AV.l T_api_Prod x3), (AV.i .i64 x4)])] = t_ref13_names (fun c => callP C (callF C (k + c))) (fun c => l_ref13_names_r3 (k + c)) x0 x1 x2 x3 x4 := by kernel_rfl
theorem d_ref13_names (x0 x1 : List AV) (x2 x3 : List AV) (x4 : Int) {o : List AV} (h : t_ref13_names (fun _ => D) (fun _ => L_ref13_names_r3) x0 x1 x2 x3 x4 = some o) : D ref13_names [(AV.g [(AV.l T_api_Rule x0), (AV.l T_string x1), (AV.l T_api_Level x2), (AV.l T_api_Prod x3), (AV.i .i64 x4)])] = some o := D_fin (by rfl) (fun k => e_ref13_names k x0 x1 x2 x3 x4) (lt_ref13_names_r3 0 _ _ _ _ _ _ _) h
noncomputable def t_word_letter (Q : Nat → FuncId → List AV → Out) (x0 : Int) : Out :=
 if (decide (x0 ≥ (97 : Int))) = true then
 if (decide (x0 ≤ (122 : Int))) = false then
  if (decide (x0 ≥ (65 : Int))) = true then
   if (decide (x0 ≤ (90 : Int))) = false then
    some [(AV.b (x0 == (95 : Int)))]
   else
    some [(AV.b true)]
  else
   some [(AV.b (x0 == (95 : Int)))]
 else
  some [(AV.b true)]
else
 if (decide (x0 ≥ (65 : Int))) = true then
  if (decide (x0 ≤ (90 : Int))) = false then
   some [(AV.b (x0 == (95 : Int)))]
  else
   some [(AV.b true)]
 else
  some [(AV.b (x0 == (95 : Int)))]
theorem e_word_letter (k : Nat) (x0 : Int) : call C (k + 5) word_letter [(AV.i .u8 x0)] = t_word_letter (fun c => callP C (callF C (k + c))) x0 := by kernel_rfl
theorem d_word_letter (x0 : Int) {o : List AV} (h : t_word_letter (fun _ => D) x0 = some o) : D word_letter [(AV.i .u8 x0)] = some o := D_fin (by rfl) (fun k => e_word_letter k x0) (Lt.ite (Lt.ite (Lt.ite (Lt.ite Lt.ret Lt.ret) Lt.ret) Lt.ret) (Lt.ite (Lt.ite Lt.ret Lt.ret) Lt.ret)) h
noncomputable def t_word_sign (Q : Nat → FuncId → List AV → Out) (x0 : ByteArray) : Out :=
 if 0 ≤ (0 : Int) ∧ (0 : Int) < ((ByteArray.size x0 : Nat) : Int) then
 (Q 5 strings_IndexByte [(AV.s ⟨#[58, 59, 124, 37]⟩), (AV.i .u8 ((((x0).data.getD 0 0).toNat : Nat) : Int))]).bind fun o1 =>
  if (decide ((AV.int (List.headD o1 .u)) < (0 : Int))) = true then
  some [(AV.i .i64 (0 : Int))]
 else
  some [(AV.i .i64 (1 : Int))]
else
 none
theorem e_word_sign (k : Nat) (x0 : ByteArray) : call C (k + 10) word_sign [(AV.s x0)] = t_word_sign (fun c => callP C (callF C (k + c))) x0 := by kernel_rfl
theorem d_word_sign (x0 : ByteArray) {o : List AV} (h : t_word_sign (fun _ => D) x0 = some o) : D word_sign [(AV.s x0)] = some o := D_fin (by rfl) (fun k => e_word_sign k x0) (Lt.ite (Lt.bind (D_lt 5 _ _) fun o1 => (Lt.ite Lt.ret Lt.ret)) Lt.no) h
noncomputable def t_items_sorted_c1 (Q : Nat → FuncId → List AV → Out) (x0 x1 : Int) (x2 x3 : Int) : Out :=
 some [(AV.b ((x0 == x2) && ((x1 == x3) && true)))]
theorem e_items_sorted_c1 (k : Nat) (x0 x1 : Int) (x2 x3 : Int) : call C (k + 5) items_sorted_c1 [(AV.g [(AV.i .i64 x0), (AV.i .i64 x1)]), (AV.g [(AV.i .i64 x2), (AV.i .i64 x3)])] = t_items_sorted_c1 (fun c => callP C (callF C (k + c))) x0 x1 x2 x3 := by kernel_rfl
theorem d_items_sorted_c1 (x0 x1 : Int) (x2 x3 : Int) {o : List AV} (h : t_items_sorted_c1 (fun _ => D) x0 x1 x2 x3 = some o) : D items_sorted_c1 [(AV.g [(AV.i .i64 x0), (AV.i .i64 x1)]), (AV.g [(AV.i .i64 x2), (AV.i .i64 x3)])] = some o := D_fin (by rfl) (fun k => e_items_sorted_c1 k x0 x1 x2 x3) Lt.ret h
noncomputable def t_cmp_isNaN_int (Q : Nat → FuncId → List AV → Out) (x0 : Int) : Out :=
 some [(AV.b (x0 != x0))]
theorem e_cmp_isNaN_int (k : Nat) (x0 : Int) : call C (k + 5) cmp_isNaN_int [(AV.i .i64 x0)] = t_cmp_isNaN_int (fun c => callP C (callF C (k + c))) x0 := by kernel_rfl
theorem d_cmp_isNaN_int (x0 : Int) {o : List AV} (h : t_cmp_isNaN_int (fun _ => D) x0 = some o) : D cmp_isNaN_int [(AV.i .i64 x0)] = some o := D_fin (by rfl) (fun k => e_cmp_isNaN_int k x0) Lt.ret h
end Go.Proofs.YteklakapimggeaaGreatDoor.Den
