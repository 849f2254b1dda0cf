/- Proved here: a part of the proof, told one step at a time: DenEq1, DenEq2. No condition but those each theorem names. -/
import Derived.Test.YteklakapimggeaaGreatDoorQa1
namespace Go.Proofs.YteklakapimggeaaGreatDoor.Den
open Go Go.Proofs
set_option linter.unusedVariables false
noncomputable def t_word_All_r5 (Q : Nat → FuncId → List AV → Out) (l_word_All_r5 : Nat → ByteArray → List AV → Int → Out) (y0 : ByteArray) (y1 : List AV) (y2 : Int) : Out :=
 if (decide (y2 < ((ByteArray.size y0 : Nat) : Int))) = true then
 if 0 ≤ y2 ∧ y2 ≤ ((ByteArray.size y0) : Int) then
  (Q 65 word_name [(AV.s (ByteArray.extract y0 (Int.toNat y2) (ByteArray.size y0)))]).bind fun o1 =>
   if ((AV.int (List.headD o1 .u)) == (0 : Int)) = true then
   if 0 ≤ y2 ∧ y2 ≤ ((ByteArray.size y0) : Int) then
    (Q 47 word_rule [(AV.s (ByteArray.extract y0 (Int.toNat y2) (ByteArray.size y0)))]).bind fun o2 =>
     if ((AV.int (List.headD o2 .u)) == (0 : Int)) = true then
     if 0 ≤ y2 ∧ y2 ≤ ((ByteArray.size y0) : Int) then
      (Q 29 word_sign [(AV.s (ByteArray.extract y0 (Int.toNat y2) (ByteArray.size y0)))]).bind fun o3 =>
       if ((AV.int (List.headD o3 .u)) == (0 : Int)) = true then
       some [(AV.l T_api_Word ([] : List AV)), (AV.i .i64 y2), (AV.i .i64 (1 : Int))]
      else
       if 0 ≤ (IntKind.wrap .i64 (y2 + (AV.int (List.headD o3 .u)))) ∧ (IntKind.wrap .i64 (y2 + (AV.int (List.headD o3 .u)))) ≤ ((ByteArray.size y0) : Int) then
        if 0 ≤ y2 ∧ y2 ≤ (IntKind.wrap .i64 (y2 + (AV.int (List.headD o3 .u)))) then
         if (List.length y1) + (List.length [(AV.g [(AV.i .i64 (3 : Int)), (AV.i .i64 y2), (AV.s (ByteArray.extract y0 (Int.toNat y2) (Int.toNat (IntKind.wrap .i64 (y2 + (AV.int (List.headD o3 .u)))))))])]) ≤ 16777216 ∧ (false && false) = false then
          if 0 ≤ (IntKind.wrap .i64 (y2 + (AV.int (List.headD o3 .u)))) ∧ (IntKind.wrap .i64 (y2 + (AV.int (List.headD o3 .u)))) ≤ ((ByteArray.size y0) : Int) then
           (Q 4 word_blank [(AV.s (ByteArray.extract y0 (Int.toNat (IntKind.wrap .i64 (y2 + (AV.int (List.headD o3 .u))))) (ByteArray.size y0)))]).bind fun o4 =>
            l_word_All_r5 0 (y0) ((y1 ++ [(AV.g [(AV.i .i64 (3 : Int)), (AV.i .i64 y2), (AV.s (ByteArray.extract y0 (Int.toNat y2) (Int.toNat (IntKind.wrap .i64 (y2 + (AV.int (List.headD o3 .u)))))))])])) ((IntKind.wrap .i64 ((IntKind.wrap .i64 (y2 + (AV.int (List.headD o3 .u)))) + (AV.int (List.headD o4 .u)))))
          else
           none
         else
          none
        else
         none
       else
        none
     else
      none
    else
     if 0 ≤ (IntKind.wrap .i64 (y2 + (AV.int (List.headD o2 .u)))) ∧ (IntKind.wrap .i64 (y2 + (AV.int (List.headD o2 .u)))) ≤ ((ByteArray.size y0) : Int) then
      if 0 ≤ y2 ∧ y2 ≤ (IntKind.wrap .i64 (y2 + (AV.int (List.headD o2 .u)))) then
       if 0 ≤ (IntKind.wrap .i64 ((AV.int (List.headD o2 .u)) - (1 : Int))) ∧ (IntKind.wrap .i64 ((AV.int (List.headD o2 .u)) - (1 : Int))) ≤ ((ByteArray.size (ByteArray.extract y0 (Int.toNat y2) (Int.toNat (IntKind.wrap .i64 (y2 + (AV.int (List.headD o2 .u))))))) : Int) then
        if 0 ≤ (1 : Int) ∧ (1 : Int) ≤ (IntKind.wrap .i64 ((AV.int (List.headD o2 .u)) - (1 : Int))) then
         if (List.length y1) + (List.length [(AV.g [(AV.i .i64 (2 : Int)), (AV.i .i64 y2), (AV.s (ByteArray.extract (ByteArray.extract y0 (Int.toNat y2) (Int.toNat (IntKind.wrap .i64 (y2 + (AV.int (List.headD o2 .u)))))) (Int.toNat (1 : Int)) (Int.toNat (IntKind.wrap .i64 ((AV.int (List.headD o2 .u)) - (1 : Int))))))])]) ≤ 16777216 ∧ (false && false) = false then
          if 0 ≤ (IntKind.wrap .i64 (y2 + (AV.int (List.headD o2 .u)))) ∧ (IntKind.wrap .i64 (y2 + (AV.int (List.headD o2 .u)))) ≤ ((ByteArray.size y0) : Int) then
           (Q 22 word_blank [(AV.s (ByteArray.extract y0 (Int.toNat (IntKind.wrap .i64 (y2 + (AV.int (List.headD o2 .u))))) (ByteArray.size y0)))]).bind fun o5 =>
            l_word_All_r5 18 (y0) ((y1 ++ [(AV.g [(AV.i .i64 (2 : Int)), (AV.i .i64 y2), (AV.s (ByteArray.extract (ByteArray.extract y0 (Int.toNat y2) (Int.toNat (IntKind.wrap .i64 (y2 + (AV.int (List.headD o2 .u)))))) (Int.toNat (1 : Int)) (Int.toNat (IntKind.wrap .i64 ((AV.int (List.headD o2 .u)) - (1 : Int))))))])])) ((IntKind.wrap .i64 ((IntKind.wrap .i64 (y2 + (AV.int (List.headD o2 .u)))) + (AV.int (List.headD o5 .u)))))
          else
           none
         else
          none
        else
         none
       else
        none
      else
       none
     else
      none
   else
    none
  else
   if 0 ≤ (IntKind.wrap .i64 (y2 + (AV.int (List.headD o1 .u)))) ∧ (IntKind.wrap .i64 (y2 + (AV.int (List.headD o1 .u)))) ≤ ((ByteArray.size y0) : Int) then
    if 0 ≤ y2 ∧ y2 ≤ (IntKind.wrap .i64 (y2 + (AV.int (List.headD o1 .u)))) then
     if (List.length y1) + (List.length [(AV.g [(AV.i .i64 (1 : Int)), (AV.i .i64 y2), (AV.s (ByteArray.extract y0 (Int.toNat y2) (Int.toNat (IntKind.wrap .i64 (y2 + (AV.int (List.headD o1 .u)))))))])]) ≤ 16777216 ∧ (false && false) = false then
      if 0 ≤ (IntKind.wrap .i64 (y2 + (AV.int (List.headD o1 .u)))) ∧ (IntKind.wrap .i64 (y2 + (AV.int (List.headD o1 .u)))) ≤ ((ByteArray.size y0) : Int) then
       (Q 40 word_blank [(AV.s (ByteArray.extract y0 (Int.toNat (IntKind.wrap .i64 (y2 + (AV.int (List.headD o1 .u))))) (ByteArray.size y0)))]).bind fun o6 =>
        l_word_All_r5 36 (y0) ((y1 ++ [(AV.g [(AV.i .i64 (1 : Int)), (AV.i .i64 y2), (AV.s (ByteArray.extract y0 (Int.toNat y2) (Int.toNat (IntKind.wrap .i64 (y2 + (AV.int (List.headD o1 .u)))))))])])) ((IntKind.wrap .i64 ((IntKind.wrap .i64 (y2 + (AV.int (List.headD o1 .u)))) + (AV.int (List.headD o6 .u)))))
      else
       none
     else
      none
    else
     none
   else
    none
 else
  none
else
 some [(AV.l T_api_Word y1), (AV.i .i64 (0 : Int)), (AV.i .i64 (0 : Int))]
theorem e_word_All_r5 (k : Nat) (y0 : ByteArray) (y1 : List AV) (y2 : Int) : l_word_All_r5 (k + 87) y0 y1 y2 = t_word_All_r5 (fun c => callP C (callF C (k + c))) (fun c => l_word_All_r5 (k + c)) y0 y1 y2 := by kernel_rfl
theorem d_word_All_r5 (y0 : ByteArray) (y1 : List AV) (y2 : Int) {o : List AV} (h : t_word_All_r5 (fun _ => D) (fun _ => L_word_All_r5) y0 y1 y2 = some o) : L_word_All_r5 y0 y1 y2 = some o := Lt.fin (fun k => e_word_All_r5 k y0 y1 y2) (Lt.ite (Lt.ite (Lt.bind (D_lt 65 _ _) fun o1 => (Lt.ite (Lt.ite (Lt.bind (D_lt 47 _ _) fun o2 => (Lt.ite (Lt.ite (Lt.bind (D_lt 29 _ _) fun o3 => (Lt.ite Lt.ret (Lt.ite (Lt.ite (Lt.ite (Lt.ite (Lt.bind (D_lt 4 _ _) fun o4 => (lt_word_All_r5 0 _ _ _)) Lt.no) Lt.no) Lt.no) Lt.no))) Lt.no) (Lt.ite (Lt.ite (Lt.ite (Lt.ite (Lt.ite (Lt.ite (Lt.bind (D_lt 22 _ _) fun o5 => (lt_word_All_r5 18 _ _ _)) Lt.no) Lt.no) Lt.no) Lt.no) Lt.no) Lt.no))) Lt.no) (Lt.ite (Lt.ite (Lt.ite (Lt.ite (Lt.bind (D_lt 40 _ _) fun o6 => (lt_word_All_r5 36 _ _ _)) Lt.no) Lt.no) Lt.no) Lt.no))) Lt.no) Lt.ret) h
noncomputable def t_auto_Build_r8 (Q : Nat → FuncId → List AV → Out) (l_auto_Build_r15 : Nat → List AV → List AV → List AV → List AV → Int → Int → List AV → List AV → Int → List AV → List AV → List AV → Int → Out) (y0 y1 : List AV) (y2 y3 : List AV) (y4 y5 : Int) (y6 y7 : List AV) (y8 : Int) : Out :=
 if (decide (y8 < ((List.length y6 : Nat) : Int))) = true then
 if 0 ≤ y5 ∧ y5 ≤ y5 ∧ y5 ≤ 16777216 then
  if 0 ≤ (0 : Int) ∧ (0 : Int) < ((List.length (List.replicate (Int.toNat y5) (AV.i .i64 (0 : Int)))) : Int) then
   if 0 ≤ y8 ∧ y8 < ((List.length y6) : Int) then
    (Q 10 items_Closure [(AV.g [(AV.l T_api_Rule y0), (AV.l T_string y1), (AV.l T_api_Level y2), (AV.l T_api_Prod y3), (AV.i .i64 y4)]), (AV.l T_api_Item (AV.list (AV.fld (y6.getD (Int.toNat y8) .u) 0)))]).bind fun o1 =>
     (Q 8 auto_wants [(AV.g [(AV.l T_api_Rule y0), (AV.l T_string y1), (AV.l T_api_Level y2), (AV.l T_api_Prod y3), (AV.i .i64 y4)]), (AV.l T_api_Item (AV.list (List.headD o1 .u))), (AV.i .i64 y5)]).bind fun o2 =>
     l_auto_Build_r15 0 (y0) (y1) (y2) (y3) (y4) (y5) (y6) (((unM (AV.l T_map_string_int y7)).map fun q => AV.g [q.1, q.2])) (y8) (((List.replicate (Int.toNat y5) (AV.i .i64 (0 : Int))).set 0 (AV.i .i64 (-1 : Int)))) ((AV.list (List.headD o1 .u))) ((AV.list (List.headD o2 .u))) ((1 : Int))
   else
    none
  else
   none
 else
  none
else
 some [(AV.l T_api_State y6), (AV.i .i64 (0 : Int))]
theorem e_auto_Build_r8 (k : Nat) (y0 y1 : List AV) (y2 y3 : List AV) (y4 y5 : Int) (y6 y7 : List AV) (y8 : Int) : l_auto_Build_r8 (k + 20) y0 y1 y2 y3 y4 y5 y6 y7 y8 = t_auto_Build_r8 (fun c => callP C (callF C (k + c))) (fun c => l_auto_Build_r15 (k + c)) y0 y1 y2 y3 y4 y5 y6 y7 y8 := by kernel_rfl
theorem d_auto_Build_r8 (y0 y1 : List AV) (y2 y3 : List AV) (y4 y5 : Int) (y6 y7 : List AV) (y8 : Int) {o : List AV} (h : t_auto_Build_r8 (fun _ => D) (fun _ => L_auto_Build_r15) y0 y1 y2 y3 y4 y5 y6 y7 y8 = some o) : L_auto_Build_r8 y0 y1 y2 y3 y4 y5 y6 y7 y8 = some o := Lt.fin (fun k => e_auto_Build_r8 k y0 y1 y2 y3 y4 y5 y6 y7 y8) (Lt.ite (Lt.ite (Lt.ite (Lt.ite (Lt.bind (D_lt 10 _ _) fun o1 => (Lt.bind (D_lt 8 _ _) fun o2 => (lt_auto_Build_r15 0 _ _ _ _ _ _ _ _ _ _ _ _ _))) Lt.no) Lt.no) Lt.no) Lt.ret) h
noncomputable def t_ref13_Sound (Q : Nat → FuncId → List AV → Out) (l_ref13_Sound_r8 : Nat → List AV → List AV → List AV → List AV → Int → Int → Int → Int → Out) (x0 x1 : List AV) (x2 x3 : List AV) (x4 : Int) : Out :=
 if (decide (((List.length x0 : Nat) : Int) > (16 : Int))) = false then
 if (decide (((List.length x1 : Nat) : Int) > (16 : Int))) = false then
  if (decide (((List.length x3 : Nat) : Int) > (40 : Int))) = false then
   (Q 19 ref13_names [(AV.g [(AV.l T_api_Rule x0), (AV.l T_string x1), (AV.l T_api_Level x2), (AV.l T_api_Prod x3), (AV.i .i64 x4)])]).bind fun o1 =>
    if (!(AV.bool (List.headD o1 .u))) = true then
    some [(AV.b false)]
   else
    (Q 15 ref12_Terms [(AV.g [(AV.l T_api_Rule x0), (AV.l T_string x1), (AV.l T_api_Level x2), (AV.l T_api_Prod x3), (AV.i .i64 x4)])]).bind fun o2 =>
     if (((List.length x2 : Nat) : Int) != (IntKind.wrap .i64 ((AV.int (List.headD o2 .u)) + (1 : Int)))) = true then
     some [(AV.b false)]
    else
     l_ref13_Sound_r8 0 (x0) (x1) (x2) (x3) (x4) ((AV.int (List.headD o2 .u))) ((IntKind.wrap .i64 ((AV.int (List.headD o2 .u)) + ((List.length x1 : Nat) : Int)))) ((0 : Int))
  else
   some [(AV.b false)]
 else
  some [(AV.b false)]
else
 some [(AV.b false)]
theorem e_ref13_Sound (k : Nat) (x0 x1 : List AV) (x2 x3 : List AV) (x4 : Int) : call C (k + 24) ref13_Sound [(AV.g [(AV.l T_api_Rule x0), (AV.l T_string x1), (AV.l T_api_Level x2), (AV.l T_api_Prod x3), (AV.i .i64 x4)])] = t_ref13_Sound (fun c => callP C (callF C (k + c))) (fun c => l_ref13_Sound_r8 (k + c)) x0 x1 x2 x3 x4 := by kernel_rfl
theorem d_ref13_Sound (x0 x1 : List AV) (x2 x3 : List AV) (x4 : Int) {o : List AV} (h : t_ref13_Sound (fun _ => D) (fun _ => L_ref13_Sound_r8) x0 x1 x2 x3 x4 = some o) : D ref13_Sound [(AV.g [(AV.l T_api_Rule x0), (AV.l T_string x1), (AV.l T_api_Level x2), (AV.l T_api_Prod x3), (AV.i .i64 x4)])] = some o := D_fin (by rfl) (fun k => e_ref13_Sound k x0 x1 x2 x3 x4) (Lt.ite (Lt.ite (Lt.ite (Lt.bind (D_lt 19 _ _) fun o1 => (Lt.ite Lt.ret (Lt.bind (D_lt 15 _ _) fun o2 => (Lt.ite Lt.ret (lt_ref13_Sound_r8 0 _ _ _ _ _ _ _ _))))) Lt.ret) Lt.ret) Lt.ret) h
noncomputable def t_check_names_r3 (Q : Nat → FuncId → List AV → Out) (l_check_names_r3 : Nat → List AV → List AV → List AV → List AV → Int → List AV → List AV → Int → Int → Out) (l_check_names_r11 : Nat → List AV → Int → Int → Out) (y0 y1 : List AV) (y2 y3 : List AV) (y4 : Int) (y5 y6 : List AV) (y7 y8 : Int) : Out :=
 if (decide (y8 < y7)) = true then
 if 0 ≤ y8 ∧ y8 < ((List.length y6) : Int) then
  (Q 8 regex_Right [(AV.l T_api_Cell (AV.list (AV.fld (y6.getD (Int.toNat y8) .u) 1)))]).bind fun o1 =>
   if (!(AV.bool (List.headD o1 .u))) = true then
   some [(AV.b false)]
  else
   if (List.length y5) + (List.length [(AV.s (AV.str (AV.fld (y6.getD (Int.toNat y8) .u) 0)))]) ≤ 16777216 ∧ (false && false) = false then
    l_check_names_r3 0 (y0) (y1) (y2) (y3) (y4) ((y5 ++ [(AV.s (AV.str (AV.fld (y6.getD (Int.toNat y8) .u) 0)))])) (y6) (y7) ((IntKind.wrap .i64 (y8 + (1 : Int))))
   else
    none
 else
  none
else
 if (List.length y5) + (List.length y1) ≤ 16777216 ∧ (false && false) = false then
  l_check_names_r11 6 ((y5 ++ y1)) (((List.length (y5 ++ y1) : Nat) : Int)) ((0 : Int))
 else
  none
theorem e_check_names_r3 (k : Nat) (y0 y1 : List AV) (y2 y3 : List AV) (y4 : Int) (y5 y6 : List AV) (y7 y8 : Int) : l_check_names_r3 (k + 18) y0 y1 y2 y3 y4 y5 y6 y7 y8 = t_check_names_r3 (fun c => callP C (callF C (k + c))) (fun c => l_check_names_r3 (k + c)) (fun c => l_check_names_r11 (k + c)) y0 y1 y2 y3 y4 y5 y6 y7 y8 := by kernel_rfl
theorem d_check_names_r3 (y0 y1 : List AV) (y2 y3 : List AV) (y4 : Int) (y5 y6 : List AV) (y7 y8 : Int) {o : List AV} (h : t_check_names_r3 (fun _ => D) (fun _ => L_check_names_r3) (fun _ => L_check_names_r11) y0 y1 y2 y3 y4 y5 y6 y7 y8 = some o) : L_check_names_r3 y0 y1 y2 y3 y4 y5 y6 y7 y8 = some o := Lt.fin (fun k => e_check_names_r3 k y0 y1 y2 y3 y4 y5 y6 y7 y8) (Lt.ite (Lt.ite (Lt.bind (D_lt 8 _ _) fun o1 => (Lt.ite Lt.ret (Lt.ite (lt_check_names_r3 0 _ _ _ _ _ _ _ _ _) Lt.no))) Lt.no) (Lt.ite (lt_check_names_r11 6 _ _ _) Lt.no)) h
noncomputable def t_regex_Right_r5 (Q : Nat → FuncId → List AV → Out) (l_regex_Right_r5 : Nat → Int → List AV → Int → Int → Out) (y0 : Int) (y1 : List AV) (y2 y3 : Int) : Out :=
 if (decide (y3 < y2)) = true then
 if 0 ≤ y3 ∧ y3 < ((List.length y1) : Int) then
  (Q 11 regex_wants [(AV.i .i64 (AV.int (AV.fld (y1.getD (Int.toNat y3) .u) 0)))]).bind fun o1 =>
   if (decide ((AV.int (List.headD o1 .u)) < (0 : Int))) = false then
   if (decide ((AV.int (List.headD o1 .u)) > y0)) = false then
    if (!(((AV.int (AV.fld (y1.getD (Int.toNat y3) .u) 0)) == (1 : Int)) == (!(((AV.int (AV.fld (AV.fld (y1.getD (Int.toNat y3) .u) 1) 0)) == (0 : Int)) && (((AV.int (AV.fld (AV.fld (y1.getD (Int.toNat y3) .u) 1) 1)) == (0 : Int)) && (((AV.int (AV.fld (AV.fld (y1.getD (Int.toNat y3) .u) 1) 2)) == (0 : Int)) && (((AV.int (AV.fld (AV.fld (y1.getD (Int.toNat y3) .u) 1) 3)) == (0 : Int)) && true))))))) = true then
     some [(AV.b false)]
    else
     l_regex_Right_r5 0 ((IntKind.wrap .i64 (y0 + (IntKind.wrap .i64 ((1 : Int) - (AV.int (List.headD o1 .u))))))) (y1) (y2) ((IntKind.wrap .i64 (y3 + (1 : Int))))
   else
    some [(AV.b false)]
  else
   some [(AV.b false)]
 else
  none
else
 some [(AV.b (y0 == (1 : Int)))]
theorem e_regex_Right_r5 (k : Nat) (y0 : Int) (y1 : List AV) (y2 y3 : Int) : l_regex_Right_r5 (k + 20) y0 y1 y2 y3 = t_regex_Right_r5 (fun c => callP C (callF C (k + c))) (fun c => l_regex_Right_r5 (k + c)) y0 y1 y2 y3 := by kernel_rfl
theorem d_regex_Right_r5 (y0 : Int) (y1 : List AV) (y2 y3 : Int) {o : List AV} (h : t_regex_Right_r5 (fun _ => D) (fun _ => L_regex_Right_r5) y0 y1 y2 y3 = some o) : L_regex_Right_r5 y0 y1 y2 y3 = some o := Lt.fin (fun k => e_regex_Right_r5 k y0 y1 y2 y3) (Lt.ite (Lt.ite (Lt.bind (D_lt 11 _ _) fun o1 => (Lt.ite (Lt.ite (Lt.ite Lt.ret (lt_regex_Right_r5 0 _ _ _ _)) Lt.ret) Lt.ret)) Lt.no) Lt.ret) h
noncomputable def t_law17_heavy_r17 (Q : Nat → FuncId → List AV → Out) (l_law17_heavy_r17 : Nat → List AV → List AV → List AV → List AV → Int → Int → Int → Int → Out) (y0 y1 : List AV) (y2 y3 : List AV) (y4 y5 : Int) (y6 y7 : Int) : Out :=
 if (decide (y7 < y6)) = true then
 if 0 ≤ y7 ∧ y7 < ((List.length y3) : Int) then
  if (decide (((List.length (AV.list (AV.fld (y3.getD (Int.toNat y7) .u) 1)) : Nat) : Int) > (8 : Int))) = true then
   some [(AV.b true)]
  else
   if 0 ≤ y7 ∧ y7 < ((List.length y3) : Int) then
    l_law17_heavy_r17 0 (y0) (y1) (y2) (y3) (y4) ((IntKind.wrap .i64 (y5 + ((List.length (AV.list (AV.fld (y3.getD (Int.toNat y7) .u) 1)) : Nat) : Int)))) (y6) ((IntKind.wrap .i64 (y7 + (1 : Int))))
   else
    none
 else
  none
else
 some [(AV.b (decide (y5 > (60 : Int))))]
theorem e_law17_heavy_r17 (k : Nat) (y0 y1 : List AV) (y2 y3 : List AV) (y4 y5 : Int) (y6 y7 : Int) : l_law17_heavy_r17 (k + 18) y0 y1 y2 y3 y4 y5 y6 y7 = t_law17_heavy_r17 (fun c => callP C (callF C (k + c))) (fun c => l_law17_heavy_r17 (k + c)) y0 y1 y2 y3 y4 y5 y6 y7 := by kernel_rfl
theorem d_law17_heavy_r17 (y0 y1 : List AV) (y2 y3 : List AV) (y4 y5 : Int) (y6 y7 : Int) {o : List AV} (h : t_law17_heavy_r17 (fun _ => D) (fun _ => L_law17_heavy_r17) y0 y1 y2 y3 y4 y5 y6 y7 = some o) : L_law17_heavy_r17 y0 y1 y2 y3 y4 y5 y6 y7 = some o := Lt.fin (fun k => e_law17_heavy_r17 k y0 y1 y2 y3 y4 y5 y6 y7) (Lt.ite (Lt.ite (Lt.ite Lt.ret (Lt.ite (lt_law17_heavy_r17 0 _ _ _ _ _ _ _ _) Lt.no)) Lt.no) Lt.ret) h
noncomputable def t_ref16_Next (Q : Nat → FuncId → List AV → Out) (x0 x1 : List AV) (x2 x3 : List AV) (x4 x5 x6 : Int) : Out :=
 (Q 8 ref16_Side [(AV.g [(AV.l T_api_Rule x0), (AV.l T_string x1), (AV.l T_api_Level x2), (AV.l T_api_Prod x3), (AV.i .i64 x4)]), (AV.i .i64 x5)]).bind fun o1 =>
 if (decide (x6 ≥ ((List.length (AV.list (List.headD o1 .u)) : Nat) : Int))) = true then
 some [(AV.i .i64 (0 : Int))]
else
 if 0 ≤ x6 ∧ x6 < ((List.length (AV.list (List.headD o1 .u))) : Int) then
  some [(AV.i .i64 (AV.int ((AV.list (List.headD o1 .u)).getD (Int.toNat x6) .u)))]
 else
  none
theorem e_ref16_Next (k : Nat) (x0 x1 : List AV) (x2 x3 : List AV) (x4 x5 x6 : Int) : call C (k + 12) ref16_Next [(AV.g [(AV.l T_api_Rule x0), (AV.l T_string x1), (AV.l T_api_Level x2), (AV.l T_api_Prod x3), (AV.i .i64 x4)]), (AV.g [(AV.i .i64 x5), (AV.i .i64 x6)])] = t_ref16_Next (fun c => callP C (callF C (k + c))) x0 x1 x2 x3 x4 x5 x6 := by kernel_rfl
theorem d_ref16_Next (x0 x1 : List AV) (x2 x3 : List AV) (x4 x5 x6 : Int) {o : List AV} (h : t_ref16_Next (fun _ => D) x0 x1 x2 x3 x4 x5 x6 = some o) : D ref16_Next [(AV.g [(AV.l T_api_Rule x0), (AV.l T_string x1), (AV.l T_api_Level x2), (AV.l T_api_Prod x3), (AV.i .i64 x4)]), (AV.g [(AV.i .i64 x5), (AV.i .i64 x6)])] = some o := D_fin (by rfl) (fun k => e_ref16_Next k x0 x1 x2 x3 x4 x5 x6) (Lt.bind (D_lt 8 _ _) fun o1 => (Lt.ite Lt.ret (Lt.ite Lt.ret Lt.no))) h
noncomputable def t_auto_wants (Q : Nat → FuncId → List AV → Out) (l_auto_wants_r3 : Nat → List AV → List AV → List AV → List AV → Int → List AV → List AV → Int → Int → Out) (x0 x1 : List AV) (x2 x3 : List AV) (x4 : Int) (x5 : List AV) (x6 : Int) : Out :=
 if 0 ≤ x6 ∧ x6 ≤ x6 ∧ x6 ≤ 16777216 then
 l_auto_wants_r3 0 (x0) (x1) (x2) (x3) (x4) ((List.replicate (Int.toNat x6) (AV.b false))) (x5) (((List.length x5 : Nat) : Int)) ((0 : Int))
else
 none
theorem e_auto_wants (k : Nat) (x0 x1 : List AV) (x2 x3 : List AV) (x4 : Int) (x5 : List AV) (x6 : Int) : call C (k + 11) auto_wants [(AV.g [(AV.l T_api_Rule x0), (AV.l T_string x1), (AV.l T_api_Level x2), (AV.l T_api_Prod x3), (AV.i .i64 x4)]), (AV.l T_api_Item x5), (AV.i .i64 x6)] = t_auto_wants (fun c => callP C (callF C (k + c))) (fun c => l_auto_wants_r3 (k + c)) x0 x1 x2 x3 x4 x5 x6 := by kernel_rfl
theorem d_auto_wants (x0 x1 : List AV) (x2 x3 : List AV) (x4 : Int) (x5 : List AV) (x6 : Int) {o : List AV} (h : t_auto_wants (fun _ => D) (fun _ => L_auto_wants_r3) x0 x1 x2 x3 x4 x5 x6 = some o) : D auto_wants [(AV.g [(AV.l T_api_Rule x0), (AV.l T_string x1), (AV.l T_api_Level x2), (AV.l T_api_Prod x3), (AV.i .i64 x4)]), (AV.l T_api_Item x5), (AV.i .i64 x6)] = some o := D_fin (by rfl) (fun k => e_auto_wants k x0 x1 x2 x3 x4 x5 x6) (Lt.ite (lt_auto_wants_r3 0 _ _ _ _ _ _ _ _ _) Lt.no) h
noncomputable def t_ref16_Same_r4 (Q : Nat → FuncId → List AV → Out) (l_ref16_Same_r4 : Nat → List AV → List AV → Int → Out) (y0 y1 : List AV) (y2 : Int) : Out :=
 if (decide (y2 < ((List.length y0 : Nat) : Int))) = true then
 if 0 ≤ y2 ∧ y2 < ((List.length y0) : Int) then
  if 0 ≤ y2 ∧ y2 < ((List.length y1) : Int) then
   if (!(((AV.int (AV.fld (y0.getD (Int.toNat y2) .u) 0)) == (AV.int (AV.fld (y1.getD (Int.toNat y2) .u) 0))) && (((AV.int (AV.fld (y0.getD (Int.toNat y2) .u) 1)) == (AV.int (AV.fld (y1.getD (Int.toNat y2) .u) 1))) && true))) = true then
    some [(AV.b false)]
   else
    l_ref16_Same_r4 0 (y0) (y1) ((IntKind.wrap .i64 (y2 + (1 : Int))))
  else
   none
 else
  none
else
 some [(AV.b true)]
theorem e_ref16_Same_r4 (k : Nat) (y0 y1 : List AV) (y2 : Int) : l_ref16_Same_r4 (k + 14) y0 y1 y2 = t_ref16_Same_r4 (fun c => callP C (callF C (k + c))) (fun c => l_ref16_Same_r4 (k + c)) y0 y1 y2 := by kernel_rfl
theorem d_ref16_Same_r4 (y0 y1 : List AV) (y2 : Int) {o : List AV} (h : t_ref16_Same_r4 (fun _ => D) (fun _ => L_ref16_Same_r4) y0 y1 y2 = some o) : L_ref16_Same_r4 y0 y1 y2 = some o := Lt.fin (fun k => e_ref16_Same_r4 k y0 y1 y2) (Lt.ite (Lt.ite (Lt.ite (Lt.ite Lt.ret (lt_ref16_Same_r4 0 _ _ _)) Lt.no) Lt.no) Lt.ret) h
noncomputable def t_gram_Terms_r3 (Q : Nat → FuncId → List AV → Out) (l_gram_Terms_r3 : Nat → Int → List AV → Int → Int → Out) (y0 : Int) (y1 : List AV) (y2 y3 : Int) : Out :=
 if (decide (y3 < y2)) = true then
 if 0 ≤ y3 ∧ y3 < ((List.length y1) : Int) then
  if (!(AV.bool (AV.fld (y1.getD (Int.toNat y3) .u) 2))) = true then
   l_gram_Terms_r3 0 ((IntKind.wrap .i64 (y0 + (1 : Int)))) (y1) (y2) ((IntKind.wrap .i64 (y3 + (1 : Int))))
  else
   l_gram_Terms_r3 0 (y0) (y1) (y2) ((IntKind.wrap .i64 (y3 + (1 : Int))))
 else
  none
else
 some [(AV.i .i64 y0)]
theorem e_gram_Terms_r3 (k : Nat) (y0 : Int) (y1 : List AV) (y2 y3 : Int) : l_gram_Terms_r3 (k + 16) y0 y1 y2 y3 = t_gram_Terms_r3 (fun c => callP C (callF C (k + c))) (fun c => l_gram_Terms_r3 (k + c)) y0 y1 y2 y3 := by kernel_rfl
theorem d_gram_Terms_r3 (y0 : Int) (y1 : List AV) (y2 y3 : Int) {o : List AV} (h : t_gram_Terms_r3 (fun _ => D) (fun _ => L_gram_Terms_r3) y0 y1 y2 y3 = some o) : L_gram_Terms_r3 y0 y1 y2 y3 = some o := Lt.fin (fun k => e_gram_Terms_r3 k y0 y1 y2 y3) (Lt.ite (Lt.ite (Lt.ite (lt_gram_Terms_r3 0 _ _ _ _) (lt_gram_Terms_r3 0 _ _ _ _)) Lt.no) Lt.ret) h
noncomputable def t_cmp_Or_int_r3 (Q : Nat → FuncId → List AV → Out) (l_cmp_Or_int_r3 : Nat → Int → List AV → Int → Int → Out) (y0 : Int) (y1 : List AV) (y2 y3 : Int) : Out :=
 if (decide (y3 < y2)) = true then
 if 0 ≤ y3 ∧ y3 < ((List.length y1) : Int) then
  if ((AV.int (y1.getD (Int.toNat y3) .u)) != y0) = true then
   some [(AV.i .i64 (AV.int (y1.getD (Int.toNat y3) .u)))]
  else
   l_cmp_Or_int_r3 0 (y0) (y1) (y2) ((IntKind.wrap .i64 (y3 + (1 : Int))))
 else
  none
else
 some [(AV.i .i64 y0)]
theorem e_cmp_Or_int_r3 (k : Nat) (y0 : Int) (y1 : List AV) (y2 y3 : Int) : l_cmp_Or_int_r3 (k + 16) y0 y1 y2 y3 = t_cmp_Or_int_r3 (fun c => callP C (callF C (k + c))) (fun c => l_cmp_Or_int_r3 (k + c)) y0 y1 y2 y3 := by kernel_rfl
theorem d_cmp_Or_int_r3 (y0 : Int) (y1 : List AV) (y2 y3 : Int) {o : List AV} (h : t_cmp_Or_int_r3 (fun _ => D) (fun _ => L_cmp_Or_int_r3) y0 y1 y2 y3 = some o) : L_cmp_Or_int_r3 y0 y1 y2 y3 = some o := Lt.fin (fun k => e_cmp_Or_int_r3 k y0 y1 y2 y3) (Lt.ite (Lt.ite (Lt.ite Lt.ret (lt_cmp_Or_int_r3 0 _ _ _ _)) Lt.no) Lt.ret) h
noncomputable def t_regex_Right (Q : Nat → FuncId → List AV → Out) (l_regex_Right_r5 : Nat → Int → List AV → Int → Int → Out) (x0 : List AV) : Out :=
 if (((List.length x0 : Nat) : Int) == (0 : Int)) = false then
 if (decide (((List.length x0 : Nat) : Int) > (60 : Int))) = true then
  some [(AV.b false)]
 else
  l_regex_Right_r5 0 ((0 : Int)) (x0) (((List.length x0 : Nat) : Int)) ((0 : Int))
else
 some [(AV.b false)]
theorem e_regex_Right (k : Nat) (x0 : List AV) : call C (k + 16) regex_Right [(AV.l T_api_Cell x0)] = t_regex_Right (fun c => callP C (callF C (k + c))) (fun c => l_regex_Right_r5 (k + c)) x0 := by kernel_rfl
theorem d_regex_Right (x0 : List AV) {o : List AV} (h : t_regex_Right (fun _ => D) (fun _ => L_regex_Right_r5) x0 = some o) : D regex_Right [(AV.l T_api_Cell x0)] = some o := D_fin (by rfl) (fun k => e_regex_Right k x0) (Lt.ite (Lt.ite Lt.ret (lt_regex_Right_r5 0 _ _ _ _)) Lt.ret) h
noncomputable def t_items_sorted (Q : Nat → FuncId → List AV → Out) (x0 : List AV) : Out :=
 (Q 3 slices_SortFunc_api_Item [(AV.l T_api_Item x0), (AV.fn items_order [] [])]).bind fun o1 =>
 (Q 1 slices_CompactFunc_api_Item [(AV.l T_api_Item (AV.list (List.headD o1 .u))), (AV.fn items_sorted_c1 [] [])]).bind fun o2 =>
 some [(AV.l T_api_Item (AV.list (List.headD o2 .u)))]
theorem e_items_sorted (k : Nat) (x0 : List AV) : call C (k + 7) items_sorted [(AV.l T_api_Item x0)] = t_items_sorted (fun c => callP C (callF C (k + c))) x0 := by kernel_rfl
theorem d_items_sorted (x0 : List AV) {o : List AV} (h : t_items_sorted (fun _ => D) x0 = some o) : D items_sorted [(AV.l T_api_Item x0)] = some o := D_fin (by rfl) (fun k => e_items_sorted k x0) (Lt.bind (D_lt 3 _ _) fun o1 => (Lt.bind (D_lt 1 _ _) fun o2 => Lt.ret)) h
noncomputable def t_ref04_Same (Q : Nat → FuncId → List AV → Out) (x0 x1 : List AV) : Out :=
 (Q 1 ref04_Order [(AV.l T_int x0), (AV.l T_int x1)]).bind fun o1 =>
 some [(AV.b ((AV.int (List.headD o1 .u)) == (0 : Int)))]
theorem e_ref04_Same (k : Nat) (x0 x1 : List AV) : call C (k + 5) ref04_Same [(AV.l T_int x0), (AV.l T_int x1)] = t_ref04_Same (fun c => callP C (callF C (k + c))) x0 x1 := by kernel_rfl
theorem d_ref04_Same (x0 x1 : List AV) {o : List AV} (h : t_ref04_Same (fun _ => D) x0 x1 = some o) : D ref04_Same [(AV.l T_int x0), (AV.l T_int x1)] = some o := D_fin (by rfl) (fun k => e_ref04_Same k x0 x1) (Lt.bind (D_lt 1 _ _) fun o1 => Lt.ret) h
noncomputable def t_law17_AutoOne_r14 (Q : Nat → FuncId → List AV → Out) (l_law17_AutoOne_r14 : Nat → List AV → List AV → List AV → List AV → Int → List AV → List AV → List AV → Int → Int → Int → List AV → Int → Int → Out) (l_law17_AutoOne_r11 : Nat → List AV → List AV → List AV → List AV → Int → List AV → List AV → List AV → Int → Int → Out) (y0 y1 : List AV) (y2 y3 : List AV) (y4 : Int) (y5 y6 y7 : List AV) (y8 y9 y10 : Int) (y11 : List AV) (y12 y13 : Int) : Out :=
 if (decide (y13 < y12)) = true then
 if 0 ≤ y13 ∧ y13 < ((List.length y11) : Int) then
  if (decide ((AV.int (y11.getD (Int.toNat y13) .u)) < (0 : Int))) = true then
   l_law17_AutoOne_r14 12 (y0) (y1) (y2) (y3) (y4) (y5) (y6) (y7) (y8) (y9) (y10) (y11) (y12) ((IntKind.wrap .i64 (y13 + (1 : Int))))
  else
   if ((AV.int (y11.getD (Int.toNat y13) .u)) == (0 : Int)) = false then
    if (decide ((AV.int (y11.getD (Int.toNat y13) .u)) ≥ ((List.length y5 : Nat) : Int))) = false then
     if 0 ≤ (AV.int (y11.getD (Int.toNat y13) .u)) ∧ (AV.int (y11.getD (Int.toNat y13) .u)) < ((List.length y6) : Int) then
      if ((AV.int (y6.getD (Int.toNat (AV.int (y11.getD (Int.toNat y13) .u))) .u)) != (0 : Int)) = true then
       if 0 ≤ (AV.int (y11.getD (Int.toNat y13) .u)) ∧ (AV.int (y11.getD (Int.toNat y13) .u)) < ((List.length y6) : Int) then
        if ((AV.int (y6.getD (Int.toNat (AV.int (y11.getD (Int.toNat y13) .u))) .u)) != y13) = true then
         some [(AV.b false)]
        else
         if 0 ≤ (AV.int (y11.getD (Int.toNat y13) .u)) ∧ (AV.int (y11.getD (Int.toNat y13) .u)) < ((List.length y6) : Int) then
          if ((AV.int (y6.getD (Int.toNat (AV.int (y11.getD (Int.toNat y13) .u))) .u)) == (0 : Int)) = true then
           if 0 ≤ (AV.int (y11.getD (Int.toNat y13) .u)) ∧ (AV.int (y11.getD (Int.toNat y13) .u)) < ((List.length y6) : Int) then
            if 0 ≤ (AV.int (y11.getD (Int.toNat y13) .u)) ∧ (AV.int (y11.getD (Int.toNat y13) .u)) < ((List.length y7) : Int) then
             l_law17_AutoOne_r14 0 (y0) (y1) (y2) (y3) (y4) (y5) ((y6.set (Int.toNat (AV.int (y11.getD (Int.toNat y13) .u))) (AV.i .i64 y13))) ((y7.set (Int.toNat (AV.int (y11.getD (Int.toNat y13) .u))) (AV.i .i64 y8))) (y8) (y9) (y10) (y11) (y12) ((IntKind.wrap .i64 (y13 + (1 : Int))))
            else
             none
           else
            none
          else
           l_law17_AutoOne_r14 2 (y0) (y1) (y2) (y3) (y4) (y5) (y6) (y7) (y8) (y9) (y10) (y11) (y12) ((IntKind.wrap .i64 (y13 + (1 : Int))))
         else
          none
       else
        none
      else
       if 0 ≤ (AV.int (y11.getD (Int.toNat y13) .u)) ∧ (AV.int (y11.getD (Int.toNat y13) .u)) < ((List.length y6) : Int) then
        if ((AV.int (y6.getD (Int.toNat (AV.int (y11.getD (Int.toNat y13) .u))) .u)) == (0 : Int)) = true then
         if 0 ≤ (AV.int (y11.getD (Int.toNat y13) .u)) ∧ (AV.int (y11.getD (Int.toNat y13) .u)) < ((List.length y6) : Int) then
          if 0 ≤ (AV.int (y11.getD (Int.toNat y13) .u)) ∧ (AV.int (y11.getD (Int.toNat y13) .u)) < ((List.length y7) : Int) then
           l_law17_AutoOne_r14 0 (y0) (y1) (y2) (y3) (y4) (y5) ((y6.set (Int.toNat (AV.int (y11.getD (Int.toNat y13) .u))) (AV.i .i64 y13))) ((y7.set (Int.toNat (AV.int (y11.getD (Int.toNat y13) .u))) (AV.i .i64 y8))) (y8) (y9) (y10) (y11) (y12) ((IntKind.wrap .i64 (y13 + (1 : Int))))
          else
           none
         else
          none
        else
         l_law17_AutoOne_r14 2 (y0) (y1) (y2) (y3) (y4) (y5) (y6) (y7) (y8) (y9) (y10) (y11) (y12) ((IntKind.wrap .i64 (y13 + (1 : Int))))
       else
        none
     else
      none
    else
     some [(AV.b false)]
   else
    some [(AV.b false)]
 else
  none
else
 l_law17_AutoOne_r11 20 (y0) (y1) (y2) (y3) (y4) (y5) (y6) (y7) (y9) ((IntKind.wrap .i64 (y10 + (1 : Int))))
theorem e_law17_AutoOne_r14 (k : Nat) (y0 y1 : List AV) (y2 y3 : List AV) (y4 : Int) (y5 y6 y7 : List AV) (y8 y9 y10 : Int) (y11 : List AV) (y12 y13 : Int) : l_law17_AutoOne_r14 (k + 28) y0 y1 y2 y3 y4 y5 y6 y7 y8 y9 y10 y11 y12 y13 = t_law17_AutoOne_r14 (fun c => callP C (callF C (k + c))) (fun c => l_law17_AutoOne_r14 (k + c)) (fun c => l_law17_AutoOne_r11 (k + c)) y0 y1 y2 y3 y4 y5 y6 y7 y8 y9 y10 y11 y12 y13 := by kernel_rfl
theorem d_law17_AutoOne_r14 (y0 y1 : List AV) (y2 y3 : List AV) (y4 : Int) (y5 y6 y7 : List AV) (y8 y9 y10 : Int) (y11 : List AV) (y12 y13 : Int) {o : List AV} (h : t_law17_AutoOne_r14 (fun _ => D) (fun _ => L_law17_AutoOne_r14) (fun _ => L_law17_AutoOne_r11) y0 y1 y2 y3 y4 y5 y6 y7 y8 y9 y10 y11 y12 y13 = some o) : L_law17_AutoOne_r14 y0 y1 y2 y3 y4 y5 y6 y7 y8 y9 y10 y11 y12 y13 = some o := Lt.fin (fun k => e_law17_AutoOne_r14 k y0 y1 y2 y3 y4 y5 y6 y7 y8 y9 y10 y11 y12 y13) (Lt.ite (Lt.ite (Lt.ite (lt_law17_AutoOne_r14 12 _ _ _ _ _ _ _ _ _ _ _ _ _ _) (Lt.ite (Lt.ite (Lt.ite (Lt.ite (Lt.ite (Lt.ite Lt.ret (Lt.ite (Lt.ite (Lt.ite (Lt.ite (lt_law17_AutoOne_r14 0 _ _ _ _ _ _ _ _ _ _ _ _ _ _) Lt.no) Lt.no) (lt_law17_AutoOne_r14 2 _ _ _ _ _ _ _ _ _ _ _ _ _ _)) Lt.no)) Lt.no) (Lt.ite (Lt.ite (Lt.ite (Lt.ite (lt_law17_AutoOne_r14 0 _ _ _ _ _ _ _ _ _ _ _ _ _ _) Lt.no) Lt.no) (lt_law17_AutoOne_r14 2 _ _ _ _ _ _ _ _ _ _ _ _ _ _)) Lt.no)) Lt.no) Lt.ret) Lt.ret)) Lt.no) (lt_law17_AutoOne_r11 20 _ _ _ _ _ _ _ _ _ _)) h
noncomputable def t_check_Sound (Q : Nat → FuncId → List AV → Out) (l_check_Sound_r8 : Nat → List AV → List AV → List AV → List AV → Int → Int → Int → List AV → Int → Int → Out) (x0 x1 : List AV) (x2 x3 : List AV) (x4 : Int) : Out :=
 if (decide (((List.length x0 : Nat) : Int) > (16 : Int))) = false then
 if (decide (((List.length x1 : Nat) : Int) > (16 : Int))) = false then
  if (decide (((List.length x3 : Nat) : Int) > (40 : Int))) = false then
   (Q 18 check_names [(AV.g [(AV.l T_api_Rule x0), (AV.l T_string x1), (AV.l T_api_Level x2), (AV.l T_api_Prod x3), (AV.i .i64 x4)])]).bind fun o1 =>
    if (!(AV.bool (List.headD o1 .u))) = true then
    some [(AV.b false)]
   else
    (Q 14 gram_Terms [(AV.g [(AV.l T_api_Rule x0), (AV.l T_string x1), (AV.l T_api_Level x2), (AV.l T_api_Prod x3), (AV.i .i64 x4)])]).bind fun o2 =>
     if (((List.length x2 : Nat) : Int) != (IntKind.wrap .i64 ((AV.int (List.headD o2 .u)) + (1 : Int)))) = false then
     if 0 ≤ (0 : Int) ∧ (0 : Int) < ((List.length x2) : Int) then
      if (!(((AV.int (AV.fld (x2.getD 0 .u) 0)) == (0 : Int)) && (((AV.int (AV.fld (x2.getD 0 .u) 1)) == (0 : Int)) && true))) = true then
       some [(AV.b false)]
      else
       l_check_Sound_r8 0 (x0) (x1) (x2) (x3) (x4) ((AV.int (List.headD o2 .u))) ((IntKind.wrap .i64 ((AV.int (List.headD o2 .u)) + ((List.length x1 : Nat) : Int)))) (x2) (((List.length x2 : Nat) : Int)) ((0 : Int))
     else
      none
    else
     some [(AV.b false)]
  else
   some [(AV.b false)]
 else
  some [(AV.b false)]
else
 some [(AV.b false)]
theorem e_check_Sound (k : Nat) (x0 x1 : List AV) (x2 x3 : List AV) (x4 : Int) : call C (k + 23) check_Sound [(AV.g [(AV.l T_api_Rule x0), (AV.l T_string x1), (AV.l T_api_Level x2), (AV.l T_api_Prod x3), (AV.i .i64 x4)])] = t_check_Sound (fun c => callP C (callF C (k + c))) (fun c => l_check_Sound_r8 (k + c)) x0 x1 x2 x3 x4 := by kernel_rfl
theorem d_check_Sound (x0 x1 : List AV) (x2 x3 : List AV) (x4 : Int) {o : List AV} (h : t_check_Sound (fun _ => D) (fun _ => L_check_Sound_r8) x0 x1 x2 x3 x4 = some o) : D check_Sound [(AV.g [(AV.l T_api_Rule x0), (AV.l T_string x1), (AV.l T_api_Level x2), (AV.l T_api_Prod x3), (AV.i .i64 x4)])] = some o := D_fin (by rfl) (fun k => e_check_Sound k x0 x1 x2 x3 x4) (Lt.ite (Lt.ite (Lt.ite (Lt.bind (D_lt 18 _ _) fun o1 => (Lt.ite Lt.ret (Lt.bind (D_lt 14 _ _) fun o2 => (Lt.ite (Lt.ite (Lt.ite Lt.ret (lt_check_Sound_r8 0 _ _ _ _ _ _ _ _ _ _)) Lt.no) Lt.ret)))) Lt.ret) Lt.ret) Lt.ret) h
noncomputable def t_ref13_named_r4 (Q : Nat → FuncId → List AV → Out) (l_ref13_named_r4 : Nat → ByteArray → Int → Out) (y0 : ByteArray) (y1 : Int) : Out :=
 if (decide (y1 < ((ByteArray.size y0 : Nat) : Int))) = true then
 if 0 ≤ y1 ∧ y1 < ((ByteArray.size y0 : Nat) : Int) then
  if (decide (((((y0).data.getD (Int.toNat y1) 0).toNat : Nat) : Int) ≥ (48 : Int))) = true then
   if 0 ≤ y1 ∧ y1 < ((ByteArray.size y0 : Nat) : Int) then
    if 0 ≤ y1 ∧ y1 < ((ByteArray.size y0 : Nat) : Int) then
     (Q 8 ref11_Letter [(AV.i .u8 ((((y0).data.getD (Int.toNat y1) 0).toNat : Nat) : Int))]).bind fun o1 =>
      if (!(AV.bool (List.headD o1 .u))) = true then
      if (y1 == (0 : Int)) = false then
       if (!(decide (((((y0).data.getD (Int.toNat y1) 0).toNat : Nat) : Int) ≤ (57 : Int)))) = true then
        some [(AV.b false)]
       else
        l_ref13_named_r4 0 (y0) ((IntKind.wrap .i64 (y1 + (1 : Int))))
      else
       some [(AV.b false)]
     else
      l_ref13_named_r4 0 (y0) ((IntKind.wrap .i64 (y1 + (1 : Int))))
    else
     none
   else
    none
  else
   if 0 ≤ y1 ∧ y1 < ((ByteArray.size y0 : Nat) : Int) then
    (Q 8 ref11_Letter [(AV.i .u8 ((((y0).data.getD (Int.toNat y1) 0).toNat : Nat) : Int))]).bind fun o2 =>
     if (!(AV.bool (List.headD o2 .u))) = true then
     if (y1 == (0 : Int)) = false then
      some [(AV.b false)]
     else
      some [(AV.b false)]
    else
     l_ref13_named_r4 0 (y0) ((IntKind.wrap .i64 (y1 + (1 : Int))))
   else
    none
 else
  none
else
 some [(AV.b true)]
theorem e_ref13_named_r4 (k : Nat) (y0 : ByteArray) (y1 : Int) : l_ref13_named_r4 (k + 16) y0 y1 = t_ref13_named_r4 (fun c => callP C (callF C (k + c))) (fun c => l_ref13_named_r4 (k + c)) y0 y1 := by kernel_rfl
theorem d_ref13_named_r4 (y0 : ByteArray) (y1 : Int) {o : List AV} (h : t_ref13_named_r4 (fun _ => D) (fun _ => L_ref13_named_r4) y0 y1 = some o) : L_ref13_named_r4 y0 y1 = some o := Lt.fin (fun k => e_ref13_named_r4 k y0 y1) (Lt.ite (Lt.ite (Lt.ite (Lt.ite (Lt.ite (Lt.bind (D_lt 8 _ _) fun o1 => (Lt.ite (Lt.ite (Lt.ite Lt.ret (lt_ref13_named_r4 0 _ _)) Lt.ret) (lt_ref13_named_r4 0 _ _))) Lt.no) Lt.no) (Lt.ite (Lt.bind (D_lt 8 _ _) fun o2 => (Lt.ite (Lt.ite Lt.ret Lt.ret) (lt_ref13_named_r4 0 _ _))) Lt.no)) Lt.no) Lt.ret) h
noncomputable def t_ref13_Sound_r18 (Q : Nat → FuncId → List AV → Out) (l_ref13_Sound_r24 : Nat → List AV → List AV → List AV → List AV → Int → Int → List AV → Int → Int → Int → Int → Int → Out) (y0 y1 : List AV) (y2 y3 : List AV) (y4 y5 : Int) (y6 y7 : Int) : Out :=
 if (decide (y7 < ((List.length y3 : Nat) : Int))) = true then
 if 0 ≤ y7 ∧ y7 < ((List.length y3) : Int) then
  if (decide ((AV.int (AV.fld (y3.getD (Int.toNat y7) .u) 0)) ≤ y5)) = false then
   if (decide ((AV.int (AV.fld (y3.getD (Int.toNat y7) .u) 0)) > y6)) = false then
    if (decide (((List.length (AV.list (AV.fld (y3.getD (Int.toNat y7) .u) 1)) : Nat) : Int) > (8 : Int))) = false then
     if (decide ((AV.int (AV.fld (y3.getD (Int.toNat y7) .u) 2)) < (0 : Int))) = false then
      if (decide ((AV.int (AV.fld (y3.getD (Int.toNat y7) .u) 2)) > y5)) = true then
       some [(AV.b false)]
      else
       l_ref13_Sound_r24 0 (y0) (y1) (y2) (y3) (y4) ((AV.int (AV.fld (y3.getD (Int.toNat y7) .u) 0))) ((AV.list (AV.fld (y3.getD (Int.toNat y7) .u) 1))) ((AV.int (AV.fld (y3.getD (Int.toNat y7) .u) 2))) (y5) (y6) (y7) ((0 : Int))
     else
      some [(AV.b false)]
    else
     some [(AV.b false)]
   else
    some [(AV.b false)]
  else
   some [(AV.b false)]
 else
  none
else
 some [(AV.b true)]
theorem e_ref13_Sound_r18 (k : Nat) (y0 y1 : List AV) (y2 y3 : List AV) (y4 y5 : Int) (y6 y7 : Int) : l_ref13_Sound_r18 (k + 18) y0 y1 y2 y3 y4 y5 y6 y7 = t_ref13_Sound_r18 (fun c => callP C (callF C (k + c))) (fun c => l_ref13_Sound_r24 (k + c)) y0 y1 y2 y3 y4 y5 y6 y7 := by kernel_rfl
theorem d_ref13_Sound_r18 (y0 y1 : List AV) (y2 y3 : List AV) (y4 y5 : Int) (y6 y7 : Int) {o : List AV} (h : t_ref13_Sound_r18 (fun _ => D) (fun _ => L_ref13_Sound_r24) y0 y1 y2 y3 y4 y5 y6 y7 = some o) : L_ref13_Sound_r18 y0 y1 y2 y3 y4 y5 y6 y7 = some o := Lt.fin (fun k => e_ref13_Sound_r18 k y0 y1 y2 y3 y4 y5 y6 y7) (Lt.ite (Lt.ite (Lt.ite (Lt.ite (Lt.ite (Lt.ite (Lt.ite Lt.ret (lt_ref13_Sound_r24 0 _ _ _ _ _ _ _ _ _ _ _ _)) Lt.ret) Lt.ret) Lt.ret) Lt.ret) Lt.no) Lt.ret) h
noncomputable def t_law17_wakes (Q : Nat → FuncId → List AV → Out) : Out :=
 (Q 5 gram_Parse [(AV.s ⟨#[116, 111, 107, 101, 110, 32, 97, 32, 47, 97, 47, 59, 32, 115, 58, 32, 97, 32, 115, 32, 124, 32, 59]⟩)]).bind fun o1 =>
 (Q 3 auto_Build [(AV.g [(AV.l T_api_Rule (AV.list (AV.fld (List.headD o1 .u) 0))), (AV.l T_string (AV.list (AV.fld (List.headD o1 .u) 1))), (AV.l T_api_Level (AV.list (AV.fld (List.headD o1 .u) 2))), (AV.l T_api_Prod (AV.list (AV.fld (List.headD o1 .u) 3))), (AV.i .i64 (AV.int (AV.fld (List.headD o1 .u) 4)))])]).bind fun o2 =>
 if ((AV.int (List.headD (List.tail o2) .u)) == (0 : Int)) = true then
 if (((List.length (AV.list (List.headD o2 .u)) : Nat) : Int) == (4 : Int)) = true then
  if 0 ≤ (0 : Int) ∧ (0 : Int) < ((List.length (AV.list (List.headD o2 .u))) : Int) then
   (Q 1 ref04_Same [(AV.l T_int (AV.list (AV.fld ((AV.list (List.headD o2 .u)).getD 0 .u) 1))), (AV.l T_int [(AV.i .i64 (-1 : Int)), (AV.i .i64 (1 : Int)), (AV.i .i64 (2 : Int))])]).bind fun o3 =>
    if (AV.bool (List.headD o3 .u)) = true then
    if 0 ≤ (1 : Int) ∧ (1 : Int) < ((List.length (AV.list (List.headD o2 .u))) : Int) then
     (Q 1 ref04_Same [(AV.l T_int (AV.list (AV.fld ((AV.list (List.headD o2 .u)).getD 1 .u) 1))), (AV.l T_int [(AV.i .i64 (-1 : Int)), (AV.i .i64 (1 : Int)), (AV.i .i64 (3 : Int))])]).bind fun o4 =>
      some [(AV.b (AV.bool (List.headD o4 .u)))]
    else
     none
   else
    some [(AV.b false)]
  else
   none
 else
  some [(AV.b false)]
else
 some [(AV.b false)]
theorem e_law17_wakes (k : Nat) : call C (k + 9) law17_wakes [] = t_law17_wakes (fun c => callP C (callF C (k + c))) := by kernel_rfl
theorem d_law17_wakes {o : List AV} (h : t_law17_wakes (fun _ => D) = some o) : D law17_wakes [] = some o := D_fin (by rfl) (fun k => e_law17_wakes k) (Lt.bind (D_lt 5 _ _) fun o1 => (Lt.bind (D_lt 3 _ _) fun o2 => (Lt.ite (Lt.ite (Lt.ite (Lt.bind (D_lt 1 _ _) fun o3 => (Lt.ite (Lt.ite (Lt.bind (D_lt 1 _ _) fun o4 => Lt.ret) Lt.no) Lt.ret)) Lt.no) Lt.ret) Lt.ret))) h
noncomputable def t_slices_IndexFunc_api_Item_items_Right_c1 (Q : Nat → FuncId → List AV → Out) (l_slices_IndexFunc_api_Item_items_Right_c1_r2 : Nat → List AV → List AV → List AV → List AV → List AV → Int → Int → Int → Out) (x0 x1 : List AV) (x2 x3 x4 : List AV) (x5 : Int) : Out :=
 l_slices_IndexFunc_api_Item_items_Right_c1_r2 0 (x0) (x1) (x2) (x3) (x4) (x5) (((List.length x0 : Nat) : Int)) ((0 : Int))
theorem e_slices_IndexFunc_api_Item_items_Right_c1 (k : Nat) (x0 x1 : List AV) (x2 x3 x4 : List AV) (x5 : Int) : call C (k + 9) slices_IndexFunc_api_Item [(AV.l T_api_Item x0), (AV.fn items_Right_c1 [] [(AV.at T_api_Grammar (AV.g [(AV.l T_api_Rule x1), (AV.l T_string x2), (AV.l T_api_Level x3), (AV.l T_api_Prod x4), (AV.i .i64 x5)]))])] = t_slices_IndexFunc_api_Item_items_Right_c1 (fun c => callP C (callF C (k + c))) (fun c => l_slices_IndexFunc_api_Item_items_Right_c1_r2 (k + c)) x0 x1 x2 x3 x4 x5 := by kernel_rfl
theorem d_slices_IndexFunc_api_Item_items_Right_c1 (x0 x1 : List AV) (x2 x3 x4 : List AV) (x5 : Int) {o : List AV} (h : t_slices_IndexFunc_api_Item_items_Right_c1 (fun _ => D) (fun _ => L_slices_IndexFunc_api_Item_items_Right_c1_r2) x0 x1 x2 x3 x4 x5 = some o) : D slices_IndexFunc_api_Item [(AV.l T_api_Item x0), (AV.fn items_Right_c1 [] [(AV.at T_api_Grammar (AV.g [(AV.l T_api_Rule x1), (AV.l T_string x2), (AV.l T_api_Level x3), (AV.l T_api_Prod x4), (AV.i .i64 x5)]))])] = some o := D_fin (by rfl) (fun k => e_slices_IndexFunc_api_Item_items_Right_c1 k x0 x1 x2 x3 x4 x5) (lt_slices_IndexFunc_api_Item_items_Right_c1_r2 0 _ _ _ _ _ _ _ _) h
noncomputable def t_items_Closure (Q : Nat → FuncId → List AV → Out) (x0 x1 : List AV) (x2 x3 : List AV) (x4 : Int) (x5 : List AV) : Out :=
 (Q 5 items_Right [(AV.g [(AV.l T_api_Rule x0), (AV.l T_string x1), (AV.l T_api_Level x2), (AV.l T_api_Prod x3), (AV.i .i64 x4)]), (AV.l T_api_Item x5)]).bind fun o1 =>
 if (!(AV.bool (List.headD o1 .u))) = true then
 some [(AV.l T_api_Item ([] : List AV))]
else
 (Q 1 items_closure [(AV.g [(AV.l T_api_Rule x0), (AV.l T_string x1), (AV.l T_api_Level x2), (AV.l T_api_Prod x3), (AV.i .i64 x4)]), (AV.l T_api_Item x5)]).bind fun o2 =>
  some [(AV.l T_api_Item (AV.list (List.headD o2 .u)))]
theorem e_items_Closure (k : Nat) (x0 x1 : List AV) (x2 x3 : List AV) (x4 : Int) (x5 : List AV) : call C (k + 10) items_Closure [(AV.g [(AV.l T_api_Rule x0), (AV.l T_string x1), (AV.l T_api_Level x2), (AV.l T_api_Prod x3), (AV.i .i64 x4)]), (AV.l T_api_Item x5)] = t_items_Closure (fun c => callP C (callF C (k + c))) x0 x1 x2 x3 x4 x5 := by kernel_rfl
theorem d_items_Closure (x0 x1 : List AV) (x2 x3 : List AV) (x4 : Int) (x5 : List AV) {o : List AV} (h : t_items_Closure (fun _ => D) x0 x1 x2 x3 x4 x5 = some o) : D items_Closure [(AV.g [(AV.l T_api_Rule x0), (AV.l T_string x1), (AV.l T_api_Level x2), (AV.l T_api_Prod x3), (AV.i .i64 x4)]), (AV.l T_api_Item x5)] = some o := D_fin (by rfl) (fun k => e_items_Closure k x0 x1 x2 x3 x4 x5) (Lt.bind (D_lt 5 _ _) fun o1 => (Lt.ite Lt.ret (Lt.bind (D_lt 1 _ _) fun o2 => Lt.ret))) h
noncomputable def t_check_names_r11 (Q : Nat → FuncId → List AV → Out) (l_check_names_r11 : Nat → List AV → Int → Int → Out) (y0 : List AV) (y1 y2 : Int) : Out :=
 if (decide (y2 < y1)) = true then
 if 0 ≤ y2 ∧ y2 < ((List.length y0) : Int) then
  (Q 7 check_named [(AV.s (AV.str (y0.getD (Int.toNat y2) .u)))]).bind fun o1 =>
   if (!(AV.bool (List.headD o1 .u))) = false then
   if 0 ≤ y2 ∧ y2 ≤ ((List.length y0) : Int) then
    (Q 7 slices_Contains_string [(AV.l T_string ((y0.drop 0).take ((Int.toNat y2) - 0))), (AV.s (AV.str (y0.getD (Int.toNat y2) .u)))]).bind fun o2 =>
     if (AV.bool (List.headD o2 .u)) = true then
     some [(AV.b false)]
    else
     l_check_names_r11 0 (y0) (y1) ((IntKind.wrap .i64 (y2 + (1 : Int))))
   else
    none
  else
   some [(AV.b false)]
 else
  none
else
 some [(AV.b true)]
theorem e_check_names_r11 (k : Nat) (y0 : List AV) (y1 y2 : Int) : l_check_names_r11 (k + 16) y0 y1 y2 = t_check_names_r11 (fun c => callP C (callF C (k + c))) (fun c => l_check_names_r11 (k + c)) y0 y1 y2 := by kernel_rfl
theorem d_check_names_r11 (y0 : List AV) (y1 y2 : Int) {o : List AV} (h : t_check_names_r11 (fun _ => D) (fun _ => L_check_names_r11) y0 y1 y2 = some o) : L_check_names_r11 y0 y1 y2 = some o := Lt.fin (fun k => e_check_names_r11 k y0 y1 y2) (Lt.ite (Lt.ite (Lt.bind (D_lt 7 _ _) fun o1 => (Lt.ite (Lt.ite (Lt.bind (D_lt 7 _ _) fun o2 => (Lt.ite Lt.ret (lt_check_names_r11 0 _ _ _))) Lt.no) Lt.ret)) Lt.no) Lt.ret) h
noncomputable def t_ref13_names_r15 (Q : Nat → FuncId → List AV → Out) (l_ref13_names_r15 : Nat → List AV → Int → Int → Out) (l_ref13_names_r10 : Nat → List AV → Int → Out) (y0 : List AV) (y1 y2 : Int) : Out :=
 if (decide (y2 < y1)) = true then
 if 0 ≤ y2 ∧ y2 < ((List.length y0) : Int) then
  if 0 ≤ y1 ∧ y1 < ((List.length y0) : Int) then
   if ((ByteArray.toList (AV.str (y0.getD (Int.toNat y2) .u))) == (ByteArray.toList (AV.str (y0.getD (Int.toNat y1) .u)))) = true then
    some [(AV.b false)]
   else
    l_ref13_names_r15 0 (y0) (y1) ((IntKind.wrap .i64 (y2 + (1 : Int))))
  else
   none
 else
  none
else
 l_ref13_names_r10 6 (y0) ((IntKind.wrap .i64 (y1 + (1 : Int))))
theorem e_ref13_names_r15 (k : Nat) (y0 : List AV) (y1 y2 : Int) : l_ref13_names_r15 (k + 14) y0 y1 y2 = t_ref13_names_r15 (fun c => callP C (callF C (k + c))) (fun c => l_ref13_names_r15 (k + c)) (fun c => l_ref13_names_r10 (k + c)) y0 y1 y2 := by kernel_rfl
theorem d_ref13_names_r15 (y0 : List AV) (y1 y2 : Int) {o : List AV} (h : t_ref13_names_r15 (fun _ => D) (fun _ => L_ref13_names_r15) (fun _ => L_ref13_names_r10) y0 y1 y2 = some o) : L_ref13_names_r15 y0 y1 y2 = some o := Lt.fin (fun k => e_ref13_names_r15 k y0 y1 y2) (Lt.ite (Lt.ite (Lt.ite (Lt.ite Lt.ret (lt_ref13_names_r15 0 _ _ _)) Lt.no) Lt.no) (lt_ref13_names_r10 6 _ _)) h
noncomputable def t_ref17_find_r2 (Q : Nat → FuncId → List AV → Out) (l_ref17_find_r2 : Nat → List AV → List AV → Int → Out) (y0 y1 : List AV) (y2 : Int) : Out :=
 if (decide (y2 < ((List.length y0 : Nat) : Int))) = true then
 if 0 ≤ y2 ∧ y2 < ((List.length y0) : Int) then
  (Q 8 ref16_Same [(AV.l T_api_Item (AV.list (AV.fld (y0.getD (Int.toNat y2) .u) 0))), (AV.l T_api_Item y1)]).bind fun o1 =>
   if (AV.bool (List.headD o1 .u)) = true then
   some [(AV.i .i64 y2)]
  else
   l_ref17_find_r2 0 (y0) (y1) ((IntKind.wrap .i64 (y2 + (1 : Int))))
 else
  none
else
 some [(AV.i .i64 (-1 : Int))]
theorem e_ref17_find_r2 (k : Nat) (y0 y1 : List AV) (y2 : Int) : l_ref17_find_r2 (k + 14) y0 y1 y2 = t_ref17_find_r2 (fun c => callP C (callF C (k + c))) (fun c => l_ref17_find_r2 (k + c)) y0 y1 y2 := by kernel_rfl
theorem d_ref17_find_r2 (y0 y1 : List AV) (y2 : Int) {o : List AV} (h : t_ref17_find_r2 (fun _ => D) (fun _ => L_ref17_find_r2) y0 y1 y2 = some o) : L_ref17_find_r2 y0 y1 y2 = some o := Lt.fin (fun k => e_ref17_find_r2 k y0 y1 y2) (Lt.ite (Lt.ite (Lt.bind (D_lt 8 _ _) fun o1 => (Lt.ite Lt.ret (lt_ref17_find_r2 0 _ _ _))) Lt.no) Lt.ret) h
noncomputable def t_slices_IndexFunc_int_check_Sound_c2 (Q : Nat → FuncId → List AV → Out) (l_slices_IndexFunc_int_check_Sound_c2_r2 : Nat → List AV → Int → Int → Int → Out) (x0 : List AV) (x1 : Int) : Out :=
 l_slices_IndexFunc_int_check_Sound_c2_r2 0 (x0) (x1) (((List.length x0 : Nat) : Int)) ((0 : Int))
theorem e_slices_IndexFunc_int_check_Sound_c2 (k : Nat) (x0 : List AV) (x1 : Int) : call C (k + 9) slices_IndexFunc_int [(AV.l T_int x0), (AV.fn check_Sound_c2 [] [(AV.at T_int (AV.i .i64 x1))])] = t_slices_IndexFunc_int_check_Sound_c2 (fun c => callP C (callF C (k + c))) (fun c => l_slices_IndexFunc_int_check_Sound_c2_r2 (k + c)) x0 x1 := by kernel_rfl
theorem d_slices_IndexFunc_int_check_Sound_c2 (x0 : List AV) (x1 : Int) {o : List AV} (h : t_slices_IndexFunc_int_check_Sound_c2 (fun _ => D) (fun _ => L_slices_IndexFunc_int_check_Sound_c2_r2) x0 x1 = some o) : D slices_IndexFunc_int [(AV.l T_int x0), (AV.fn check_Sound_c2 [] [(AV.at T_int (AV.i .i64 x1))])] = some o := D_fin (by rfl) (fun k => e_slices_IndexFunc_int_check_Sound_c2 k x0 x1) (lt_slices_IndexFunc_int_check_Sound_c2_r2 0 _ _ _ _) h
noncomputable def t_ref13_named (Q : Nat → FuncId → List AV → Out) (l_ref13_named_r4 : Nat → ByteArray → Int → Out) (x0 : ByteArray) : Out :=
 if (decide (((ByteArray.size x0 : Nat) : Int) < (1 : Int))) = false then
 if (decide (((ByteArray.size x0 : Nat) : Int) > (16 : Int))) = false then
  (Q 10 ref12_Reserved [(AV.s x0)]).bind fun o1 =>
   if (AV.bool (List.headD o1 .u)) = true then
   some [(AV.b false)]
  else
   l_ref13_named_r4 0 (x0) ((0 : Int))
 else
  some [(AV.b false)]
else
 some [(AV.b false)]
theorem e_ref13_named (k : Nat) (x0 : ByteArray) : call C (k + 15) ref13_named [(AV.s x0)] = t_ref13_named (fun c => callP C (callF C (k + c))) (fun c => l_ref13_named_r4 (k + c)) x0 := by kernel_rfl
theorem d_ref13_named (x0 : ByteArray) {o : List AV} (h : t_ref13_named (fun _ => D) (fun _ => L_ref13_named_r4) x0 = some o) : D ref13_named [(AV.s x0)] = some o := D_fin (by rfl) (fun k => e_ref13_named k x0) (Lt.ite (Lt.ite (Lt.bind (D_lt 10 _ _) fun o1 => (Lt.ite Lt.ret (lt_ref13_named_r4 0 _ _))) Lt.ret) Lt.ret) h
noncomputable def t_ref16_Same (Q : Nat → FuncId → List AV → Out) (l_ref16_Same_r4 : Nat → List AV → List AV → Int → Out) (x0 x1 : List AV) : Out :=
 if (((List.length x0 : Nat) : Int) != ((List.length x1 : Nat) : Int)) = true then
 some [(AV.b false)]
else
 l_ref16_Same_r4 0 (x0) (x1) ((0 : Int))
theorem e_ref16_Same (k : Nat) (x0 x1 : List AV) : call C (k + 15) ref16_Same [(AV.l T_api_Item x0), (AV.l T_api_Item x1)] = t_ref16_Same (fun c => callP C (callF C (k + c))) (fun c => l_ref16_Same_r4 (k + c)) x0 x1 := by kernel_rfl
theorem d_ref16_Same (x0 x1 : List AV) {o : List AV} (h : t_ref16_Same (fun _ => D) (fun _ => L_ref16_Same_r4) x0 x1 = some o) : D ref16_Same [(AV.l T_api_Item x0), (AV.l T_api_Item x1)] = some o := D_fin (by rfl) (fun k => e_ref16_Same k x0 x1) (Lt.ite Lt.ret (lt_ref16_Same_r4 0 _ _ _)) h
noncomputable def t_ref17_find (Q : Nat → FuncId → List AV → Out) (l_ref17_find_r2 : Nat → List AV → List AV → Int → Out) (x0 x1 : List AV) : Out :=
 l_ref17_find_r2 0 (x0) (x1) ((0 : Int))
theorem e_ref17_find (k : Nat) (x0 x1 : List AV) : call C (k + 10) ref17_find [(AV.l T_api_State x0), (AV.l T_api_Item x1)] = t_ref17_find (fun c => callP C (callF C (k + c))) (fun c => l_ref17_find_r2 (k + c)) x0 x1 := by kernel_rfl
theorem d_ref17_find (x0 x1 : List AV) {o : List AV} (h : t_ref17_find (fun _ => D) (fun _ => L_ref17_find_r2) x0 x1 = some o) : D ref17_find [(AV.l T_api_State x0), (AV.l T_api_Item x1)] = some o := D_fin (by rfl) (fun k => e_ref17_find k x0 x1) (lt_ref17_find_r2 0 _ _ _) h
end Go.Proofs.YteklakapimggeaaGreatDoor.Den
