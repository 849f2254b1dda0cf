/- Proved here: a part of the proof, told one step at a time: ThSound, ThItemsA, ThItemsB, ThItemsC, ThItemsD, ThItemsE, ThItemsF. No condition but those each theorem names. -/
import Derived.Test.YteklakapimggeaaGreatDoorTa1
namespace Go.Proofs.YteklakapimggeaaGreatDoor.Den
open Go Go.Proofs
set_option linter.unusedVariables false
set_option linter.unusedSimpArgs false
theorem rx_D (ys : List AV) : ∃ b, D regex_Right [.l T_api_Cell ys] = some [.b b] ∧ D ref06_Right [.l T_api_Cell ys] = some [.b b] := by
 obtain ⟨b, h1, h2, _⟩ := rx_ok ys
 exact ⟨b, D_ev rfl h1, D_ev rfl h2⟩
noncomputable def rxB (ys : List AV) : Bool := (rx_D ys).choose
theorem rx1 (ys : List AV) : D regex_Right [.l T_api_Cell ys] = some [.b (rxB ys)] := (rx_D ys).choose_spec.1
theorem rx2 (ys : List AV) : D ref06_Right [.l T_api_Cell ys] = some [.b (rxB ys)] := (rx_D ys).choose_spec.2
open Classical in
noncomputable def nmB (s : ByteArray) : Bool := decide (nameB s)
theorem nm1 (s : ByteArray) : D check_named [.s s] = some [.b (nmB s)] := by
 obtain ⟨b, h1, h2⟩ := named_ev s
 have : b = nmB s := by
  unfold nmB
  by_cases h : nameB s
  ·rw [h2.mpr h]; simp [h]
  ·cases b with
   | true => exact absurd (h2.mp rfl) h
   | false => simp [h]
 rw [← this]
 exact D_ev rfl h1
theorem nm2 (s : ByteArray) : D ref13_named [.s s] = some [.b (nmB s)] := by
 obtain ⟨b, h1, h2⟩ := named_ev' s
 have : b = nmB s := by
  unfold nmB
  by_cases h : nameB s
  ·rw [h2.mpr h]; simp [h]
  ·cases b with
   | true => exact absurd (h2.mp rfl) h
   | false => simp [h]
 rw [← this]
 exact D_ev rfl h1
theorem nmB_iff (s : ByteArray) : nmB s = true ↔ nameB s := by simp [nmB]
noncomputable def nmsB : List ByteArray → List ByteArray → Bool
 | _, [] => true
 | met, s :: l => nmB s && !decide (s ∈ met) && nmsB (met ++ [s]) l
theorem nms1_loop (l : List ByteArray) (hb : l.length ≤ 1000) : ∀ j, j ≤ l.length → L_check_names_r11 (l.map AV.s) (l.length : Int) (j : Int) = some [.b (nmsB (l.take j) (l.drop j))] := by
 refine upTo _ ?_ fun j hj ih => ?_
 ·apply d_check_names_r11
  simp [t_check_names_r11, nmsB]
 ·have hd : l.drop j = l[j] :: l.drop (j + 1) := List.drop_eq_getElem_cons hj
  have ht : l.take (j + 1) = l.take j ++ [l[j]] := List.take_succ_eq_append_getElem hj
  rw [hd]
  unfold nmsB
  apply d_check_names_r11
  rw [ht] at ih
  have hh := has_ev (l.take j) l[j] (by rw [List.length_take]; omega)
  simp only [t_check_names_r11, wsucc (j := j) (by omega), ih]
  simp [hj, nm1, hh, List.map_take]
  cases nmB l[j] <;> simp [hj, Nat.le_of_lt hj, ← List.map_take, hh]
  by_cases q : l[j] ∈ l.take j <;> simp [q]
theorem nms2_in (l : List ByteArray) (i : Nat) (hi : i < l.length) (hb : l.length ≤ 1000) (r : Bool) (hr : L_ref13_names_r10 (l.map AV.s) ((i + 1 : Nat) : Int) = some [.b r]) : ∀ j, j ≤ i → L_ref13_names_r15 (l.map AV.s) (i : Int) (j : Int) = some [.b (!decide (l[i] ∈ (l.take i).drop j) && r)] := by
 refine upTo _ ?_ fun j hj ih => ?_
 ·apply d_ref13_names_r15
  simp only [t_ref13_names_r15, wsucc (j := i) (by omega), hr]
  simp
 ·have hj' : j < l.length := by omega
  have hd : (l.take i).drop j = l[j] :: (l.take i).drop (j + 1) := by
   rw [List.drop_eq_getElem_cons (by rw [List.length_take]; omega)]
   simp
  apply d_ref13_names_r15
  simp only [t_ref13_names_r15, wsucc (j := j) (by omega), ih, hd]
  simp [hj, hj', hi, eqb_iff]
  by_cases q : l[j] = l[i]
  ·simp [q]
  ·have q' : ¬ l[i] = l[j] := fun h => q h.symm
   simp [q, q']
theorem nms2_loop (l : List ByteArray) (hb : l.length ≤ 1000) : ∀ j, j ≤ l.length → L_ref13_names_r10 (l.map AV.s) (j : Int) = some [.b (nmsB (l.take j) (l.drop j))] := by
 refine upTo _ ?_ fun j hj ih => ?_
 ·apply d_ref13_names_r10
  simp [t_ref13_names_r10, nmsB]
 ·have hd : l.drop j = l[j] :: l.drop (j + 1) := List.drop_eq_getElem_cons hj
  have ht : l.take (j + 1) = l.take j ++ [l[j]] := List.take_succ_eq_append_getElem hj
  rw [hd]
  unfold nmsB
  apply d_ref13_names_r10
  rw [ht] at ih
  have hh := nms2_in l j hj hb _ ih 0 (by omega)
  simp only [List.drop_zero] at hh
  simp [t_ref13_names_r10, hj, nm2]
  cases nmB l[j] <;> simp
  simpa using hh
noncomputable def rulB (g : Gr) : Bool := g.rules.all fun r => rxB r.re
def allN (g : Gr) : List ByteArray := g.rules.map (·.name) ++ g.nonts
noncomputable def namB (g : Gr) : Bool := rulB g && nmsB [] (allN g)
theorem rl1 (g : Gr) (hb : g.rules.length ≤ 16) (hn : g.nonts.length ≤ 16) : ∀ j, j ≤ g.rules.length → L_check_names_r3 (g.rules.map Rul.av) (g.nonts.map AV.s) (g.levels.map itemAV) (g.prods.map Prd.av) g.start ((g.rules.take j).map fun r => AV.s r.name) (g.rules.map Rul.av) (g.rules.length : Int) (j : Int) = some [.b ((g.rules.drop j).all (fun r => rxB r.re) && nmsB [] (allN g))] := by
 refine upTo _ ?_ fun j hj ih => ?_
 ·apply d_check_names_r3
  have e : (g.rules.map fun r => AV.s r.name) ++ g.nonts.map AV.s = (allN g).map AV.s := by simp [allN]
  have hh := nms1_loop (allN g) (by simp [allN]; omega) 0 (by omega)
  simp only [List.take_length, t_check_names_r3, e]
  simp at hh
  simp [hh]
  omega
 ·have hd : g.rules.drop j = g.rules[j] :: g.rules.drop (j + 1) := List.drop_eq_getElem_cons hj
  have ht : g.rules.take (j + 1) = g.rules.take j ++ [g.rules[j]] := List.take_succ_eq_append_getElem hj
  apply d_check_names_r3
  rw [ht, List.map_append] at ih
  rw [hd]
  simp only [t_check_names_r3, wsucc (j := j) (by omega)]
  simp [hj, rx1, -List.getElem_cons_drop]
  simp at ih
  cases rxB g.rules[j].re <;> simp [ih]
  exact Nat.le_trans (Nat.min_le_left _ _) (by omega)
theorem rl2 (g : Gr) (hb : g.rules.length ≤ 16) (hn : g.nonts.length ≤ 16) : ∀ j, j ≤ g.rules.length → L_ref13_names_r3 (g.rules.map Rul.av) (g.nonts.map AV.s) (g.levels.map itemAV) (g.prods.map Prd.av) g.start ((g.rules.take j).map fun r => AV.s r.name) (j : Int) = some [.b ((g.rules.drop j).all (fun r => rxB r.re) && nmsB [] (allN g))] := by
 refine upTo _ ?_ fun j hj ih => ?_
 ·apply d_ref13_names_r3
  have e : (g.rules.map fun r => AV.s r.name) ++ g.nonts.map AV.s = (allN g).map AV.s := by simp [allN]
  have hh := nms2_loop (allN g) (by simp [allN]; omega) 0 (by omega)
  simp only [List.take_length, t_ref13_names_r3, e]
  simp at hh
  simp [hh]
  omega
 ·have hd : g.rules.drop j = g.rules[j] :: g.rules.drop (j + 1) := List.drop_eq_getElem_cons hj
  have ht : g.rules.take (j + 1) = g.rules.take j ++ [g.rules[j]] := List.take_succ_eq_append_getElem hj
  apply d_ref13_names_r3
  rw [ht, List.map_append] at ih
  rw [hd]
  simp only [t_ref13_names_r3, wsucc (j := j) (by omega)]
  simp [hj, rx2, -List.getElem_cons_drop]
  simp at ih
  cases rxB g.rules[j].re <;> simp [ih]
  all_goals exact Nat.le_trans (Nat.min_le_left _ _) (by omega)
theorem nam1 (g : Gr) (hb : g.rules.length ≤ 16) (hn : g.nonts.length ≤ 16) : D check_names [g.av] = some [.b (namB g)] := by
 apply d_check_names
 have := rl1 g hb hn 0 (by omega)
 simpa [t_check_names, namB, rulB] using this
theorem nam2 (g : Gr) (hb : g.rules.length ≤ 16) (hn : g.nonts.length ≤ 16) : D ref13_names [g.av] = some [.b (namB g)] := by
 apply d_ref13_names
 have := rl2 g hb hn 0 (by omega)
 simpa [t_ref13_names, namB, rulB] using this
theorem tm1_loop (l : List Rul) (hb : l.length ≤ 1000000) : ∀ j, j ≤ l.length → ∀ n : Nat, n ≤ j → L_gram_Terms_r3 (n : Int) (l.map Rul.av) (l.length : Int) (j : Int) = some [.i .i64 ((n + ((l.drop j).filter fun r => !r.skip).length : Nat) : Int)] := by
 refine upTo _ (fun n hn => ?_) fun j hj ih n hn => ?_
 ·apply d_gram_Terms_r3
  simp [t_gram_Terms_r3]
 ·have hd : l.drop j = l[j] :: l.drop (j + 1) := List.drop_eq_getElem_cons hj
  apply d_gram_Terms_r3
  simp only [t_gram_Terms_r3, wsucc (j := j) (by omega), wsucc (j := n) (by omega), ih n (by omega), ih (n + 1) (by omega), hd]
  simp [hj, -List.getElem_cons_drop]
  cases h : l[j].skip
  ·simp [h, -List.getElem_cons_drop]; omega
  ·simp [h, -List.getElem_cons_drop]
theorem tm1 (g : Gr) (hb : g.rules.length ≤ 1000000) : D gram_Terms [g.av] = some [.i .i64 (terms g : Int)] := by
 apply d_gram_Terms
 have := tm1_loop g.rules hb 0 (by omega) 0 (by omega)
 simpa [t_gram_Terms, terms] using this
theorem tm2_loop (g : Gr) (hb : g.rules.length ≤ 1000000) : ∀ j, j ≤ g.rules.length → ∀ n : Nat, n ≤ j → L_ref12_Terms_r3 (g.rules.map Rul.av) (g.nonts.map AV.s) (g.levels.map itemAV) (g.prods.map Prd.av) g.start (n : Int) (j : Int) = some [.i .i64 ((n + ((g.rules.drop j).filter fun r => !r.skip).length : Nat) : Int)] := by
 refine upTo _ (fun n hn => ?_) fun j hj ih n hn => ?_
 ·apply d_ref12_Terms_r3
  simp [t_ref12_Terms_r3]
 ·have hd : g.rules.drop j = g.rules[j] :: g.rules.drop (j + 1) := List.drop_eq_getElem_cons hj
  apply d_ref12_Terms_r3
  simp only [t_ref12_Terms_r3, wsucc (j := j) (by omega), wsucc (j := n) (by omega), ih n (by omega), ih (n + 1) (by omega), hd]
  simp [hj, -List.getElem_cons_drop]
  cases h : g.rules[j].skip
  ·simp [h, -List.getElem_cons_drop]; omega
  ·simp [h, -List.getElem_cons_drop]
theorem tm2 (g : Gr) (hb : g.rules.length ≤ 1000000) : D ref12_Terms [g.av] = some [.i .i64 (terms g : Int)] := by
 apply d_ref12_Terms
 have := tm2_loop g hb 0 (by omega) 0 (by omega)
 simpa [t_ref12_Terms, terms] using this
theorem terms_le (g : Gr) : terms g ≤ g.rules.length := List.length_filter_le _ _
def badN (a n : Int) : Bool := decide (n < 1) || decide (n > a)
theorem bad_loop (l : List Int) (a : Int) (hb : l.length ≤ 16777216) : ∀ j, j ≤ l.length → ∃ r : Int, L_slices_IndexFunc_int_check_Sound_c2_r2 (l.map (AV.i .i64)) a (l.length : Int) (j : Int) = some [.i .i64 r] ∧ decide (0 ≤ r) = (l.drop j).any (badN a) := by
 refine upTo _ ⟨-1, ?_, by simp⟩ fun j hj ⟨r, h1, h2⟩ => ?_
 ·apply d_slices_IndexFunc_int_check_Sound_c2_r2
  simp [t_slices_IndexFunc_int_check_Sound_c2_r2]
 ·have hd : l.drop j = l[j] :: l.drop (j + 1) := List.drop_eq_getElem_cons hj
  rw [hd, List.any_cons]
  by_cases q : badN a l[j] = true
  ·refine ⟨(j : Int), ?_, by rw [q]; simp⟩
   apply d_slices_IndexFunc_int_check_Sound_c2_r2
   simp only [badN, Bool.or_eq_true, decide_eq_true_eq] at q
   simp [t_slices_IndexFunc_int_check_Sound_c2_r2, hj]
   intro h1 h2
   omega
  ·refine ⟨r, ?_, by rw [Bool.not_eq_true] at q; rw [q, Bool.false_or]; exact h2⟩
   apply d_slices_IndexFunc_int_check_Sound_c2_r2
   simp only [t_slices_IndexFunc_int_check_Sound_c2_r2, wsucc (j := j) (by omega), h1]
   simp only [badN, Bool.or_eq_true, decide_eq_true_eq] at q
   have q1 : ¬ l[j] < 1 := fun h => q (.inl h)
   have q2 : ¬ a < l[j] := fun h => q (.inr h)
   have q3 : 1 ≤ l[j] := by omega
   have q4 : l[j] ≤ a := by omega
   simp [hj, q3, q4]
   intro h
   omega
theorem bad_D (l : List Int) (a : Int) (hb : l.length ≤ 16777216) : D slices_ContainsFunc_int [nums l, .fn check_Sound_c2 [] [.at T_int (.i .i64 a)]] = some [.b (l.any (badN a))] := by
 obtain ⟨r, h1, h2⟩ := bad_loop l a hb 0 (by omega)
 have h3 : D slices_IndexFunc_int [nums l, .fn check_Sound_c2 [] [.at T_int (.i .i64 a)]] = some [.i .i64 r] := by
  apply d_slices_IndexFunc_int_check_Sound_c2
  simpa [t_slices_IndexFunc_int_check_Sound_c2] using h1
 apply d_slices_ContainsFunc_int_check_Sound_c2
 rw [List.drop_zero] at h2
 simp only [t_slices_ContainsFunc_int_check_Sound_c2, h3, Option.bind_some, List.headD_cons, int_i]
 exact congrArg (fun b => some [AV.b b]) h2
theorem leafT {P : Prop} [Decidable P] (h : P) (r : Bool) : some [AV.b r] = some [AV.b (decide P && r)] := by simp [h]
theorem leafF {P : Prop} [Decidable P] (h : ¬ P) (r : Bool) : some [AV.b false] = some [AV.b (decide P && r)] := by simp [h]
def prodB (t a : Int) (p : Prd) : Bool := decide (t < p.left ∧ p.left ≤ a ∧ p.right.length ≤ 8 ∧ 0 ≤ p.prec ∧ p.prec ≤ t) && !p.right.any (badN a)
theorem pr1_loop (l : List Prd) (t a : Int) (hb : l.length ≤ 1000000) : ∀ j, j ≤ l.length → L_check_Sound_r17 t a t a (l.map Prd.av) (l.length : Int) (j : Int) = some [.b ((l.drop j).all (prodB t a))] := by
 refine upTo _ ?_ fun j hj ih => ?_
 ·apply d_check_Sound_r17
  simp [t_check_Sound_r17]
 ·have hd : l.drop j = l[j] :: l.drop (j + 1) := List.drop_eq_getElem_cons hj
  rw [hd, List.all_cons]
  apply d_check_Sound_r17
  simp only [t_check_Sound_r17, wsucc (j := j) (by omega), ih, prodB, Bool.and_assoc]
  have h6 := bad_D l[j].right a
  generalize (l.drop (j + 1)).all _ = r
  generalize l[j].right.any (badN a) = q at h6 ⊢
  simp [hj]
  repeat' split
  all_goals try rw [h6 (by omega)]
  all_goals first
   | exact leafF (by omega) _
   | (cases q <;> simp <;> omega)
def levB (x : Itm) : Bool := decide ((x.1 = 0 ∧ x.2 = 0) ∨ (1 ≤ x.1 ∧ 1 ≤ x.2 ∧ x.2 ≤ 3))
def startB (g : Gr) (t a : Int) : Bool := decide ((g.nonts.length = 0 ∧ g.start = 0) ∨ (g.nonts.length ≠ 0 ∧ t < g.start ∧ g.start ≤ a))
theorem lv1_loop (g : Gr) (t a : Int) (hb : g.levels.length ≤ 1000000) (hp : g.prods.length ≤ 1000000) : ∀ j, j ≤ g.levels.length → L_check_Sound_r8 (g.rules.map Rul.av) (g.nonts.map AV.s) (g.levels.map itemAV) (g.prods.map Prd.av) g.start t a (g.levels.map itemAV) (g.levels.length : Int) (j : Int) = some [.b ((g.levels.drop j).all levB && (startB g t a && g.prods.all (prodB t a)))] := by
 have hpr := pr1_loop g.prods t a hp 0 (by omega)
 rw [List.drop_zero, show ((0 : Nat) : Int) = 0 from rfl] at hpr
 refine upTo _ ?_ fun j hj ih => ?_
 ·apply d_check_Sound_r8
  simp only [t_check_Sound_r8, startB, List.length_map, List.drop_length, List.all_nil, Bool.true_and, hpr]
  generalize g.prods.all _ = r
  simp only [decide_eq_true_eq, decide_eq_false_iff_not, Bool.not_eq_true', Bool.not_eq_false', beq_iff_eq, bne_iff_ne, Int.lt_irrefl, if_false]
  repeat' split
  all_goals first
   | exact leafF (by omega) _
   | exact leafT (by omega) _
 ·have hd : g.levels.drop j = g.levels[j] :: g.levels.drop (j + 1) := List.drop_eq_getElem_cons hj
  rw [hd, List.all_cons]
  apply d_check_Sound_r8
  simp only [t_check_Sound_r8, wsucc (j := j) (by omega), ih, levB, Bool.and_assoc]
  generalize ((g.levels.drop (j + 1)).all _ && _) = r
  simp [hj, -Bool.decide_or, -Bool.decide_and]
  repeat' split
  all_goals first
   | exact leafF (by omega) _
   | exact leafT (by omega) _
theorem rt2_loop (g : Gr) (t a lf pr : Int) (rs : List Int) (i : Nat) (hi : i < g.prods.length) (hb : g.prods.length ≤ 1000000) (hr : rs.length ≤ 8) (r : Bool) (ih : L_ref13_Sound_r18 (g.rules.map Rul.av) (g.nonts.map AV.s) (g.levels.map itemAV) (g.prods.map Prd.av) g.start t a ((i + 1 : Nat) : Int) = some [.b r]) : ∀ j, j ≤ rs.length → L_ref13_Sound_r24 (g.rules.map Rul.av) (g.nonts.map AV.s) (g.levels.map itemAV) (g.prods.map Prd.av) g.start lf (rs.map (AV.i .i64)) pr t a (i : Int) (j : Int) = some [.b (!(rs.drop j).any (badN a) && r)] := by
 refine upTo _ ?_ fun j hj ih2 => ?_
 ·apply d_ref13_Sound_r24
  simp only [t_ref13_Sound_r24, wsucc (j := i) (by omega), ih]
  simp
 ·have hd : rs.drop j = rs[j] :: rs.drop (j + 1) := List.drop_eq_getElem_cons hj
  rw [hd, List.any_cons]
  apply d_ref13_Sound_r24
  simp only [t_ref13_Sound_r24, wsucc (j := j) (by omega), ih2]
  generalize (rs.drop (j + 1)).any _ = q
  have hbad : badN a rs[j] = true ↔ (rs[j] < 1 ∨ a < rs[j]) := by simp [badN]
  generalize badN a rs[j] = z at hbad ⊢
  simp [hj]
  repeat' split
  all_goals cases z
  all_goals simp at hbad ⊢
  all_goals omega
theorem pr2_loop (g : Gr) (t a : Int) (hb : g.prods.length ≤ 1000000) : ∀ j, j ≤ g.prods.length → L_ref13_Sound_r18 (g.rules.map Rul.av) (g.nonts.map AV.s) (g.levels.map itemAV) (g.prods.map Prd.av) g.start t a (j : Int) = some [.b ((g.prods.drop j).all (prodB t a))] := by
 refine upTo _ ?_ fun j hj ih => ?_
 ·apply d_ref13_Sound_r18
  simp [t_ref13_Sound_r18]
 ·have hd : g.prods.drop j = g.prods[j] :: g.prods.drop (j + 1) := List.drop_eq_getElem_cons hj
  rw [hd, List.all_cons]
  apply d_ref13_Sound_r18
  have h6 := fun (h8 : g.prods[j].right.length ≤ 8) => rt2_loop g t a g.prods[j].left g.prods[j].prec g.prods[j].right j hj hb h8 _ ih 0 (by omega)
  simp only [t_ref13_Sound_r18, prodB, Bool.and_assoc]
  generalize (g.prods.drop (j + 1)).all _ = r at h6 ⊢
  rw [List.drop_zero, show ((0 : Nat) : Int) = 0 from rfl] at h6
  generalize g.prods[j].right.any (badN a) = q at h6 ⊢
  simp [hj, -Bool.decide_or, -Bool.decide_and]
  repeat' split
  all_goals try rw [h6 (by omega)]
  all_goals first
   | exact leafF (by omega) _
   | exact leafT (by omega) _
def lev0 (g : Gr) (j : Nat) : Prop := j = 0 → (g.levels.getD 0 (0, 0)).1 = 0 ∧ (g.levels.getD 0 (0, 0)).2 = 0
instance (g : Gr) (j : Nat) : Decidable (lev0 g j) := inferInstanceAs (Decidable (_ → _))
theorem lv2_loop (g : Gr) (t a : Int) (hb : g.levels.length ≤ 1000000) (hp : g.prods.length ≤ 1000000) : ∀ j, j ≤ g.levels.length → L_ref13_Sound_r8 (g.rules.map Rul.av) (g.nonts.map AV.s) (g.levels.map itemAV) (g.prods.map Prd.av) g.start t a (j : Int) = some [.b (decide (lev0 g j) && ((g.levels.drop j).all levB && (startB g t a && g.prods.all (prodB t a))))] := by
 have hpr := pr2_loop g t a hp 0 (by omega)
 rw [List.drop_zero, show ((0 : Nat) : Int) = 0 from rfl] at hpr
 refine upTo _ ?_ fun j hj ih => ?_
 ·apply d_ref13_Sound_r8
  simp only [t_ref13_Sound_r8, startB, List.length_map, List.drop_length, List.all_nil, Bool.true_and, hpr]
  have h0 : lev0 g g.levels.length := fun h => by rw [List.length_eq_zero_iff.mp h]; simp
  rw [decide_eq_true h0, Bool.true_and]
  generalize g.prods.all _ = r
  simp only [decide_eq_true_eq, decide_eq_false_iff_not, Bool.not_eq_true', Bool.not_eq_false', beq_iff_eq, bne_iff_ne, bne_eq_false_iff_eq, Int.lt_irrefl, if_false]
  repeat' split
  all_goals first
   | exact leafF (by omega) _
   | exact leafT (by omega) _
 ·have hd : g.levels.drop j = g.levels[j] :: g.levels.drop (j + 1) := List.drop_eq_getElem_cons hj
  rw [hd, List.all_cons]
  apply d_ref13_Sound_r8
  have h1 : lev0 g (j + 1) := fun h => by omega
  rw [decide_eq_true h1, Bool.true_and] at ih
  simp only [t_ref13_Sound_r8, wsucc (j := j) (by omega), ih, levB, Bool.and_assoc]
  generalize ((g.levels.drop (j + 1)).all _ && _) = r
  have e : lev0 g j ↔ (j = 0 → g.levels[j].1 = 0 ∧ g.levels[j].2 = 0) := by
   unfold lev0
   constructor
   ·intro h h0; subst h0; simpa [hj] using h rfl
   ·intro h h0; subst h0; simpa [hj] using h rfl
  have e2 : ∀ P : Prop, [Decidable P] → (decide (lev0 g j) && (decide P && r)) = (decide ((j = 0 → g.levels[j].1 = 0 ∧ g.levels[j].2 = 0) ∧ P) && r) := by
   intro P _
   rw [← Bool.and_assoc]
   congr 1
   rw [Bool.decide_and, decide_eq_decide.mpr e]
  rw [e2]
  simp [hj, -Bool.decide_or, -Bool.decide_and]
  repeat' split
  all_goals first
   | exact leafF (by omega) _
   | exact leafT (by omega) _
noncomputable def soundB (g : Gr) : Bool := decide (g.rules.length ≤ 16 ∧ g.nonts.length ≤ 16 ∧ g.prods.length ≤ 40) && (namB g && (decide (g.levels.length = terms g + 1) && (decide (lev0 g 0) && (g.levels.all levB && (startB g (terms g) (alls g) && g.prods.all (prodB (terms g) (alls g)))))))
theorem snd1 (g : Gr) : D check_Sound [g.av] = some [.b (soundB g)] := by
 apply d_check_Sound
 have hl := terms_le g
 unfold soundB
 by_cases h1 : g.rules.length ≤ 16 ∧ g.nonts.length ≤ 16 ∧ g.prods.length ≤ 40
 ·have hn := nam1 g h1.1 h1.2.1
  have ht := tm1 g (by omega)
  have w1 : IntKind.wrap .i64 ((terms g : Int) + 1) = ((terms g + 1 : Nat) : Int) := wsucc (by omega)
  have w2 : IntKind.wrap .i64 ((terms g : Int) + (g.nonts.length : Int)) = ((alls g : Nat) : Int) := by rw [w64 (by omega) (by omega)]; simp [alls]
  rw [decide_eq_true h1, Bool.true_and]
  have a1 : ¬ (g.rules.length : Int) > 16 := by omega
  have a2 : ¬ (g.nonts.length : Int) > 16 := by omega
  have a3 : ¬ (g.prods.length : Int) > 40 := by omega
  simp only [t_check_Sound, List.length_map, hn, ht, Option.bind_some, List.headD_cons, int_i, bool_b, a1, a2, a3, decide_false, if_true, w1, w2]
  cases namB g with
  | false => simp
  | true =>
   by_cases h2 : g.levels.length = terms g + 1
   ·have hlv := lv1_loop g (terms g) (alls g) (by omega) (by omega) 0 (by omega)
    rw [List.drop_zero, show ((0 : Nat) : Int) = 0 from rfl, h2] at hlv
    rw [h2, hlv, decide_eq_true (rfl : terms g + 1 = terms g + 1)]
    generalize (g.levels.all levB && _) = r
    have e : lev0 g 0 ↔ ((g.levels[0]?.getD (0, 0)).1 = 0 ∧ (g.levels[0]?.getD (0, 0)).2 = 0) := by unfold lev0; simp
    by_cases h3 : lev0 g 0
    ·simp [h3, e.mp h3]
    ·have : ¬ ((g.levels[0]?.getD (0, 0)).1 = 0 ∧ (g.levels[0]?.getD (0, 0)).2 = 0) := fun h => h3 (e.mpr h)
     simp [h3]
     omega
   ·rw [decide_eq_false h2]
    have h3 : ¬ (g.levels.length : Int) = ((terms g + 1 : Nat) : Int) := by omega
    simp only [bne_eq_false_iff_eq, h3, if_false]
    simp
 ·rw [decide_eq_false h1]
  simp [t_check_Sound]
  intros
  omega
theorem snd2 (g : Gr) : D ref13_Sound [g.av] = some [.b (soundB g)] := by
 apply d_ref13_Sound
 have hl := terms_le g
 unfold soundB
 by_cases h1 : g.rules.length ≤ 16 ∧ g.nonts.length ≤ 16 ∧ g.prods.length ≤ 40
 ·have hn := nam2 g h1.1 h1.2.1
  have ht := tm2 g (by omega)
  have w1 : IntKind.wrap .i64 ((terms g : Int) + 1) = ((terms g + 1 : Nat) : Int) := wsucc (by omega)
  have w2 : IntKind.wrap .i64 ((terms g : Int) + (g.nonts.length : Int)) = ((alls g : Nat) : Int) := by rw [w64 (by omega) (by omega)]; simp [alls]
  rw [decide_eq_true h1, Bool.true_and]
  have a1 : ¬ (g.rules.length : Int) > 16 := by omega
  have a2 : ¬ (g.nonts.length : Int) > 16 := by omega
  have a3 : ¬ (g.prods.length : Int) > 40 := by omega
  simp only [t_ref13_Sound, List.length_map, hn, ht, Option.bind_some, List.headD_cons, int_i, bool_b, a1, a2, a3, decide_false, if_true, w1, w2]
  cases namB g with
  | false => simp
  | true =>
   by_cases h2 : g.levels.length = terms g + 1
   ·have hlv := lv2_loop g (terms g) (alls g) (by omega) (by omega) 0 (by omega)
    rw [List.drop_zero, show ((0 : Nat) : Int) = 0 from rfl] at hlv
    rw [hlv]
    simp [h2]
   ·rw [decide_eq_false h2]
    have h3 : ¬ (g.levels.length : Int) = ((terms g + 1 : Nat) : Int) := by omega
    simp only [bne_iff_ne, ne_eq, h3, not_false_eq_true, if_true]
    simp
 ·rw [decide_eq_false h1]
  simp [t_ref13_Sound]
  intros
  omega
structure Snd (g : Gr) : Prop where
 rules : g.rules.length ≤ 16
 nonts : g.nonts.length ≤ 16
 prods : g.prods.length ≤ 40
 names : nmsB [] (allN g) = true
 levels : g.levels.length = terms g + 1
 lev0 : lev0 g 0
 levs : g.levels.all levB = true
 start : (g.nonts.length = 0 ∧ g.start = 0) ∨ (g.nonts.length ≠ 0 ∧ (terms g : Int) < g.start ∧ g.start ≤ alls g)
 prod : ∀ p ∈ g.prods, (terms g : Int) < p.left ∧ p.left ≤ alls g ∧ p.right.length ≤ 8 ∧ 0 ≤ p.prec ∧ p.prec ≤ terms g ∧ ∀ n ∈ p.right, 1 ≤ n ∧ n ≤ (alls g : Int)
theorem snd_of {g : Gr} (h : soundB g = true) : Snd g := by
 unfold soundB namB at h
 simp only [Bool.and_eq_true, decide_eq_true_eq] at h
 obtain ⟨⟨h1, h2, h3⟩, ⟨_, h4⟩, h5, h6, h7, h8, h9⟩ := h
 refine ⟨h1, h2, h3, h4, h5, h6, h7, by simpa [startB] using h8, fun p hp => ?_⟩
 have := List.all_eq_true.mp h9 p hp
 simp only [prodB, Bool.and_eq_true, decide_eq_true_eq] at this
 obtain ⟨⟨q1, q2, q3, q4, q5⟩, q6⟩ := this
 refine ⟨q1, q2, q3, q4, q5, fun n hn => ?_⟩
 rw [Bool.not_eq_true', List.any_eq_false] at q6
 have := q6 n hn
 simp only [badN, Bool.or_eq_true, decide_eq_true_eq] at this
 omega
noncomputable def us (g : Gr) : Bool := decide (0 < g.nonts.length) && soundB g
theorem us1 (g : Gr) : D items_usable [g.av] = some [.b (us g)] := by
 apply d_items_usable
 by_cases h : 0 < g.nonts.length <;> simp [t_items_usable, us, h, snd1]
theorem us2 (g : Gr) : D ref16_Usable [g.av] = some [.b (us g)] := by
 apply d_ref16_Usable
 by_cases h : 0 < g.nonts.length <;> simp [t_ref16_Usable, us, h, snd2]
theorem side1 (g : Gr) (p : Int) (h : -1 ≤ p) (h2 : p < (g.prods.length : Int)) : D items_side [g.av, .i .i64 p] = some [nums (side g p)] := by
 apply d_items_side
 by_cases q : p = -1
 ·simp [t_items_side, side, q]
 ·have : 0 ≤ p := by omega
  simp [t_items_side, side, q, h2, this]
theorem prd_of {g : Gr} (hS : Snd g) {p : Int} (h : 0 ≤ p) (h2 : p < (g.prods.length : Int)) : g.prods.getD p.toNat default ∈ g.prods := by
 have hp : p.toNat < g.prods.length := by omega
 rw [List.getD_eq_getElem?_getD, List.getElem?_eq_getElem hp]
 exact List.getElem_mem hp
theorem side_len {g : Gr} (hS : Snd g) {p : Int} (h : -1 ≤ p) (h2 : p < (g.prods.length : Int)) : (side g p).length ≤ 8 := by
 unfold side
 by_cases q : p = -1
 ·simp [q]
 ·rw [if_neg q]
  exact (hS.prod _ (prd_of hS (by omega) h2)).2.2.1
theorem side2 (g : Gr) (hS : Snd g) (p : Int) (h : -1 ≤ p) (h2 : p < (g.prods.length : Int)) : D ref16_Side [g.av, .i .i64 p] = some [nums (side g p)] := by
 apply d_ref16_Side
 have hl := side_len hS h h2
 by_cases q : p = -1
 ·simp [t_ref16_Side, side, q]
 ·have h0 : 0 ≤ p := by omega
  have h1 : ¬ p < 0 := by omega
  have hp : p.toNat < g.prods.length := by omega
  rw [side, if_neg q, List.getD_eq_getElem?_getD, List.getElem?_eq_getElem hp, Option.getD_some] at hl
  simp [t_ref16_Side, side, q, h2, h0, h1]
  omega
theorem next1 (g : Gr) (x : Itm) (h : IsI g x) : D items_next [g.av, itemAV x] = some [.i .i64 (nxt g x)] := by
 apply d_items_next
 simp [t_items_next, nxt, side1 g x.1 h.1 h.2.1]
 by_cases q : x.2 < ((side g x.1).length : Int) <;> simp [q, h.2.2.1]
theorem next2 (g : Gr) (hS : Snd g) (x : Itm) (h : IsI g x) : D ref16_Next [g.av, itemAV x] = some [.i .i64 (nxt g x)] := by
 apply d_ref16_Next
 simp [t_ref16_Next, nxt, side2 g hS x.1 h.1 h.2.1]
 by_cases q : x.2 < ((side g x.1).length : Int)
 ·have : ¬ ((side g x.1).length : Int) ≤ x.2 := by omega
  simp [q, h.2.2.1, this]
 ·have : ((side g x.1).length : Int) ≤ x.2 := by omega
  simp [q, this]
theorem is1 (g : Gr) (x : Itm) : D items_is [g.av, itemAV x] = some [.b (decide (IsI g x))] := by
 apply d_items_is
 by_cases h1 : -1 ≤ x.1
 ·by_cases h2 : x.1 < (g.prods.length : Int)
  ·by_cases h3 : 0 ≤ x.2
   ·simp [t_items_is, IsI, h1, h2, h3, side1 g x.1 h1 h2]
   ·simp [t_items_is, IsI, h1, h2, h3]
  ·simp [t_items_is, IsI, h1, h2]
 ·simp [t_items_is, IsI, h1]
theorem isn1 (g : Gr) (x : Itm) : D items_Right_c1 [itemAV x, .at T_api_Grammar g.av] = some [.b (!decide (IsI g x))] := by
 apply d_items_Right_c1_c
 have := is1 g x
 simp only [itemAV] at this
 simp [t_items_Right_c1_c, this]
theorem idx_loop (g : Gr) (l : List Itm) (hb : l.length ≤ 16777216) : ∀ j, j ≤ l.length → ∃ r : Int, L_slices_IndexFunc_api_Item_items_Right_c1_r2 (l.map itemAV) (g.rules.map Rul.av) (g.nonts.map AV.s) (g.levels.map itemAV) (g.prods.map Prd.av) g.start (l.length : Int) (j : Int) = some [.i .i64 r] ∧ decide (0 ≤ r) = (l.drop j).any fun x => !decide (IsI g x) := by
 refine upTo _ ⟨-1, ?_, by simp⟩ fun j hj ⟨r, h1, h2⟩ => ?_
 ·apply d_slices_IndexFunc_api_Item_items_Right_c1_r2
  simp [t_slices_IndexFunc_api_Item_items_Right_c1_r2]
 ·have hd : l.drop j = l[j] :: l.drop (j + 1) := List.drop_eq_getElem_cons hj
  have hi := isn1 g l[j]
  simp only [itemAV] at hi
  rw [hd, List.any_cons]
  by_cases q : IsI g l[j]
  ·refine ⟨r, ?_, by simpa [q] using h2⟩
   apply d_slices_IndexFunc_api_Item_items_Right_c1_r2
   simp only [t_slices_IndexFunc_api_Item_items_Right_c1_r2, wsucc (j := j) (by omega), h1]
   simp [hj, hi, q]
  ·refine ⟨(j : Int), ?_, by simp [q]⟩
   apply d_slices_IndexFunc_api_Item_items_Right_c1_r2
   simp [t_slices_IndexFunc_api_Item_items_Right_c1_r2, hj, hi, q]
theorem right1 (g : Gr) (l : List Itm) (hb : l.length ≤ 16777216) : D items_Right [g.av, its l] = some [.b (us g && l.all fun x => decide (IsI g x))] := by
 obtain ⟨r, h1, h2⟩ := idx_loop g l hb 0 (by omega)
 have h3 : D slices_IndexFunc_api_Item [its l, .fn items_Right_c1 [] [.at T_api_Grammar g.av]] = some [.i .i64 r] := by
  apply d_slices_IndexFunc_api_Item_items_Right_c1
  simpa [t_slices_IndexFunc_api_Item_items_Right_c1] using h1
 have h4 : D slices_ContainsFunc_api_Item [its l, .fn items_Right_c1 [] [.at T_api_Grammar g.av]] = some [.b ((l.drop 0).any fun x => !decide (IsI g x))] := by
  apply d_slices_ContainsFunc_api_Item_items_Right_c1
  simp only [t_slices_ContainsFunc_api_Item_items_Right_c1, h3, Option.bind_some, List.headD_cons, int_i]
  exact congrArg (fun b => some [AV.b b]) h2
 apply d_items_Right
 simp only [t_items_Right, us1, h4, Option.bind_some, List.headD_cons, bool_b]
 rw [List.drop_zero]
 cases us g
 ·simp
 ·simp only [if_true, Bool.true_and]
  rw [List.all_eq_not_any_not]
theorem Next1 (g : Gr) (x : Itm) (hu : us g = true) (h : IsI g x) : D items_Next [g.av, itemAV x] = some [.i .i64 (nxt g x)] := by
 apply d_items_Next
 have h1 : D items_Right [g.av, .l T_api_Item [.g [.i .i64 x.1, .i .i64 x.2]]] = _ := right1 g [x] (by simp)
 have h2 := next1 g x h
 simp only [itemAV] at h2
 simp [t_items_Next, h1, h2, hu, h]
theorem us_snd {g : Gr} (h : us g = true) : Snd g := by
 unfold us at h
 rw [Bool.and_eq_true] at h
 exact snd_of h.2
theorem dedup_snoc {α : Type} [DecidableEq α] (a b : α) : ∀ p : List α, dedup (p ++ [a, b]) = if a = b then dedup (p ++ [a]) else dedup (p ++ [a]) ++ [b]
 | [] => by
  by_cases h : a = b
  ·subst h; simp [dedup]
  ·simp [dedup, h]
 | [c] => by
  by_cases h : a = b
  ·subst h; simp [dedup]
  ·by_cases h2 : c = a
   ·subst h2; simp [dedup, h]
   ·simp [dedup, h, h2]
 | c :: d :: p => by
  have ih := dedup_snoc a b (d :: p)
  simp only [List.cons_append] at ih ⊢
  unfold dedup
  rw [ih]
  by_cases h : a = b
  ·simp [h]
  ·by_cases h2 : c = d
   ·simp [h, h2]
   ·simp [h, h2]
theorem same1 (a b c d : Int) : D items_sorted_c1 [.g [.i .i64 a, .i .i64 b], .g [.i .i64 c, .i .i64 d]] = some [.b (decide (((a, b) : Itm) = (c, d)))] := by
 apply d_items_sorted_c1
 simp [t_items_sorted_c1, Prod.mk.injEq]
 rw [beqI, beqI]
theorem take_snoc2 {α : Type} (l : List α) (n : Nat) (h : n + 1 < l.length) : l.take (n + 2) = l.take n ++ [l[n], l[n + 1]] := by
 rw [List.take_succ_eq_append_getElem (i := n + 1) h, List.take_succ_eq_append_getElem (i := n) (by omega), List.append_assoc]
 rfl
theorem dedup_take (l : List Itm) (n : Nat) (h : n + 1 < l.length) : dedup (l.take (n + 2)) = if l[n + 1] = l[n] then dedup (l.take (n + 1)) else dedup (l.take (n + 1)) ++ [l[n + 1]] := by
 rw [take_snoc2 l n h, dedup_snoc, ← List.take_succ_eq_append_getElem]
 by_cases q : l[n] = l[n + 1]
 ·rw [if_pos q, if_pos q.symm]
 ·rw [if_neg q, if_neg fun h => q h.symm]
theorem dedup_len (l : List Itm) : (dedup l).length ≤ l.length := by
 match l with
 | [] => simp [dedup]
 | [a] => simp [dedup]
 | a :: b :: l =>
  unfold dedup
  have := dedup_len (b :: l)
  split
  ·simp only [List.length_cons] at this ⊢; omega
  ·simp only [List.length_cons] at this ⊢; omega
theorem compact9 (l : List Itm) (hb : l.length ≤ 16777216) (i : Nat) (hi : i < l.length) (h1 : 1 ≤ i) : ∀ c, c ≤ l.length - i → 1 ≤ c → ∀ (m : List Itm) (k : Nat), m.length = l.length → m.take k = dedup (l.take (i + c)) → k = (dedup (l.take (i + c))).length → k + 1 ≤ i + c → m.drop (i + c - 1) = l.drop (i + c - 1) →
  L_slices_CompactFunc_api_Item_items_sorted_c1_r9 (m.map itemAV) (k : Int) (c : Int) i (l.length - i) = some [its (dedup l)] := by
 refine upTo _ ?_ fun c hc ih => ?_
 ·intro _ m k hm ht hk hk2 _
  rw [show i + (l.length - i) = l.length by omega, List.take_length] at ht hk
  apply d_slices_CompactFunc_api_Item_items_sorted_c1_r9
  simp [t_slices_CompactFunc_api_Item_items_sorted_c1_r9, hm]
  have e : ((l.length : Int) - (k : Int)) = ((l.length - k : Nat) : Int) := by omega
  refine ⟨by omega, by omega, by omega, ?_⟩
  have : (m.map itemAV).take k = (dedup l).map itemAV := by rw [← List.map_take, ht]
  rw [List.take_append_of_le_length (by simp; omega), List.take_take, Nat.min_self, this]
 ·intro hc1 m k hm ht hk hk2 hdr
  have hlt : i + c < l.length := by omega
  have w : IntKind.wrap .i64 ((c : Int) - 1) = ((c - 1 : Nat) : Int) := by rw [w64 (by omega) (by omega)]; omega
  have g1 : m[i + c]'(by omega) = l[i + c] := by
   have := congrArg (fun q : List Itm => q[1]?) hdr
   simp only [List.getElem?_drop] at this
   rw [show i + c - 1 + 1 = i + c by omega, List.getElem?_eq_getElem (by omega), List.getElem?_eq_getElem hlt] at this
   exact Option.some.inj this
  have g2 : m[i + (c - 1)]'(by omega) = l[i + (c - 1)] := by
   have := congrArg (fun q : List Itm => q[0]?) hdr
   simp only [List.getElem?_drop] at this
   rw [show i + c - 1 + 0 = i + (c - 1) by omega, List.getElem?_eq_getElem (by omega), List.getElem?_eq_getElem (by omega)] at this
   exact Option.some.inj this
  have hdd := dedup_take l (i + (c - 1)) (by omega)
  simp only [show i + (c - 1) + 2 = i + (c + 1) by omega, show i + (c - 1) + 1 = i + c by omega] at hdd
  have hc' : i + c < m.length := by omega
  have hc2 : i + (c - 1) < m.length := by omega
  have hc3 : c - 1 < l.length - i := by omega
  apply d_slices_CompactFunc_api_Item_items_sorted_c1_r9
  simp only [t_slices_CompactFunc_api_Item_items_sorted_c1_r9, w, wsucc (j := c) (by omega), wsucc (j := k) (by omega), same1]
  simp only [List.getD_eq_getElem?_getD, List.getElem?_map, Int.toNat_natCast, o_1, o_2, List.getElem?_eq_getElem hc', List.getElem?_eq_getElem hc2, Option.getD_some, g1, g2, Option.bind_some, List.headD_cons, bool_b]
  by_cases q : l[i + c] = l[i + (c - 1)]
  ·rw [if_pos q] at hdd
   have := ih (by omega) m k hm (by rw [hdd]; exact ht) (by rw [hdd]; exact hk) (by omega) (by
    have := congrArg (List.drop 1) hdr
    rw [List.drop_drop, List.drop_drop] at this
    rw [show i + (c + 1) - 1 = i + c - 1 + 1 by omega]; exact this)
   rw [cs] at this
   simp [q, hc, hc3, this]
  ·rw [if_neg q] at hdd
   have := ih (by omega) (m.set k l[i + c]) (k + 1) (by rw [List.length_set]; exact hm) (by
    rw [hdd, ← ht, List.take_succ_eq_append_getElem (by rw [List.length_set]; omega), List.take_set_of_le (Nat.le_refl _), List.getElem_set_self]) (by rw [hdd, List.length_append, ← hk]; rfl) (by omega) (by
    rw [List.drop_set_of_lt (by omega)]
    have := congrArg (List.drop 1) hdr
    rw [List.drop_drop, List.drop_drop] at this
    rw [show i + (c + 1) - 1 = i + c - 1 + 1 by omega]; exact this)
   have e : (List.map itemAV (m.set k l[i + c])) = (List.map itemAV m).set k (.g [.i .i64 l[i + c].1, .i .i64 l[i + c].2]) := List.map_set
   rw [e] at this
   rw [cs, cs] at this
   simp [q, hc, hc3, this]
   omega
theorem compact4 (l : List Itm) (hb : l.length ≤ 16777216) : ∀ i, i ≤ l.length → 1 ≤ i → dedup (l.take i) = l.take i → L_slices_CompactFunc_api_Item_items_sorted_c1_r4 (l.map itemAV) (i : Int) = some [its (dedup l)] := by
 refine upTo _ ?_ fun i hi ih => ?_
 ·intro _ h
  rw [List.take_length] at h
  apply d_slices_CompactFunc_api_Item_items_sorted_c1_r4
  simp [t_slices_CompactFunc_api_Item_items_sorted_c1_r4, h]
 ·intro h1 hd
  have w : IntKind.wrap .i64 ((i : Int) - 1) = ((i - 1 : Nat) : Int) := by rw [w64 (by omega) (by omega)]; omega
  have hi2 : i - 1 < l.length := by omega
  have hdd := dedup_take l (i - 1) (by omega)
  simp only [show i - 1 + 2 = i + 1 by omega, show i - 1 + 1 = i by omega] at hdd
  apply d_slices_CompactFunc_api_Item_items_sorted_c1_r4
  simp only [t_slices_CompactFunc_api_Item_items_sorted_c1_r4, w, wsucc (j := i) (by omega), same1]
  simp only [List.getD_eq_getElem?_getD, List.getElem?_map, Int.toNat_natCast, o_1, o_2, List.getElem?_eq_getElem hi, List.getElem?_eq_getElem hi2, Option.getD_some, Option.bind_some, List.headD_cons, bool_b]
  by_cases q : l[i] = l[i - 1]
  ·rw [if_pos q, hd] at hdd
   have := compact9 l hb i hi h1 1 (by omega) (by omega) l i rfl (by rw [hdd]) (by rw [hdd, List.length_take]; omega) (by omega) rfl
   simp [q, hi, hi2, this, Nat.le_of_lt hi]
   simpa using this
  ·rw [if_neg q, hd, ← List.take_succ_eq_append_getElem] at hdd
   have := ih (by omega) hdd
   rw [cs] at this
   simp [q, hi, hi2, this]
theorem itmOf_av (x : Itm) : itmOf (itemAV x) = x := rfl
theorem sortL_map (l : List Itm) : sortL (l.map itemAV) = (l.mergeSort fun x y => !decide (ordI y x < 0)).map itemAV := by
 unfold sortL
 rw [List.map_map]
 have : (itmOf ∘ itemAV) = id := by funext x; exact itmOf_av x
 rw [this, List.map_id]
theorem sorted1 (l : List Itm) (hb : l.length ≤ 16777216) : D items_sorted [its l] = some [its (srt l)] := by
 have h1 : D slices_SortFunc_api_Item [its l, .fn items_order [] []] = some [its (l.mergeSort fun x y => !decide (ordI y x < 0))] := by
  rw [D_prim (pf := sortD) (by rfl)]
  show (if T_api_Item = 43 ∧ items_order = 88 ∧ (l.map itemAV).length < 4611686018427387904 then some [AV.l T_api_Item (sortL (l.map itemAV))] else none) = _
  rw [if_pos ⟨rfl, rfl, by rw [List.length_map]; omega⟩, sortL_map]
 have h2 : D slices_CompactFunc_api_Item [its (l.mergeSort fun x y => !decide (ordI y x < 0)), .fn items_sorted_c1 [] []] = some [its (srt l)] := by
  unfold srt
  have hm : (l.mergeSort fun x y => !decide (ordI y x < 0)).length = l.length := List.length_mergeSort _
  generalize (l.mergeSort fun x y => !decide (ordI y x < 0)) = m at hm ⊢
  apply d_slices_CompactFunc_api_Item_items_sorted_c1
  by_cases q : m.length < 2
  ·have : dedup m = m := by
    match m, q with
    | [], _ => rfl
    | [a], _ => rfl
   simp [t_slices_CompactFunc_api_Item_items_sorted_c1, q, this]
   omega
  ·have := compact4 m (by omega) 1 (by omega) (Nat.le_refl _) (by
    match m, q with
    | a :: m, _ => rfl
    | [], q => simp at q)
   rw [show ((1 : Nat) : Int) = 1 from rfl] at this
   simp [t_slices_CompactFunc_api_Item_items_sorted_c1, this]
   omega
 apply d_items_sorted
 simp [t_items_sorted, h1, h2]
def doneM (ds : List Int) : List (AV × AV) := ds.map fun n => (.i .i64 n, .b true)
theorem hasM_cons (x : AV) (q : AV × AV) (es : List (AV × AV)) : hasM x (q :: es) = (eqK x q.1 || hasM x es) := by
 unfold hasM
 rw [findM]
 cases eqK x q.1 <;> simp
theorem eqK_i (k k' : IntKind) (a c : Int) : eqK (.i k a) (.i k' c) = decide (a = c) := by
 rw [← beqI]; rfl
theorem hasM_done (n : Int) : ∀ ds : List Int, hasM (.i .i64 n) (doneM ds) = decide (n ∈ ds)
 | [] => rfl
 | d :: ds => by
  unfold doneM
  rw [List.map_cons, hasM_cons, eqK_i]
  have ih := hasM_done n ds
  unfold doneM at ih
  rw [ih]
  simp
theorem getM_done (n : Int) : ∀ ds : List Int, n ∈ ds → getM (.i .i64 n) (doneM ds) = .b true
 | d :: ds, h => by
  unfold doneM getM
  rw [List.map_cons, findM, eqK_i]
  by_cases q : n = d
  ·simp [q]
  ·have h' : n ∈ ds := by simpa [q] using h
   have ih := getM_done n ds h'
   unfold doneM getM at ih
   simpa [q] using ih
theorem putM_done (n : Int) : ∀ ds : List Int, n ∉ ds → putM (.i .i64 n) (.b true) (doneM ds) = doneM (ds ++ [n])
 | [], _ => rfl
 | d :: ds, h => by
  have h1 : ¬ n = d := fun q => h (by simp [q])
  have ih := putM_done n ds (fun q => h (by simp [q]))
  unfold doneM at ih ⊢
  rw [List.map_cons, putM, eqK_i]
  simp [h1, ih]
def newI (n : Int) : List Prd → Nat → List Itm
 | [], _ => []
 | p :: l, k => if p.left = n then ((k : Int), 0) :: newI n l (k + 1) else newI n l (k + 1)
theorem mem_newI (n : Int) : ∀ (l : List Prd) (k : Nat) (x : Itm), x ∈ newI n l k ↔ ∃ j, j < l.length ∧ (l.getD j default).left = n ∧ x = (((k + j : Nat) : Int), 0)
 | [], k, x => by simp [newI]
 | p :: l, k, x => by
  have ih := mem_newI n l (k + 1) x
  have e : (∃ j, j < (p :: l).length ∧ ((p :: l).getD j default).left = n ∧ x = (((k + j : Nat) : Int), 0)) ↔ (p.left = n ∧ x = ((k : Int), 0)) ∨ ∃ j, j < l.length ∧ (l.getD j default).left = n ∧ x = (((k + 1 + j : Nat) : Int), 0) := by
   constructor
   ·rintro ⟨j, h1, h2, h3⟩
    cases j with
    | zero => exact .inl ⟨h2, h3⟩
    | succ j => exact .inr ⟨j, by simpa using h1, by simpa using h2, by rw [h3]; congr 2; omega⟩
   ·rintro (⟨h1, h2⟩ | ⟨j, h1, h2, h3⟩)
    ·exact ⟨0, by simp, h1, h2⟩
    ·exact ⟨j + 1, by simpa using h1, by simpa using h2, by rw [h3]; congr 2; omega⟩
  rw [e, newI]
  split
  ·rename_i h
   rw [List.mem_cons, ih]
   simp [h]
  ·rename_i h
   rw [ih]
   simp [h]
theorem len_newI (n : Int) : ∀ (l : List Prd) (k : Nat), (newI n l k).length = l.countP fun p => decide (p.left = n)
 | [], k => rfl
 | p :: l, k => by
  rw [newI, List.countP_cons]
  split
  ·rename_i h
   rw [List.length_cons, len_newI n l (k + 1)]
   simp [h]
  ·rename_i h
   rw [len_newI n l (k + 1)]
   simp [h]
theorem cnt_add (n : Int) (ds : List Int) (h : n ∉ ds) : ∀ l : List Prd, (l.countP fun p => decide (p.left ∈ ds ++ [n])) = (l.countP fun p => decide (p.left ∈ ds)) + l.countP fun p => decide (p.left = n)
 | [] => rfl
 | p :: l => by
  have ih := cnt_add n ds h l
  rw [List.countP_cons, List.countP_cons, List.countP_cons, ih]
  by_cases q : p.left = n
  ·have : ¬ p.left ∈ ds := by rw [q]; exact h
   simp [q, h]
   omega
  ·simp [q]
   omega
structure Cl (g : Gr) (K out : List Itm) (ds : List Int) (i : Nat) : Prop where
 ofK : ∀ x ∈ K, x ∈ out
 clo : ∀ x ∈ out, Clo g K x
 done : ∀ n ∈ ds, ∀ p, p < g.prods.length → (g.prods.getD p default).left = n → ((p : Int), 0) ∈ out
 met : ∀ j (h : j < out.length), j < i → nxt g out[j] ≠ 0 → nxt g out[j] ∈ ds
 len : out.length = K.length + g.prods.countP fun p => decide (p.left ∈ ds)
theorem clo10 (g : Gr) (hS : Snd g) (out : List Itm) (es : List (AV × AV)) (i : Nat) (n : Int) (hb : out.length ≤ 1000000) (hi : i < 1000000) (r : List AV)
  (h : L_items_closure_r4 (g.rules.map Rul.av) (g.nonts.map AV.s) (g.levels.map itemAV) (g.prods.map Prd.av) g.start ((out ++ newI n g.prods 0).map itemAV) (es.map fun q => AV.g [q.1, q.2]) ((i + 1 : Nat) : Int) = some r) :
  ∀ k, k ≤ g.prods.length → ∀ o2, o2 ++ newI n (g.prods.drop k) k = out ++ newI n g.prods 0 → L_items_closure_r10 (g.rules.map Rul.av) (g.nonts.map AV.s) (g.levels.map itemAV) (g.prods.map Prd.av) g.start (o2.map itemAV) (es.map fun q => AV.g [q.1, q.2]) (i : Int) n (g.prods.map Prd.av) (g.prods.length : Int) (k : Int) = some r := by
 have hp := hS.prods
 refine upTo _ ?_ fun k hk ih => ?_
 ·intro o2 ho
  rw [List.drop_length, newI, List.append_nil] at ho
  apply d_items_closure_r10
  rw [← ho] at h
  simp only [t_items_closure_r10, unM_map, wsucc (j := i) (by omega), h]
  simp
 ·intro o2 ho
  have hd : g.prods.drop k = g.prods[k] :: g.prods.drop (k + 1) := List.drop_eq_getElem_cons hk
  rw [hd, newI] at ho
  apply d_items_closure_r10
  have ho2 : o2.length ≤ 1000040 := by
   have := congrArg List.length ho
   rw [List.length_append, List.length_append, len_newI n g.prods 0] at this
   have := List.countP_le_length (l := g.prods) (p := fun p => decide (p.left = n))
   omega
  by_cases q : g.prods[k].left = n
  ·rw [if_pos q] at ho
   have h2 := ih (o2 ++ [((k : Int), 0)]) (by rw [List.append_assoc]; exact ho)
   rw [List.map_append, List.map_cons, List.map_nil] at h2
   simp only [itemAV] at h2
   simp only [t_items_closure_r10, unM_map, wsucc (j := k) (by omega), h2]
   simp [hk, q]
   omega
  ·rw [if_neg q] at ho
   have h2 := ih o2 ho
   simp only [t_items_closure_r10, unM_map, wsucc (j := k) (by omega), h2]
   simp [hk, q]
theorem Clo.cnt {g : Gr} (ds : List Int) : (g.prods.countP fun p => decide (p.left ∈ ds)) ≤ g.prods.length := List.countP_le_length
theorem clo4 (g : Gr) (hS : Snd g) (K : List Itm) (hK : ∀ x ∈ K, IsI g x) (hb : K.length ≤ 100000) : ∀ m i out ds, K.length + 40 + 1 ≤ i + m → i ≤ out.length → Cl g K out ds i →
  L_items_closure_r4 (g.rules.map Rul.av) (g.nonts.map AV.s) (g.levels.map itemAV) (g.prods.map Prd.av) g.start (out.map itemAV) ((doneM ds).map fun q => AV.g [q.1, q.2]) (i : Int) = some [its (clo g K)] := by
 have hp := hS.prods
 intro m
 induction m with
 | zero =>
  intro i out ds hm hi hC
  have := hC.len
  have := Clo.cnt (g := g) ds
  omega
 | succ m ih =>
  intro i out ds hm hi hC
  have hl := hC.len
  have hl2 := Clo.cnt (g := g) ds
  apply d_items_closure_r4
  by_cases hlt : i < out.length
  ·have hx : IsI g out[i] := (hC.clo _ (List.getElem_mem hlt)).is hK
   have hn := next1 g out[i] hx
   simp only [itemAV] at hn
   have stay : (nxt g out[i] ≠ 0 → nxt g out[i] ∈ ds) → Cl g K out ds (i + 1) := fun hh => ⟨hC.ofK, hC.clo, hC.done, fun j hj hji hz => by
    rcases Nat.lt_or_ge j i with k | k
    ·exact hC.met j hj k hz
    ·have : j = i := by omega
     subst this
     exact hh hz, hC.len⟩
   by_cases q0 : nxt g out[i] = 0
   ·have h2 := ih (i + 1) out ds (by omega) (by omega) (stay fun h => absurd q0 h)
    simp only [t_items_closure_r4, unM_map, wsucc (j := i) (by omega), h2]
    simp [hlt, hn, q0]
   by_cases q1 : nxt g out[i] ∈ ds
   ·have h2 := ih (i + 1) out ds (by omega) (by omega) (stay fun _ => q1)
    simp only [t_items_closure_r4, unM_map, wsucc (j := i) (by omega), h2]
    simp [hlt, hn, q0, hasM_done, q1, getM_done _ ds q1]
   ·have hC2 : Cl g K (out ++ newI (nxt g out[i]) g.prods 0) (ds ++ [nxt g out[i]]) (i + 1) := by
     refine ⟨fun x hx => List.mem_append_left _ (hC.ofK x hx), fun x hx => ?_, fun n hn p hp hpl => ?_, fun j hj hji hz => ?_, ?_⟩
     ·rcases List.mem_append.mp hx with k | k
      ·exact hC.clo x k
      ·rw [mem_newI] at k
       obtain ⟨j, h1, h2, rfl⟩ := k
       rw [Nat.zero_add]
       exact (hC.clo _ (List.getElem_mem hlt)).step h1 h2.symm q0
     ·rcases List.mem_append.mp hn with k | k
      ·exact List.mem_append_left _ (hC.done n k p hp hpl)
      ·rw [List.mem_singleton] at k
       refine List.mem_append_right _ ((mem_newI _ _ _ _).mpr ⟨p, hp, hpl.trans k, by rw [Nat.zero_add]⟩)
     ·have hj' : j < out.length := by omega
      rw [List.getElem_append_left hj'] at hz ⊢
      rcases Nat.lt_or_ge j i with k | k
      ·exact List.mem_append_left _ (hC.met j hj' k hz)
      ·have : j = i := by omega
       subst this
       exact List.mem_append_right _ (by simp)
     ·rw [List.length_append, len_newI, cnt_add _ _ q1, hC.len, Nat.add_assoc]
    have h2 := ih (i + 1) _ _ (by omega) (by rw [List.length_append]; omega) hC2
    rw [← putM_done _ _ q1] at h2
    have h3 := clo10 g hS out _ i (nxt g out[i]) (by omega) (by omega) _ h2 0 (by omega) out rfl
    rw [show ((0 : Nat) : Int) = 0 from rfl] at h3
    simp only [t_items_closure_r4, unM_map]
    simp [hlt, hn, q0, hasM_done, q1, h3]
  ·have e : i = out.length := by omega
   have hs : srt out = clo g K := srt_pick fun x => ⟨fun hx => ⟨(hC.clo x hx).is hK, hC.clo x hx⟩, fun hx => by
    have := hx.2
    clear hx
    induction this with
    | base h => exact hC.ofK _ h
    | @step y p hy hp hn h0 ihy =>
     obtain ⟨j, hj, rfl⟩ := List.mem_iff_getElem.mp ihy
     exact hC.done _ (hC.met j hj (by omega) h0) p hp hn.symm⟩
   have h2 := sorted1 out (by omega)
   rw [hs] at h2
   simp [t_items_closure_r4, hlt, h2]
theorem closure1 (g : Gr) (hS : Snd g) (K : List Itm) (hK : ∀ x ∈ K, IsI g x) (h0 : K ≠ []) (hb : K.length ≤ 100000) : D items_closure [g.av, its K] = some [its (clo g K)] := by
 have h1 : D slices_Clone_api_Item [its K] = some [its K] := by
  apply d_slices_Clone_api_Item
  simp [t_slices_Clone_api_Item, h0]
  omega
 have h2 := clo4 g hS K hK hb (K.length + 41) 0 K [] (by omega) (by omega) ⟨fun x h => h, fun x h => .base h, fun n h => by simp at h, fun j h hj => by omega, by simp⟩
 rw [show ((0 : Nat) : Int) = 0 from rfl] at h2
 have e : ((doneM []).map fun q => AV.g [q.1, q.2]) = (([] : List (AV × AV)).map fun q => AV.g [q.1, q.2]) := rfl
 rw [e] at h2
 apply d_items_closure
 simp only [t_items_closure, h1, Option.bind_some, List.headD_cons, list_l, h2]
theorem Closure1 (g : Gr) (hu : us g = true) (K : List Itm) (hK : ∀ x ∈ K, IsI g x) (h0 : K ≠ []) (hb : K.length ≤ 100000) : D items_Closure [g.av, its K] = some [its (clo g K)] := by
 have h1 := right1 g K (by omega)
 have h2 := closure1 g (us_snd hu) K hK h0 hb
 have h3 : (K.all fun x => decide (IsI g x)) = true := List.all_eq_true.mpr fun x hx => decide_eq_true (hK x hx)
 rw [hu, h3] at h1
 apply d_items_Closure
 simp [t_items_Closure, h1, h2]
theorem allI_len {g : Gr} (hS : Snd g) : (allI g).length ≤ 400 := by
 have hp := hS.prods
 unfold allI
 rw [List.length_flatMap]
 have : ∀ l : List Nat, (∀ p ∈ l, p < g.prods.length + 1) → (l.map fun (p : Nat) => ((List.range ((side g ((p : Int) - 1)).length + 1)).map fun (d : Nat) => (((p : Int) - 1, (d : Int)) : Itm)).length).sum ≤ 9 * l.length := by
  intro l
  induction l with
  | nil => intro _; simp
  | cons p l ih =>
   intro h
   have h1 := ih fun q hq => h q (by simp [hq])
   have h2 := h p (by simp)
   have h3 := side_len hS (p := (p : Int) - 1) (by omega) (by omega)
   simp only [List.map_cons, List.sum_cons, List.length_map, List.length_range, List.length_cons] at h1 ⊢
   omega
 have := this (List.range (g.prods.length + 1)) (fun p hp => List.mem_range.mp hp)
 simp only [List.length_range] at this
 omega
theorem pick_len {g : Gr} (hS : Snd g) (P : Itm → Prop) : (pick g P).length ≤ 400 :=
 Nat.le_trans (List.length_filter_le _ _) (allI_len hS)
theorem side_dot {g : Gr} (hS : Snd g) {x : Itm} (h : IsI g x) : x.2 ≤ 8 := by
 have := side_len hS h.1 h.2.1
 have := h.2.2.2
 omega
theorem nxt_pos {g : Gr} (hS : Snd g) (hs : g.nonts.length ≠ 0) {x : Itm} (h : IsI g x) (hn : nxt g x ≠ 0) : 1 ≤ nxt g x ∧ nxt g x ≤ alls g := by
 have hl := nxt_lt hn
 unfold nxt
 rw [if_pos hl]
 have hj : x.2.toNat < (side g x.1).length := by have := h.2.2.1; omega
 rw [List.getD_eq_getElem?_getD, List.getElem?_eq_getElem hj, Option.getD_some]
 have hm := List.getElem_mem hj
 generalize (side g x.1)[x.2.toNat] = v at hm ⊢
 unfold side at hm
 by_cases q : x.1 = -1
 ·rw [if_pos q, List.mem_singleton] at hm
  have := hS.start
  omega
 ·rw [if_neg q] at hm
  have h1 := h.1
  exact (hS.prod _ (prd_of hS (by omega) h.2.1)).2.2.2.2.2 v hm
def onI (g : Gr) (s : Int) : List Itm → List Itm
 | [] => []
 | x :: l => if nxt g x ≠ 0 ∧ nxt g x = s then (x.1, x.2 + 1) :: onI g s l else onI g s l
theorem mem_onI (g : Gr) (s : Int) : ∀ (l : List Itm) (y : Itm), y ∈ onI g s l ↔ ∃ x ∈ l, nxt g x ≠ 0 ∧ nxt g x = s ∧ y = (x.1, x.2 + 1)
 | [], y => by simp [onI]
 | x :: l, y => by
  rw [onI]
  split
  ·rename_i h
   rw [List.mem_cons, mem_onI g s l y]
   constructor
   ·rintro (rfl | ⟨z, hz, hh⟩)
    ·exact ⟨x, by simp, h.1, h.2, rfl⟩
    ·exact ⟨z, by simp [hz], hh⟩
   ·rintro ⟨z, hz, h1, h2, h3⟩
    rcases List.mem_cons.mp hz with rfl | k
    ·exact .inl h3
    ·exact .inr ⟨z, k, h1, h2, h3⟩
  ·rename_i h
   rw [mem_onI g s l y]
   constructor
   ·rintro ⟨z, hz, hh⟩
    exact ⟨z, by simp [hz], hh⟩
   ·rintro ⟨z, hz, h1, h2, h3⟩
    rcases List.mem_cons.mp hz with rfl | k
    ·exact absurd ⟨h1, h2⟩ h
    ·exact ⟨z, k, h1, h2, h3⟩
theorem onI_len (g : Gr) (s : Int) : ∀ l : List Itm, (onI g s l).length ≤ l.length
 | [] => by simp [onI]
 | x :: l => by
  have := onI_len g s l
  rw [onI]
  split
  ·simp only [List.length_cons]; omega
  ·simp only [List.length_cons]; omega
theorem goto5 (g : Gr) (hS : Snd g) (s : Int) (l : List Itm) (hl : ∀ x ∈ l, IsI g x) (hb : l.length ≤ 100000) : ∀ j, j ≤ l.length → ∀ acc : List Itm, acc.length ≤ j → 
  L_items_Goto_r5 (g.rules.map Rul.av) (g.nonts.map AV.s) (g.levels.map itemAV) (g.prods.map Prd.av) g.start s (acc.map itemAV) (l.map itemAV) (l.length : Int) (j : Int) = some [its (srt (acc ++ onI g s (l.drop j)))] := by
 refine upTo _ ?_ fun j hj ih => ?_
 ·intro acc ha
  have h1 := sorted1 acc (by omega)
  apply d_items_Goto_r5
  simp [t_items_Goto_r5, onI, h1]
 ·intro acc ha
  have hd : l.drop j = l[j] :: l.drop (j + 1) := List.drop_eq_getElem_cons hj
  have hx := hl _ (List.getElem_mem hj)
  have hn := next1 g l[j] hx
  simp only [itemAV] at hn
  have hdot := side_dot hS hx
  have hdot0 := hx.2.2.1
  have w : IntKind.wrap .i64 (l[j].2 + 1) = l[j].2 + 1 := w64 (by omega) (by omega)
  rw [hd, onI]
  apply d_items_Goto_r5
  by_cases q : nxt g l[j] ≠ 0 ∧ nxt g l[j] = s
  ·have h2 := ih (acc ++ [(l[j].1, l[j].2 + 1)]) (by rw [List.length_append]; simp; omega)
   rw [List.append_assoc, List.map_append, List.map_cons, List.map_nil] at h2
   simp only [itemAV, List.singleton_append] at h2
   rw [if_pos q]
   simp only [t_items_Goto_r5, wsucc (j := j) (by omega)]
   simp only [List.getD_eq_getElem?_getD, List.getElem?_map, Int.toNat_natCast, o_1, o_2, List.getElem?_eq_getElem hj, Option.getD_some, w, h2, hn, Option.bind_some, List.headD_cons, int_i]
   have q0 : ¬ s = 0 := fun h => q.1 (q.2.trans h)
   have hl : acc.length ≤ 16777215 := by omega
   simp [hj, q, q0, hl]
  ·rw [if_neg q]
   have h2 := ih acc (by omega)
   simp only [t_items_Goto_r5, wsucc (j := j) (by omega)]
   simp only [List.getD_eq_getElem?_getD, List.getElem?_map, Int.toNat_natCast, o_1, o_2, List.getElem?_eq_getElem hj, Option.getD_some, w, h2, hn, Option.bind_some, List.headD_cons, int_i]
   by_cases q1 : nxt g l[j] = 0
   ·simp [hj, q1]
   ·have q2 : ¬ nxt g l[j] = s := fun h => q ⟨q1, h⟩
    simp [hj, q1, q2]
theorem srt_on {g : Gr} (K : List Itm) (hK : ∀ x ∈ K, IsI g x) (s : Int) : srt (onI g s (clo g K)) = gto g K s := by
 refine srt_pick fun y => ?_
 rw [mem_onI]
 constructor
 ·rintro ⟨x, hx, h1, h2, rfl⟩
  have hc := (mem_clo hK).mp hx
  exact ⟨(hc.is hK).succ h1, x, hc, h2, by rw [← h2]; exact h1, rfl⟩
 ·rintro ⟨_, x, hx, h1, h2, rfl⟩
  exact ⟨x, (mem_clo hK).mpr hx, by rw [h1]; exact h2, h1, rfl⟩
theorem clo_is {g : Gr} {K : List Itm} : ∀ x ∈ clo g K, IsI g x := fun x hx => (mem_pick.mp hx).1
theorem gto_is {g : Gr} {K : List Itm} {s : Int} : ∀ x ∈ gto g K s, IsI g x := fun x hx => (mem_pick.mp hx).1
theorem clo_ne {g : Gr} {K : List Itm} (hK : ∀ x ∈ K, IsI g x) (h0 : K ≠ []) : clo g K ≠ [] := by
 obtain ⟨x, l, rfl⟩ := List.exists_cons_of_ne_nil h0
 intro h
 have : x ∈ clo g (x :: l) := (mem_clo hK).mpr (.base (by simp))
 rw [h] at this
 simp at this
theorem Goto1 (g : Gr) (hu : us g = true) (K : List Itm) (hK : ∀ x ∈ K, IsI g x) (h0 : K ≠ []) (hb : K.length ≤ 100000) (s : Int) : D items_Goto [g.av, its K, .i .i64 s] = some [its (gto g K s)] := by
 have hS := us_snd hu
 have h1 := right1 g K (by omega)
 have h2 := closure1 g hS K hK h0 hb
 have h3 : (K.all fun x => decide (IsI g x)) = true := List.all_eq_true.mpr fun x hx => decide_eq_true (hK x hx)
 rw [hu, h3] at h1
 have h4 := goto5 g hS s (clo g K) clo_is (Nat.le_trans (pick_len hS _) (by omega)) 0 (by omega) [] (by simp)
 rw [List.drop_zero, List.nil_append, srt_on K hK, show ((0 : Nat) : Int) = 0 from rfl] at h4
 apply d_items_Goto
 simp at h4
 simp [t_items_Goto, h1, h2, h4]
theorem has2_loop (l : List Itm) (x : Itm) (hb : l.length ≤ 16777216) : ∀ j, j ≤ l.length → L_ref16_Has_r2 x.1 x.2 (l.map itemAV) (j : Int) = some [.b (decide (x ∈ l.drop j))] := by
 refine upTo _ ?_ fun j hj ih => ?_
 ·apply d_ref16_Has_r2
  simp [t_ref16_Has_r2]
 ·have hd : l.drop j = l[j] :: l.drop (j + 1) := List.drop_eq_getElem_cons hj
  rw [hd]
  apply d_ref16_Has_r2
  have e : (l[j].1 = x.1 ∧ l[j].2 = x.2) ↔ x = l[j] := by
   rw [Prod.ext_iff]
   exact ⟨fun h => ⟨h.1.symm, h.2.symm⟩, fun h => ⟨h.1.symm, h.2.symm⟩⟩
  simp only [t_ref16_Has_r2, wsucc (j := j) (by omega), ih]
  by_cases q : x = l[j]
  ·have := e.mpr q
   simp [hj, this.1, this.2, -List.getElem_cons_drop]
   exact .inl q
  ·have : ¬ (l[j].1 = x.1 ∧ l[j].2 = x.2) := fun h => q (e.mp h)
   simp [hj, this, q, -List.getElem_cons_drop]
theorem has2 (l : List Itm) (x : Itm) (hb : l.length ≤ 16777216) : D ref16_Has [its l, itemAV x] = some [.b (decide (x ∈ l))] := by
 apply d_ref16_Has
 have := has2_loop l x hb 0 (by omega)
 rw [List.drop_zero, show ((0 : Nat) : Int) = 0 from rfl] at this
 simp only [t_ref16_Has, this]
def ofD (l : List Itm) (p : Int) (d n : Nat) : List Itm := ((List.range' d (n - d)).map fun (e : Nat) => ((p, (e : Int)) : Itm)).filter fun x => decide (x ∈ l)
theorem ofD_step (l : List Itm) (p : Int) (d n : Nat) (h : d < n) : ofD l p d n = (if (p, (d : Int)) ∈ l then [(p, (d : Int))] else []) ++ ofD l p (d + 1) n := by
 unfold ofD
 obtain ⟨m, hm⟩ : ∃ m, n - d = m + 1 := ⟨n - d - 1, by omega⟩
 rw [hm, List.range'_succ, List.map_cons, List.filter_cons, show n - (d + 1) = m by omega]
 by_cases q : (p, (d : Int)) ∈ l <;> simp [q]
def ofP (g : Gr) (l : List Itm) : Nat → Nat → List Itm
 | _, 0 => []
 | p, m + 1 => ofD l ((p : Int) - 1) 0 ((side g ((p : Int) - 1)).length + 1) ++ ofP g l (p + 1) m
theorem ofP_eq (g : Gr) (l : List Itm) : ∀ m p, p + m = g.prods.length + 1 → ofP g l p m = ((List.range' p m).flatMap fun (p : Nat) => (List.range ((side g ((p : Int) - 1)).length + 1)).map fun (d : Nat) => (((p : Int) - 1, (d : Int)) : Itm)).filter fun x => decide (x ∈ l)
 | 0, p, h => rfl
 | m + 1, p, h => by
  rw [ofP, ofP_eq g l m (p + 1) (by omega), List.range'_succ, List.flatMap_cons, List.filter_append]
  congr 1
  unfold ofD
  rw [List.range_eq_range', Nat.sub_zero]
theorem ofP_pick (g : Gr) (l : List Itm) : ofP g l 0 (g.prods.length + 1) = pick g (· ∈ l) := by
 have e : ((List.range' 0 (g.prods.length + 1)).flatMap fun (p : Nat) => (List.range ((side g ((p : Int) - 1)).length + 1)).map fun (d : Nat) => (((p : Int) - 1, (d : Int)) : Itm)) = allI g := by
  unfold allI
  rw [List.range_eq_range']
 rw [ofP_eq g l _ 0 (by omega), e]
 refine pick_eq ((allI_lt g).sublist List.filter_sublist) fun x => ?_
 rw [List.mem_filter, mem_allI, decide_eq_true_eq]
theorem of7 (g : Gr) (hS : Snd g) (l : List Itm) (hb : l.length ≤ 100000) (p : Nat) (hp : p ≤ g.prods.length) (n : Nat) (hn : n ≤ 8) (r : List Itm → List Itm)
  (h : ∀ acc : List Itm, acc.length ≤ 20 * (p + 1) → L_ref16_Of_r3 (g.rules.map Rul.av) (g.nonts.map AV.s) (g.levels.map itemAV) (g.prods.map Prd.av) g.start (l.map itemAV) (acc.map itemAV) (p : Int) = some [its (r acc)]) :
  ∀ d, d ≤ n + 1 → ∀ acc : List Itm, acc.length ≤ 20 * p + d → L_ref16_Of_r7 (g.rules.map Rul.av) (g.nonts.map AV.s) (g.levels.map itemAV) (g.prods.map Prd.av) g.start (l.map itemAV) (acc.map itemAV) ((p : Int) - 1) (n : Int) (d : Int) = some [its (r (acc ++ ofD l ((p : Int) - 1) d (n + 1)))] := by
 have hpp := hS.prods
 have w : IntKind.wrap .i64 ((p : Int) - 1 + 1) = (p : Int) := by rw [w64 (by omega) (by omega)]; omega
 refine upTo _ ?_ fun d hd ih => ?_
 ·intro acc ha
  apply d_ref16_Of_r7
  have h1 := h acc (by omega)
  have e : ofD l ((p : Int) - 1) (n + 1) (n + 1) = [] := by unfold ofD; simp
  rw [e, List.append_nil]
  have : ¬ ((n + 1 : Nat) : Int) ≤ (n : Int) := by omega
  simp only [t_ref16_Of_r7, w, h1, this, decide_false, if_false]
  simp
 ·intro acc ha
  have hh := has2 l ((p : Int) - 1, (d : Int)) (by omega)
  simp only [itemAV] at hh
  rw [ofD_step _ _ _ _ hd]
  apply d_ref16_Of_r7
  have hd2 : (d : Int) ≤ (n : Int) := by omega
  by_cases q : ((p : Int) - 1, (d : Int)) ∈ l
  ·have h2 := ih (acc ++ [((p : Int) - 1, (d : Int))]) (by rw [List.length_append]; simp; omega)
   rw [List.map_append, List.map_cons, List.map_nil, List.append_assoc] at h2
   simp only [itemAV] at h2
   simp only [t_ref16_Of_r7, wsucc (j := d) (by omega), h2, hh, q, hd2]
   simp
   omega
  ·have h2 := ih acc (by omega)
   simp only [t_ref16_Of_r7, wsucc (j := d) (by omega), h2, hh, q, hd2]
   simp
theorem of3 (g : Gr) (hS : Snd g) (l : List Itm) (hb : l.length ≤ 100000) : ∀ p, p ≤ g.prods.length + 1 → ∀ acc : List Itm, acc.length ≤ 20 * p → L_ref16_Of_r3 (g.rules.map Rul.av) (g.nonts.map AV.s) (g.levels.map itemAV) (g.prods.map Prd.av) g.start (l.map itemAV) (acc.map itemAV) ((p : Int) - 1) = some [its (acc ++ ofP g l p (g.prods.length + 1 - p))] := by
 have hpp := hS.prods
 refine upTo _ ?_ fun p hp ih => ?_
 ·intro acc ha
  apply d_ref16_Of_r3
  rw [Nat.sub_self, ofP, List.append_nil]
  have : ¬ (((g.prods.length + 1 : Nat) : Int) - 1 < (g.prods.length : Int)) := by omega
  simp [t_ref16_Of_r3]
 ·intro acc ha
  have hl := side_len hS (p := (p : Int) - 1) (by omega) (by omega)
  have h1 := of7 g hS l hb p (by omega) (side g ((p : Int) - 1)).length hl (fun acc => acc ++ ofP g l (p + 1) (g.prods.length + 1 - (p + 1))) (fun acc ha => by
   have := ih acc ha
   rw [show ((p + 1 : Nat) : Int) - 1 = (p : Int) by omega] at this
   exact this) 0 (by omega) acc (by omega)
  obtain ⟨m, hm⟩ : ∃ m, g.prods.length + 1 - p = m + 1 := ⟨g.prods.length - p, by omega⟩
  rw [hm, ofP]
  rw [show g.prods.length + 1 - (p + 1) = m by omega, show ((0 : Nat) : Int) = 0 from rfl, List.append_assoc] at h1
  have h2 := side2 g hS ((p : Int) - 1) (by omega) (by omega)
  have hlt : (p : Int) - 1 < (g.prods.length : Int) := by omega
  apply d_ref16_Of_r3
  simp [t_ref16_Of_r3, h2, h1, hlt]
theorem of2 (g : Gr) (hS : Snd g) (l : List Itm) (hb : l.length ≤ 100000) : D ref16_Of [g.av, its l] = some [its (pick g (· ∈ l))] := by
 apply d_ref16_Of
 have := of3 g hS l hb 0 (by omega) [] (by simp)
 rw [List.nil_append, Nat.sub_zero, ofP_pick] at this
 simpa [t_ref16_Of] using this
def lack (g : Gr) (out : List Itm) : Nat := (List.range g.prods.length).countP fun (p : Nat) => !decide (((p : Int), (0 : Int)) ∈ out)
theorem countP_lt {α : Type} {p q : α → Bool} : ∀ {l : List α} {a : α}, a ∈ l → (∀ x ∈ l, q x = true → p x = true) → p a = true → q a = false → l.countP q < l.countP p
 | b :: l, a, ha, h, h1, h2 => by
  rw [List.countP_cons, List.countP_cons]
  rcases List.mem_cons.mp ha with rfl | k
  ·have := List.countP_mono_left (l := l) (p := q) (q := p) fun x hx => h x (by simp [hx])
   simp [h1, h2]
   omega
  ·have ih := countP_lt k (fun x hx => h x (by simp [hx])) h1 h2
   have hb := h b (by simp)
   by_cases q1 : q b = true
   ·simp [q1, hb q1, ih]
   ·simp [q1]
    omega
theorem lack_add {g : Gr} {out : List Itm} {p : Nat} (hp : p < g.prods.length) (h : ((p : Int), (0 : Int)) ∉ out) : lack g (out ++ [((p : Int), 0)]) < lack g out := by
 unfold lack
 refine countP_lt (List.mem_range.mpr hp) (fun x _ hx => ?_) (by simp [h]) (by simp)
 simp only [Bool.not_eq_true', decide_eq_false_iff_not, List.mem_append, not_or] at hx ⊢
 exact hx.1
structure Cr (g : Gr) (K out : List Itm) : Prop where
 ofK : ∀ x ∈ K, x ∈ out
 clo : ∀ x ∈ out, Clo g K x
 len : out.length + lack g out ≤ K.length + g.prods.length
theorem Cr.add {g : Gr} {K out : List Itm} (h : Cr g K out) {p : Nat} (hp : p < g.prods.length) (hn : ((p : Int), (0 : Int)) ∉ out) {x : Itm} (hx : x ∈ out) (h1 : nxt g x = (g.prods.getD p default).left) (h0 : nxt g x ≠ 0) : Cr g K (out ++ [((p : Int), 0)]) := by
 have := lack_add hp hn
 have hl := h.len
 refine ⟨fun y hy => List.mem_append_left _ (h.ofK y hy), fun y hy => ?_, by rw [List.length_append]; simp; omega⟩
 rcases List.mem_append.mp hy with k | k
 ·exact h.clo y k
 ·rw [List.mem_singleton] at k
  subst k
  exact (h.clo x hx).step hp h1 h0
theorem left_ne {g : Gr} (hS : Snd g) {p : Nat} (hp : p < g.prods.length) : (g.prods.getD p default).left ≠ 0 := by
 have := prd_of hS (p := (p : Int)) (by omega) (by omega)
 rw [Int.toNat_natCast] at this
 have := hS.prod _ this
 omega
section
variable (g : Gr) (hS : Snd g) (K : List Itm) (hK : ∀ x ∈ K, IsI g x) (hb : K.length ≤ 10000)
def Full (out : List Itm) (n : Nat) : Prop := ∀ p, p < n → ((p : Int), (0 : Int)) ∉ out → ∀ x ∈ out, nxt g x ≠ (g.prods.getD p default).left
include hS hK hb in
theorem cr4f (out : List Itm) (hC : Cr g K out) (hF : Full g out g.prods.length) : L_ref16_Closure_r4 (g.rules.map Rul.av) (g.nonts.map AV.s) (g.levels.map itemAV) (g.prods.map Prd.av) g.start (out.map itemAV) false = some [its (clo g K)] := by
 have hl := hC.len
 have hp := hS.prods
 have h1 := of2 g hS out (by omega)
 have e : pick g (· ∈ out) = clo g K := pick_congr fun x _ => ⟨hC.clo x, fun h => by
  induction h with
  | base h => exact hC.ofK _ h
  | @step y p hy hp hn h0 ihy =>
   have := ihy (hy.is hK)
   by_cases q : ((p : Int), (0 : Int)) ∈ out
   ·exact q
   ·exact absurd hn (hF p hp q y this)⟩
 rw [e] at h1
 apply d_ref16_Closure_r4
 simp [t_ref16_Closure_r4, h1]
include hS hK hb in
theorem cr12 (out : List Itm) (hC : Cr g K out) (more : Bool) (p : Nat) (hp : p < g.prods.length) (hn : ((p : Int), (0 : Int)) ∉ out) (r : List AV)
  (hy : ∀ x ∈ out, nxt g x = (g.prods.getD p default).left → L_ref16_Closure_r7 (g.rules.map Rul.av) (g.nonts.map AV.s) (g.levels.map itemAV) (g.prods.map Prd.av) g.start ((out ++ [((p : Int), 0)]).map itemAV) true ((p + 1 : Nat) : Int) = some r)
  (hz : (∀ x ∈ out, nxt g x ≠ (g.prods.getD p default).left) → L_ref16_Closure_r7 (g.rules.map Rul.av) (g.nonts.map AV.s) (g.levels.map itemAV) (g.prods.map Prd.av) g.start (out.map itemAV) more ((p + 1 : Nat) : Int) = some r) :
  ∀ i, i ≤ out.length → (∀ j (h : j < out.length), j < i → nxt g out[j] ≠ (g.prods.getD p default).left) → L_ref16_Closure_r12 (g.rules.map Rul.av) (g.nonts.map AV.s) (g.levels.map itemAV) (g.prods.map Prd.av) g.start (p : Int) 0 (out.map itemAV) more (p : Int) (i : Int) = some r := by
 have hl := hC.len
 have hpp := hS.prods
 refine upTo _ ?_ fun i hi ih => ?_
 ·intro hq
  have h1 := hz fun x hx => by
   obtain ⟨j, hj, rfl⟩ := List.mem_iff_getElem.mp hx
   exact hq j hj hj
  apply d_ref16_Closure_r12
  simp only [t_ref16_Closure_r12, wsucc (j := p) (by omega), h1]
  simp
 ·intro hq
  have hn2 := next2 g hS out[i] ((hC.clo _ (List.getElem_mem hi)).is hK)
  simp only [itemAV] at hn2
  apply d_ref16_Closure_r12
  by_cases q : nxt g out[i] = (g.prods.getD p default).left
  ·have h1 := hy _ (List.getElem_mem hi) q
   rw [List.map_append, List.map_cons, List.map_nil] at h1
   simp only [itemAV] at h1
   rw [List.getD_eq_getElem?_getD, List.getElem?_eq_getElem hp, Option.getD_some] at q
   simp only [t_ref16_Closure_r12, wsucc (j := p) (by omega), h1]
   simp [hi, hp, hn2, q]
   omega
  ·have h1 := ih fun j hj hji => by
    rcases Nat.lt_or_ge j i with k | k
    ·exact hq j hj k
    ·have : j = i := by omega
     subst this
     exact q
   rw [List.getD_eq_getElem?_getD, List.getElem?_eq_getElem hp, Option.getD_some] at q
   simp only [t_ref16_Closure_r12, wsucc (j := i) (by omega), h1]
   simp [hi, hp, hn2, q]
include hS hK hb in
theorem cr7 (M : Nat) (hA : ∀ out, Cr g K out → lack g out < M → L_ref16_Closure_r4 (g.rules.map Rul.av) (g.nonts.map AV.s) (g.levels.map itemAV) (g.prods.map Prd.av) g.start (out.map itemAV) true = some [its (clo g K)]) :
  ∀ p, p ≤ g.prods.length → ∀ (out : List Itm) (more : Bool), Cr g K out → (more = true → lack g out < M) → (more = false → lack g out ≤ M ∧ Full g out p) → L_ref16_Closure_r7 (g.rules.map Rul.av) (g.nonts.map AV.s) (g.levels.map itemAV) (g.prods.map Prd.av) g.start (out.map itemAV) more (p : Int) = some [its (clo g K)] := by
 have hpp := hS.prods
 refine upTo _ ?_ fun p hp ih => ?_
 ·intro out more hC h1 h2
  apply d_ref16_Closure_r7
  cases more with
  | true => simp [t_ref16_Closure_r7, hA out hC (h1 rfl)]
  | false => simp [t_ref16_Closure_r7, cr4f g hS K hK hb out hC (h2 rfl).2]
 ·intro out more hC h1 h2
  have hl := hC.len
  have hh := has2 out ((p : Int), 0) (by omega)
  simp only [itemAV] at hh
  apply d_ref16_Closure_r7
  by_cases q : ((p : Int), (0 : Int)) ∈ out
  ·have h3 := ih out more hC h1 fun hm => ⟨(h2 hm).1, fun p' hp' hn x hx => by
    rcases Nat.lt_or_ge p' p with k | k
    ·exact (h2 hm).2 p' k hn x hx
    ·have : p' = p := by omega
     subst this
     exact absurd q hn⟩
   simp only [t_ref16_Closure_r7, wsucc (j := p) (by omega), h3, hh]
   simp [hp, q]
  ·have h3 := cr12 g hS K hK hb out hC more p hp q [its (clo g K)] (fun x hx hxn => by
    refine ih _ true (hC.add hp q hx hxn (by rw [hxn]; exact left_ne hS hp)) (fun _ => ?_) (fun h => by cases h)
    have h4 := lack_add hp q
    cases more with
    | true => have := h1 rfl; omega
    | false => have := (h2 rfl).1; omega) (fun hno => ih out more hC h1 fun hm => ⟨(h2 hm).1, fun p' hp' hn x hx => by
    rcases Nat.lt_or_ge p' p with k | k
    ·exact (h2 hm).2 p' k hn x hx
    ·have : p' = p := by omega
     subst this
     exact hno x hx⟩) 0 (by omega) (fun j _ h => by omega)
   rw [show ((0 : Nat) : Int) = 0 from rfl] at h3
   simp only [t_ref16_Closure_r7, h3, hh]
   simp [hp, q]
include hS hK hb in
theorem cr4 : ∀ M out, Cr g K out → lack g out < M → L_ref16_Closure_r4 (g.rules.map Rul.av) (g.nonts.map AV.s) (g.levels.map itemAV) (g.prods.map Prd.av) g.start (out.map itemAV) true = some [its (clo g K)] := by
 intro M
 induction M with
 | zero => intro out _ h; omega
 | succ M ih =>
  intro out hC h
  have h1 := cr7 g hS K hK hb M ih 0 (by omega) out false hC (fun h => by cases h) fun _ => ⟨by omega, fun p hp => by omega⟩
  rw [show ((0 : Nat) : Int) = 0 from rfl] at h1
  apply d_ref16_Closure_r4
  simp [t_ref16_Closure_r4, h1]
include hS hK hb in
theorem closure2 : D ref16_Closure [g.av, its K] = some [its (clo g K)] := by
 have h0 : lack g K ≤ g.prods.length := by
  unfold lack
  refine Nat.le_trans List.countP_le_length ?_
  rw [List.length_range]
  exact Nat.le_refl _
 have h1 := cr4 g hS K hK hb (lack g K + 1) K ⟨fun x h => h, fun x h => .base h, by omega⟩ (by omega)
 apply d_ref16_Closure
 simp [t_ref16_Closure, h1]
 omega
include hS in
theorem goto4 (s : Int) (l : List Itm) (hl : ∀ x ∈ l, IsI g x) (hb : l.length ≤ 10000) : ∀ j, j ≤ l.length → ∀ acc : List Itm, acc.length ≤ j → 
  L_ref16_Goto_r4 (g.rules.map Rul.av) (g.nonts.map AV.s) (g.levels.map itemAV) (g.prods.map Prd.av) g.start s (acc.map itemAV) (l.map itemAV) (j : Int) = some [its (pick g (· ∈ acc ++ if 0 < s then onI g s (l.drop j) else []))] := by
 refine upTo _ ?_ fun j hj ih => ?_
 ·intro acc ha
  have h1 := of2 g hS acc (by omega)
  have e : (acc ++ if 0 < s then onI g s (l.drop l.length) else []) = acc := by simp [onI]
  rw [e]
  apply d_ref16_Goto_r4
  simp [t_ref16_Goto_r4, h1]
 ·intro acc ha
  have hd : l.drop j = l[j] :: l.drop (j + 1) := List.drop_eq_getElem_cons hj
  have hx := hl _ (List.getElem_mem hj)
  have hn := next2 g hS l[j] hx
  simp only [itemAV] at hn
  have hdot := side_dot hS hx
  have hdot0 := hx.2.2.1
  have w : IntKind.wrap .i64 (l[j].2 + 1) = l[j].2 + 1 := w64 (by omega) (by omega)
  rw [hd, onI]
  apply d_ref16_Goto_r4
  by_cases h0 : 0 < s
  ·simp only [if_pos h0] at ih ⊢
   by_cases q : nxt g l[j] = s
   ·have h2 := ih (acc ++ [(l[j].1, l[j].2 + 1)]) (by rw [List.length_append]; simp; omega)
    rw [List.append_assoc, List.map_append, List.map_cons, List.map_nil] at h2
    simp only [itemAV, List.singleton_append] at h2
    rw [if_pos ⟨by omega, q⟩]
    simp only [t_ref16_Goto_r4, wsucc (j := j) (by omega)]
    simp only [List.getD_eq_getElem?_getD, List.getElem?_map, Int.toNat_natCast, o_1, o_2, List.getElem?_eq_getElem hj, Option.getD_some, w, h2, hn, Option.bind_some, List.headD_cons, int_i]
    have hl : acc.length ≤ 16777215 := by omega
    simp [hj, q, h0, hl]
   ·rw [if_neg fun h => q h.2]
    have h2 := ih acc (by omega)
    simp only [t_ref16_Goto_r4, wsucc (j := j) (by omega)]
    simp only [List.getD_eq_getElem?_getD, List.getElem?_map, Int.toNat_natCast, o_1, o_2, List.getElem?_eq_getElem hj, Option.getD_some, w, h2, hn, Option.bind_some, List.headD_cons, int_i]
    simp [hj, q, h0]
  ·simp only [if_neg h0] at ih ⊢
   have h2 := ih acc (by omega)
   simp only [t_ref16_Goto_r4, wsucc (j := j) (by omega), h2]
   simp [hj, h0]
end
theorem Goto2 (g : Gr) (hS : Snd g) (K : List Itm) (hK : ∀ x ∈ K, IsI g x) (hb : K.length ≤ 10000) (s : Int) (hs : 0 < s) : D ref16_Goto [g.av, its K, .i .i64 s] = some [its (gto g K s)] := by
 have h2 := closure2 g hS K hK hb
 have h4 := goto4 g hS s (clo g K) clo_is (Nat.le_trans (pick_len hS _) (by omega)) 0 (by omega) [] (by simp)
 rw [List.drop_zero, List.nil_append, if_pos hs, show ((0 : Nat) : Int) = 0 from rfl] at h4
 have e : pick g (· ∈ onI g s (clo g K)) = gto g K s := by
  rw [← srt_on K hK]
  refine (srt_pick fun x => ⟨fun h => ⟨?_, h⟩, fun h => h.2⟩).symm
  rw [mem_onI] at h
  obtain ⟨y, hy, h1, _, rfl⟩ := h
  exact (clo_is y hy).succ h1
 rw [e] at h4
 apply d_ref16_Goto
 simp at h4
 simp [t_ref16_Goto, h2, h4]
end Go.Proofs.YteklakapimggeaaGreatDoor.Den
