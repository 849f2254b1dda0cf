/- Proved here: what RegexRight computes is true of any cells. No condition but that the slice is no longer than a machine can hold. -/
import Derived.Test.YtkabcjchgaokoaaGRxx19
namespace Go.Proofs.Ytkabcjchgaokoaa.Pure
open Go.RowKit Go.Proofs.Ytkabcjchgaokoaa.PRx Go.Proofs.YtkabcjchgaokoaaW.PrintWords Go.Proofs.YtkabcjchgaokoaaW.PrintLast
set_option linter.unusedVariables false
set_option linter.unusedSimpArgs false

/-! #### RegexRight -/
def wnt (o : Int) : Int := if o = 1 ∨ o = 2 then 0 else if o = 5 ∨ o = 6 ∨ o = 7 then 1 else if o = 3 ∨ o = 4 then 2 else -1
theorem wr {x : Int} (h0 : -9223372036854775808 ≤ x) (h1 : x ≤ 9223372036854775807) : wrap64 x = x := by
  unfold wrap64
  omega
theorem wants_f (o : Int) (k : Nat) : regex_wants.f (k + 3) o = some (wnt o) := by
  simp only [regex_wants.f, regex_wants.j0, regex_wants.j1, wnt]
  by_cases h1 : o = 1
  · simp [h1]
  · by_cases h2 : o = 2
    · simp [h2]
    · by_cases h5 : o = 5
      · simp [h5]
      · by_cases h6 : o = 6
        · simp [h6]
        · by_cases h7 : o = 7
          · simp [h7]
          · by_cases h3 : o = 3
            · simp [h3]
            · by_cases h4 : o = 4
              · simp [h4]
              · simp [h1, h2, h3, h4, h5, h6, h7]
theorem refwants_f (o : Int) (k : Nat) : topiaryref06_Wants.f (k + 3) o = some (wnt o) := by
  simp only [topiaryref06_Wants.f, topiaryref06_Wants.j0, topiaryref06_Wants.j1, wnt]
  by_cases h1 : o = 1
  · simp [h1]
  · by_cases h2 : o = 2
    · simp [h2]
    · by_cases h3 : o = 3
      · simp [h3]
      · by_cases h4 : o = 4
        · simp [h4]
        · by_cases h5 : 5 ≤ o
          · by_cases h7 : o ≤ 7
            · have : o = 5 ∨ o = 6 ∨ o = 7 := by omega
              simp [h1, h2, h3, h4, h5, h7, this]
            · have : ¬ (o = 5 ∨ o = 6 ∨ o = 7) := by omega
              simp [h1, h2, h3, h4, h5, h7, this]
          · have : ¬ (o = 5 ∨ o = 6 ∨ o = 7) := by omega
            simp [h1, h2, h3, h4, h5, this]
theorem wnt_le (o : Int) : -1 ≤ wnt o ∧ wnt o ≤ 2 := by unfold wnt; split <;> (try split) <;> (try split) <;> omega
/-- Is the set empty? -/
def noset (c : S32) : Bool := c.f1.f0 == 0 && (c.f1.f1 == 0 && (c.f1.f2 == 0 && c.f1.f3 == 0))
def rl : List S32 → Int → Bool
  | [], d => d == 1
  | c :: t, d => if wnt c.f0 < 0 then false else if wnt c.f0 > d then false else if noset c == (c.f0 == 1) then false else rl t (d + 1 - wnt c.f0)
theorem rd_mid (pre : List S32) (c : S32) (t : List S32) : rd_T32 (pre ++ c :: t) (pre.length : Int) = c := by
  simp [rd_T32, List.getD]
theorem right_l0 : ∀ (t pre : List S32) (d : Int) (k : Nat), pre.length + t.length ≤ 60 → 0 ≤ d → d ≤ pre.length → t.length + 5 ≤ k →
    regex_Right.l0 k d (pre ++ t) ((pre ++ t).length : Int) (pre.length : Int) = some (rl t d) := by
  intro t
  induction t with
  | nil =>
    intro pre d k h0 h1 h2 h3
    obtain ⟨k, rfl⟩ : ∃ m, k = m + 1 := ⟨k - 1, by omega⟩
    simp only [regex_Right.l0, List.append_nil, rl]
    rw [if_neg (by omega)]
  | cons c t ih =>
    intro pre d k h0 h1 h2 h3
    simp only [List.length_cons] at h0 h3
    obtain ⟨k, rfl⟩ : ∃ m, k = m + 1 := ⟨k - 1, by omega⟩
    obtain ⟨k', rfl⟩ : ∃ m, k = m + 3 := ⟨k - 3, by omega⟩
    have hl : (pre.length : Int) < ((pre ++ c :: t).length : Int) := by simp; omega
    rw [regex_Right.l0]
    rw [if_pos hl, if_pos (by omega), if_pos hl, rd_mid, wants_f, Option.bind_some, rl]
    have hw := wnt_le c.f0
    by_cases e1 : wnt c.f0 < 0
    · rw [if_pos e1, if_pos e1]
    · rw [if_neg e1, if_neg e1]
      by_cases e2 : wnt c.f0 > d
      · rw [if_pos e2, if_pos e2]
      · rw [if_neg e2, if_neg e2]
        have hx : ((c.f0 == 1) != (!(c.f1.f0 == 0) || (!(c.f1.f1 == 0) || (!(c.f1.f2 == 0) || !(c.f1.f3 == 0))))) = (noset c == (c.f0 == 1)) := by
          unfold noset
          generalize (c.f0 == 1) = a
          generalize (c.f1.f0 == 0) = b0
          generalize (c.f1.f1 == 0) = b1
          generalize (c.f1.f2 == 0) = b2
          generalize (c.f1.f3 == 0) = b3
          cases a <;> cases b0 <;> cases b1 <;> cases b2 <;> cases b3 <;> rfl
        rw [hx]
        by_cases e3 : (noset c == (c.f0 == 1)) = true
        · rw [if_pos e3, if_pos e3]
        · rw [if_neg e3, if_neg e3]
          have := ih (pre ++ [c]) (d + 1 - wnt c.f0) (k' + 3) (by simp; omega) (by omega) (by simp; omega) (by omega)
          rw [List.append_assoc, List.singleton_append] at this
          rw [wr (x := 1 - wnt c.f0) (by omega) (by omega), wr (by omega) (by omega), wr (by omega) (by omega), show d + (1 - wnt c.f0) = d + 1 - wnt c.f0 by omega, ← this]
          congr 1
          simp
theorem refright_l0 : ∀ (t pre : List S32) (d : Int) (k : Nat), pre.length + t.length ≤ 60 → 0 ≤ d → d ≤ pre.length → t.length + 5 ≤ k →
    topiaryref06_Right.l0 k (pre ++ t) d (pre.length : Int) = some (rl t d) := by
  intro t
  induction t with
  | nil =>
    intro pre d k h0 h1 h2 h3
    obtain ⟨k, rfl⟩ : ∃ m, k = m + 1 := ⟨k - 1, by omega⟩
    simp only [topiaryref06_Right.l0, List.append_nil, rl]
    rw [if_neg (by omega)]
  | cons c t ih =>
    intro pre d k h0 h1 h2 h3
    simp only [List.length_cons] at h0 h3
    obtain ⟨k, rfl⟩ : ∃ m, k = m + 1 := ⟨k - 1, by omega⟩
    obtain ⟨k', rfl⟩ : ∃ m, k = m + 3 := ⟨k - 3, by omega⟩
    have hl : (pre.length : Int) < ((pre ++ c :: t).length : Int) := by simp; omega
    rw [topiaryref06_Right.l0]
    rw [if_pos hl, if_pos (by omega), rd_mid, refwants_f, Option.bind_some, rl]
    have hw := wnt_le c.f0
    by_cases e1 : wnt c.f0 < 0
    · rw [if_pos e1, if_pos e1]
    · rw [if_neg e1, if_neg e1]
      by_cases e2 : wnt c.f0 > d
      · simp only [gt_iff_lt, show (d < wnt c.f0) = True from eq_true e2, if_true]
      · simp only [gt_iff_lt, show (d < wnt c.f0) = False from eq_false e2, if_false]
        have hx : (((c.f1.f0 == 0) && ((c.f1.f1 == 0) && ((c.f1.f2 == 0) && (c.f1.f3 == 0)))) == (c.f0 == 1)) = (noset c == (c.f0 == 1)) := rfl
        rw [hx]
        by_cases e3 : (noset c == (c.f0 == 1)) = true
        · rw [if_pos e3, if_pos e3]
        · rw [if_neg e3, if_neg e3]
          have := ih (pre ++ [c]) (d + 1 - wnt c.f0) (k' + 3) (by simp; omega) (by omega) (by simp; omega) (by omega)
          rw [List.append_assoc, List.singleton_append] at this
          rw [wr (x := d - wnt c.f0) (by omega) (by omega), wr (by omega) (by omega), wr (by omega) (by omega), show d - wnt c.f0 + 1 = d + 1 - wnt c.f0 by omega, ← this]
          congr 1
          simp
def rightOf (l : List S32) : Bool := if l.length = 0 then false else if 60 < l.length then false else rl l 0
theorem right_f (l : List S32) (k : Nat) : regex_Right.f (k + 100) l = some (rightOf l) := by
  unfold regex_Right.f rightOf
  by_cases h0 : l.length = 0
  · rw [if_pos (by omega), if_pos h0]; simp [regex_Right.j0]
  · rw [if_neg (by omega), if_neg h0]
    by_cases h1 : 60 < l.length
    · rw [if_pos h1]; simp [regex_Right.j0, show ((60 : Int) < (l.length : Int)) by omega]
    · rw [if_neg h1]
      have := right_l0 l [] 0 (k + 99) (by simp; omega) (by omega) (by simp) (by omega)
      simp only [List.nil_append, List.length_nil] at this
      simp [regex_Right.j0, show ¬ ((60 : Int) < (l.length : Int)) by omega]
      exact this
theorem refright_f (l : List S32) (k : Nat) : topiaryref06_Right.f (k + 100) l = some (rightOf l) := by
  unfold topiaryref06_Right.f rightOf
  by_cases h0 : l.length = 0
  · rw [if_pos (by omega), if_pos h0]; simp [topiaryref06_Right.j0]
  · rw [if_neg (by omega), if_neg h0]
    by_cases h1 : 60 < l.length
    · rw [if_pos h1]; simp [topiaryref06_Right.j0, show ((60 : Int) < (l.length : Int)) by omega]
    · rw [if_neg h1]
      have := refright_l0 l [] 0 (k + 99) (by simp; omega) (by omega) (by simp) (by omega)
      simp only [List.nil_append, List.length_nil] at this
      simp [topiaryref06_Right.j0, show ¬ ((60 : Int) < (l.length : Int)) by omega]
      exact this
/-! #### where a rule begins -/
/-- The rule that ends at e begins at s: a way of From's loop. -/
def Froms (l : List S32) (e s : Int) : Prop := s ≤ e ∧ ∀ need r, 1 ≤ need → need + e ≤ 1000 → Ev (fun k => topiaryref06_From.l0 k l (need - 1) (s - 1)) r → Ev (fun k => topiaryref06_From.l0 k l need e) r
theorem froms_step (l : List S32) (e : Int) (he0 : 0 ≤ e) (he1 : e < (l.length : Int)) (hl : l.length ≤ 60) (w : Int) (hw : wnt (rd_T32 l e).f0 = w) (hw0 : 0 ≤ w) (need : Int) (r : Int) (h1 : 1 ≤ need) (h2 : need + e ≤ 1000)
    (h : Ev (fun k => topiaryref06_From.l0 k l (need - 1 + w) (e - 1)) r) : Ev (fun k => topiaryref06_From.l0 k l need e) r := by
  obtain ⟨K, hK⟩ := h
  refine ⟨K + 4, fun k hk => ?_⟩
  obtain ⟨k, rfl⟩ : ∃ m, k = m + 4 := ⟨k - 4, by omega⟩
  have hw2 := wnt_le (rd_T32 l e).f0
  show topiaryref06_From.l0 (k + 3 + 1) l need e = some r
  rw [topiaryref06_From.l0]
  rw [if_pos (by omega), if_pos he0, if_pos he1, refwants_f, Option.bind_some, hw, wr (x := need - 1) (by omega) (by omega), wr (by omega) (by omega), wr (by omega) (by omega)]
  exact hK _ (by omega)
theorem froms0 (l : List S32) (e : Int) (he0 : 0 ≤ e) (he1 : e < (l.length : Int)) (hl : l.length ≤ 60) (hw : wnt (rd_T32 l e).f0 = 0) : Froms l e e := by
  refine ⟨Int.le_refl _, fun need r h1 h2 h => ?_⟩
  refine froms_step l e he0 he1 hl 0 hw (by omega) need r h1 h2 ?_
  rwa [Int.add_zero]
theorem froms1 (l : List S32) (e s : Int) (he0 : 0 ≤ e) (he1 : e < (l.length : Int)) (hl : l.length ≤ 60) (hw : wnt (rd_T32 l e).f0 = 1) (hs : Froms l (e - 1) s) : Froms l e s := by
  refine ⟨by have := hs.1; omega, fun need r h1 h2 h => ?_⟩
  refine froms_step l e he0 he1 hl 1 hw (by omega) need r h1 h2 ?_
  rw [show need - 1 + 1 = need by omega]
  exact hs.2 need r h1 (by omega) h
theorem froms2 (l : List S32) (e s t : Int) (he0 : 0 ≤ e) (he1 : e < (l.length : Int)) (hl : l.length ≤ 60) (hw : wnt (rd_T32 l e).f0 = 2) (hs : Froms l (e - 1) s) (ht : Froms l (s - 1) t) : Froms l e t := by
  have a1 := hs.1
  have a2 := ht.1
  refine ⟨by omega, fun need r h1 h2 h => ?_⟩
  refine froms_step l e he0 he1 hl 2 hw (by omega) need r h1 h2 ?_
  refine hs.2 _ r (by omega) (by omega) ?_
  rw [show need - 1 + 2 - 1 = need by omega]
  exact ht.2 need r h1 (by omega) h
theorem froms_from (l : List S32) (e s : Int) (he1 : e < (l.length : Int)) (hl : l.length ≤ 60) (hs0 : 0 ≤ s) (hs : Froms l e s) : Ev (fun k => topiaryref06_From.f k l e) s := by
  have a1 := hs.1
  refine hs.2 1 s (by omega) (by omega) ⟨1, fun k hk => ?_⟩
  obtain ⟨k, rfl⟩ : ∃ m, k = m + 1 := ⟨k - 1, by omega⟩
  simp only [topiaryref06_From.l0]
  rw [if_neg (by omega), wr (by omega) (by omega), show s - 1 + 1 = s by omega]
/-! #### does it fit the empty text? -/
def Emp (l : List S32) (e : Int) (b : Bool) : Prop := Ev (fun k => topiaryref06_Empty.f k l e) b
/-- The stack (its top first) of rules that end one behind the other, the last one at e. -/
inductive Inv (l : List S32) : List Bool → Int → Prop
  | nil : Inv l [] (-1)
  | cons {st : List Bool} {b : Bool} {s e : Int} : 0 ≤ s → Inv l st (s - 1) → Froms l e s → Emp l e b → Inv l (b :: st) e
theorem Inv.inv {l : List S32} {r : List Bool} {e : Int} (h : Inv l r e) : r = [] ∨ ∃ st b s, r = b :: st ∧ 0 ≤ s ∧ Inv l st (s - 1) ∧ Froms l e s ∧ Emp l e b := by
  cases h with
  | nil => exact .inl rfl
  | cons h1 h2 h3 h4 => exact .inr ⟨_, _, _, rfl, h1, h2, h3, h4⟩
theorem emp_open (l : List S32) (e : Int) (he0 : 0 ≤ e) (he1 : e < (l.length : Int)) (b : Bool)
    (h : Ev (fun k => topiaryref06_Empty.j0 k l e (rd_T32 l e).f0 ((rd_T32 l e).f0 == 2 || (rd_T32 l e).f0 == 5 || (rd_T32 l e).f0 == 7)) b) : Emp l e b := by
  obtain ⟨K, hK⟩ := h
  refine ⟨K + 1, fun k hk => ?_⟩
  obtain ⟨k, rfl⟩ : ∃ m, k = m + 1 := ⟨k - 1, by omega⟩
  have := hK k (by omega)
  simp only [topiaryref06_Empty.f]
  rw [if_pos he0, if_pos he1]
  by_cases h2 : (rd_T32 l e).f0 = 2
  · rw [if_pos h2]
    simpa [h2] using this
  · rw [if_neg h2]
    by_cases h5 : (rd_T32 l e).f0 = 5
    · rw [if_pos h5]
      simpa [h5] using this
    · rw [if_neg h5]
      simpa [beq_eq_false_iff_ne.mpr h2, beq_eq_false_iff_ne.mpr h5] using this
theorem emp_true (l : List S32) (e : Int) (he0 : 0 ≤ e) (he1 : e < (l.length : Int)) (h : (rd_T32 l e).f0 = 2 ∨ (rd_T32 l e).f0 = 5 ∨ (rd_T32 l e).f0 = 7) : Emp l e true := by
  refine emp_open l e he0 he1 true ⟨1, fun k hk => ?_⟩
  obtain ⟨k, rfl⟩ : ∃ m, k = m + 1 := ⟨k - 1, by omega⟩
  simp only [topiaryref06_Empty.j0]
  rcases h with h | h | h <;> simp [h]
theorem emp_false (l : List S32) (e : Int) (he0 : 0 ≤ e) (he1 : e < (l.length : Int)) (h : (rd_T32 l e).f0 = 1) : Emp l e false := by
  refine emp_open l e he0 he1 false ⟨1, fun k hk => ?_⟩
  obtain ⟨k, rfl⟩ : ∃ m, k = m + 1 := ⟨k - 1, by omega⟩
  simp only [topiaryref06_Empty.j0]
  simp [h]
theorem emp_one (l : List S32) (e : Int) (b : Bool) (hl : l.length ≤ 60) (he0 : 0 ≤ e) (he1 : e < (l.length : Int)) (h : (rd_T32 l e).f0 = 6) (hb : Emp l (e - 1) b) : Emp l e b := by
  obtain ⟨K, hK⟩ := hb
  refine emp_open l e he0 he1 b ⟨K + 1, fun k hk => ?_⟩
  obtain ⟨k, rfl⟩ : ∃ m, k = m + 1 := ⟨k - 1, by omega⟩
  have := hK k (by omega)
  simp only [topiaryref06_Empty.j0, h]
  rw [wr (by omega) (by omega)]
  simp [this]
theorem emp_cat (l : List S32) (e s : Int) (a b : Bool) (hl : l.length ≤ 60) (he0 : 0 ≤ e) (he1 : e < (l.length : Int)) (h : (rd_T32 l e).f0 = 3) (hb : Emp l (e - 1) b) (hs0 : 0 ≤ s) (hs : Froms l (e - 1) s) (ha : Emp l (s - 1) a) : Emp l e (a && b) := by
  obtain ⟨K, hK⟩ := hb
  obtain ⟨K2, hK2⟩ := ha
  obtain ⟨K3, hK3⟩ := froms_from l (e - 1) s (by omega) hl hs0 hs
  have := hs.1
  refine emp_open l e he0 he1 _ ⟨K + K2 + K3 + 1, fun k hk => ?_⟩
  obtain ⟨k, rfl⟩ : ∃ m, k = m + 1 := ⟨k - 1, by omega⟩
  have a1 := hK k (by omega)
  have a2 := hK2 k (by omega)
  have a3 := hK3 k (by omega)
  simp only at a1 a2 a3
  simp only [topiaryref06_Empty.j0, h]
  rw [wr (by omega) (by omega)]
  simp only [a1, a3, Option.bind_some]
  rw [wr (x := s - 1) (by omega) (by omega)]
  cases b <;> simp [a2]
theorem emp_or (l : List S32) (e s : Int) (a b : Bool) (hl : l.length ≤ 60) (he0 : 0 ≤ e) (he1 : e < (l.length : Int)) (h : (rd_T32 l e).f0 = 4) (hb : Emp l (e - 1) b) (hs0 : 0 ≤ s) (hs : Froms l (e - 1) s) (ha : Emp l (s - 1) a) : Emp l e (a || b) := by
  obtain ⟨K, hK⟩ := hb
  obtain ⟨K2, hK2⟩ := ha
  obtain ⟨K3, hK3⟩ := froms_from l (e - 1) s (by omega) hl hs0 hs
  have := hs.1
  refine emp_open l e he0 he1 _ ⟨K + K2 + K3 + 1, fun k hk => ?_⟩
  obtain ⟨k, rfl⟩ : ∃ m, k = m + 1 := ⟨k - 1, by omega⟩
  have a1 := hK k (by omega)
  have a2 := hK2 k (by omega)
  have a3 := hK3 k (by omega)
  simp only at a1 a2 a3
  simp only [topiaryref06_Empty.j0, h]
  rw [wr (by omega) (by omega)]
  simp only [a1, a3, Option.bind_some]
  rw [wr (x := s - 1) (by omega) (by omega)]
  cases b <;> simp [a2]
/-! #### the stack -/
theorem null_l0 (l : List S32) (hl : l.length ≤ 60) : ∀ (t pre : List S32) (r : List Bool), pre ++ t = l → Inv l r ((pre.length : Int) - 1) → r.length ≤ pre.length → rl t (r.length : Int) = true →
    ∃ b, Emp l ((l.length : Int) - 1) b ∧ Ev (fun k => regex_Null.l0 k l r.reverse (pre.length : Int)) b := by
  intro t
  induction t with
  | nil =>
    intro pre r e hi hr h
    simp only [List.append_nil] at e
    subst e
    simp only [rl, beq_iff_eq] at h
    rcases hi.inv with rfl | ⟨st, b, s, rfl, hs, hi, hf, he⟩
    · simp at h
    · have : st = [] := by cases st with | nil => rfl | cons _ _ => simp at h; omega
      subst this
      refine ⟨b, he, 1, fun k hk => ?_⟩
      obtain ⟨k, rfl⟩ : ∃ m, k = m + 1 := ⟨k - 1, by omega⟩
      simp only [regex_Null.l0]
      rw [if_neg (by omega)]
      simp
  | cons c t ih =>
    intro pre r e hi hr h
    have hlen : pre.length + (t.length + 1) = l.length := by rw [← e]; simp
    have hc : rd_T32 l (pre.length : Int) = c := by rw [← e]; exact rd_mid pre c t
    have he1 : (pre.length : Int) < (l.length : Int) := by omega
    simp only [rl] at h
    have hw := wnt_le c.f0
    by_cases e1 : wnt c.f0 < 0
    · rw [if_pos e1] at h; cases h
    · rw [if_neg e1] at h
      by_cases e2 : wnt c.f0 > (r.length : Int)
      · rw [if_pos e2] at h; cases h
      · rw [if_neg e2] at h
        by_cases e3 : (noset c == (c.f0 == 1)) = true
        · rw [if_pos e3] at h; cases h
        · rw [if_neg e3] at h
          have key : ∀ r', (r'.length : Int) = (r.length : Int) + 1 - wnt c.f0 → Inv l r' (pre.length : Int) → regex_Null.step r.reverse c.f0 = some r'.reverse →
              ∃ b, Emp l ((l.length : Int) - 1) b ∧ Ev (fun k => regex_Null.l0 k l r.reverse (pre.length : Int)) b := by
            intro r' h1 h2 h3
            obtain ⟨b, hb, K, hK⟩ := ih (pre ++ [c]) r' (by rw [List.append_assoc, List.singleton_append]; exact e) (by rw [List.length_append, List.length_singleton]; rw [show ((pre.length + 1 : Nat) : Int) - 1 = (pre.length : Int) by omega]; exact h2) (by simp; omega) (by rw [h1]; exact h)
            refine ⟨b, hb, K + 1, fun k hk => ?_⟩
            obtain ⟨k, rfl⟩ : ∃ m, k = m + 1 := ⟨k - 1, by omega⟩
            have := hK k (by omega)
            simp only [regex_Null.l0]
            rw [if_pos he1, if_pos ⟨by omega, by simp; omega⟩, hc, h3, Option.bind_some]
            rw [← this]
            congr 1
            simp
          have hf0 : ∀ o, wnt o = 0 → o = 1 ∨ o = 2 := by intro o ho; unfold wnt at ho; split at ho <;> (try split at ho) <;> (try split at ho) <;> omega
          have hf1 : ∀ o, wnt o = 1 → o = 5 ∨ o = 6 ∨ o = 7 := by intro o ho; unfold wnt at ho; split at ho <;> (try split at ho) <;> (try split at ho) <;> omega
          have hf2 : ∀ o, wnt o = 2 → o = 3 ∨ o = 4 := by intro o ho; unfold wnt at ho; split at ho <;> (try split at ho) <;> (try split at ho) <;> omega
          have hcases : wnt c.f0 = 0 ∨ wnt c.f0 = 1 ∨ wnt c.f0 = 2 := by omega
          rcases hcases with w0 | w1 | w2
          · have fr : Froms l (pre.length : Int) (pre.length : Int) := froms0 l _ (by omega) he1 hl (by rw [hc]; exact w0)
            rcases hf0 _ w0 with o | o
            · refine key (false :: r) (by simp; omega) (.cons (by omega) hi fr (emp_false l _ (by omega) he1 (by rw [hc]; exact o))) ?_
              simp [regex_Null.step, o]
            · refine key (true :: r) (by simp; omega) (.cons (by omega) hi fr (emp_true l _ (by omega) he1 (by rw [hc]; exact .inl o))) ?_
              simp [regex_Null.step, o]
          · rcases hi.inv with rfl | ⟨st, b, s, rfl, hs, hi, hf, he⟩
            · simp at e2; omega
            · skip
              have fr : Froms l (pre.length : Int) s := froms1 l _ s (by omega) he1 hl (by rw [hc]; exact w1) hf
              rcases hf1 _ w1 with o | o | o
              · refine key (true :: st) (by simp; omega) (.cons hs hi fr (emp_true l _ (by omega) he1 (by rw [hc]; exact .inr (.inl o)))) ?_
                simp [regex_Null.step, o]
              · refine key (b :: st) (by simp; omega) (.cons hs hi fr (emp_one l _ b hl (by omega) he1 (by rw [hc]; exact o) he)) ?_
                simp [regex_Null.step, o]
              · refine key (true :: st) (by simp; omega) (.cons hs hi fr (emp_true l _ (by omega) he1 (by rw [hc]; exact .inr (.inr o)))) ?_
                simp [regex_Null.step, o]
          · rcases hi.inv with rfl | ⟨st, b, s, rfl, hs, hi, hf, he⟩
            · simp at e2; omega
            · skip
              rcases hi.inv with rfl | ⟨st', a, s', rfl, hs', hi', hf', he'⟩
              · simp at e2; omega
              · skip
                have fr : Froms l (pre.length : Int) s' := froms2 l _ s s' (by omega) he1 hl (by rw [hc]; exact w2) hf hf'
                rcases hf2 _ w2 with o | o
                · refine key ((a && b) :: st') (by simp; omega) (.cons hs' hi' fr (emp_cat l _ s a b hl (by omega) he1 (by rw [hc]; exact o) he hs hf he')) ?_
                  simp [regex_Null.step, o]
                · refine key ((a || b) :: st') (by simp; omega) (.cons hs' hi' fr (emp_or l _ s a b hl (by omega) he1 (by rw [hc]; exact o) he hs hf he')) ?_
                  simp [regex_Null.step, o]
theorem wakes_f : ∃ k, topiarylaw06_wakes.f k = some true := ⟨200, by decide +kernel⟩
theorem null_same (l : List S32) (hr : rightOf l = true) : ∃ b, Emp l ((l.length : Int) - 1) b ∧ Ev (fun k => regex_Null.l0 k l [] 0) b := by
  unfold rightOf at hr
  by_cases h0 : l.length = 0
  · rw [if_pos h0] at hr; cases hr
  · rw [if_neg h0] at hr
    by_cases h1 : 60 < l.length
    · rw [if_pos h1] at hr; cases hr
    · rw [if_neg h1] at hr
      have := null_l0 l (by omega) l [] [] rfl (by simpa using Inv.nil) (by simp) (by simpa using hr)
      simpa using this
theorem law (l0 : List S32) (w : l0.length * 40 ≤ 140737488351232) : ∃ k, topiarylaw06_RegexRight.f k l0 = some true := by
  obtain ⟨k0, hk0⟩ := wakes_f
  have hwk : ∀ k, k0 ≤ k → topiarylaw06_wakes.f k = some true := fun k hk => at_rounds (fun k => topiarylaw06_wakes.mono k) hk hk0
  have hcp : topiarylaw06_copied.f l0 = some l0 := by
    simp only [topiarylaw06_copied.f, Option.bind_some, List.length_nil, List.nil_append]
    rw [if_pos (by omega)]
  have fin : ∀ K b, (∀ k, K ≤ k → regex_Null.f (k + 100) l0 = some b) → (∀ k, K ≤ k → topiaryref06_Null.f (k + 100) l0 = some b) → ∃ k, topiarylaw06_RegexRight.f k l0 = some true := by
    intro K b h1 h2
    refine ⟨k0 + K + 100, ?_⟩
    unfold topiarylaw06_RegexRight.f
    rw [hwk _ (by omega), Option.bind_some, if_pos rfl, hcp]
    simp only [Option.bind_some]
    rw [right_f, Option.bind_some, refright_f, Option.bind_some, h1 _ (by omega), Option.bind_some, h2 _ (by omega)]
    simp
  by_cases hr : rightOf l0 = true
  · obtain ⟨b, ⟨K1, hK1⟩, K2, hK2⟩ := null_same l0 hr
    have hlen : l0.length ≤ 60 := by
      by_cases h : l0.length ≤ 60
      · exact h
      · have : rightOf l0 = false := by unfold rightOf; rw [if_neg (by omega), if_pos (by omega)]
        rw [this] at hr; cases hr
    have hlen0 : 1 ≤ l0.length := by
      by_cases h : 1 ≤ l0.length
      · exact h
      · have : rightOf l0 = false := by unfold rightOf; rw [if_pos (by omega)]
        rw [this] at hr; cases hr
    refine fin (K1 + K2) b (fun k hk => ?_) (fun k hk => ?_)
    · unfold regex_Null.f
      rw [right_f, hr, Option.bind_some, if_pos rfl]
      exact hK2 _ (by omega)
    · unfold topiaryref06_Null.f
      rw [refright_f, hr, Option.bind_some, if_pos rfl, wr (by omega) (by omega)]
      have := hK1 (k + 100) (by omega)
      simp only at this
      rw [this, Option.bind_some]
  · have hr' : rightOf l0 = false := by simpa using hr
    refine fin 0 false (fun k hk => ?_) (fun k hk => ?_)
    · unfold regex_Null.f
      rw [right_f, hr', Option.bind_some, if_neg (by decide)]
    · unfold topiaryref06_Null.f
      rw [refright_f, hr', Option.bind_some, if_neg (by decide)]

end Go.Proofs.Ytkabcjchgaokoaa.Pure
