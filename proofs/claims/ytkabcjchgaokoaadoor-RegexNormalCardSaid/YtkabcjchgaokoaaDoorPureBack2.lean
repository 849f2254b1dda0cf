/- Proved here: what is shown is read back. No condition but those each theorem names. -/
import Derived.Test.YtkabcjchgaokoaaDoorPureBack1
import Derived.Test.YtkabcjchgaokoaaDoorGSjx10
import Derived.Laws.Bits64b
import Derived.Laws.Bits64
namespace Go.Proofs.YtkabcjchgaokoaaDoor.Pure
open Go.RowKit Go.Proofs.YtkabcjchgaokoaaDoor.PSj Go.Proofs.YtkabcjchgaokoaaDoorW.PrintWords Go.Proofs.YtkabcjchgaokoaaDoorW.PrintLast
set_option linter.unusedVariables false
set_option linter.unusedSimpArgs false

/-! #### the stack of texts, read back -/
def Lv (q : Int) (s : ByteArray) (c : List S40) : Prop := if q = 1 then RowsR s c else if q = 2 then RowR s c else PieceR s c
theorem Lv.down {q p : Int} {s : ByteArray} {c : List S40} (h : Lv q s c) (hp : p = 1 ∨ p = 2 ∨ p = 3) (hqp : p ≤ q) : Lv p s c := by
  unfold Lv at *
  rcases hp with rfl | rfl | rfl
  · rw [if_pos rfl]
    by_cases q1 : q = 1
    · rw [if_pos q1] at h; exact h
    · rw [if_neg q1] at h
      by_cases q2 : q = 2
      · rw [if_pos q2] at h; exact h.rows
      · rw [if_neg q2] at h; exact h.row.rows
  · rw [if_neg (by omega), if_pos rfl]
    rw [if_neg (by omega)] at h
    by_cases q2 : q = 2
    · rw [if_pos q2] at h; exact h
    · rw [if_neg q2] at h; exact h.row
  · rw [if_neg (by omega), if_neg (by omega)]
    rw [if_neg (by omega), if_neg (by omega)] at h
    exact h
def inS (s : ByteArray) (q p : Int) : ByteArray := if q < p then (⟨#[40]⟩ : ByteArray) ++ s ++ (⟨#[41]⟩ : ByteArray) else s
theorem inS_size (s : ByteArray) (q p : Int) : (inS s q p).size ≤ s.size + 2 := by
  unfold inS
  have z1 : (⟨#[40]⟩ : ByteArray).size = 1 := rfl
  have z2 : (⟨#[41]⟩ : ByteArray).size = 1 := rfl
  split
  · simp only [ByteArray.size_append]; omega
  · omega
theorem in_f (s : ByteArray) (q p : Int) (h : s.size ≤ 1000000) : regex_shown_in.f s q p = some (inS s q p) := by
  have z1 : (⟨#[40]⟩ : ByteArray).size = 1 := rfl
  unfold regex_shown_in.f inS
  by_cases c : q < p
  · rw [if_pos c, if_pos (by omega), if_pos (by rw [ByteArray.size_append]; omega), if_pos c]
  · rw [if_neg c, if_neg c]
theorem catB_f (a b : ByteArray) (ha : a.size ≤ 10000000) (hb : b.size ≤ 10000000) : catB a b = some (a ++ b) := by
  unfold catB
  rw [if_pos ⟨by omega, by omega⟩]
theorem Head.append {s t : ByteArray} (h : Head s) : Head (s ++ t) := by
  refine ⟨by rw [ByteArray.size_append]; have := h.full; omega, ?_⟩
  rw [byte_left s t 0 (by omega) (by have := h.full; omega)]
  exact h.first
theorem in_back {s : ByteArray} {q p : Int} {c : List S40} (h : Lv q s c) (hh : Head s) (hq : q = 1 ∨ q = 2 ∨ q = 3) (hp : p = 1 ∨ p = 2 ∨ p = 3) : Lv p (inS s q p) c ∧ Head (inS s q p) := by
  unfold inS
  by_cases cc : q < p
  · rw [if_pos cc]
    have hr : RowsR s c := by
      have := h.down (p := 1) (.inl rfl) (by omega)
      unfold Lv at this
      rw [if_pos rfl] at this
      exact this
    have h3 : Lv 3 ((⟨#[40]⟩ : ByteArray) ++ s ++ (⟨#[41]⟩ : ByteArray)) c := by
      unfold Lv
      rw [if_neg (by omega), if_neg (by omega)]
      exact (hr.paren hh).piece
    refine ⟨h3.down hp (by omega), Head.append (Head.append ⟨by decide, by decide⟩)⟩
  · rw [if_neg cc]
    exact ⟨h.down hp (by omega), hh⟩
structure Ent (x : S43) (c : List S40) : Prop where
  lv : Lv x.f1 x.f0 c
  q : x.f1 = 1 ∨ x.f1 = 2 ∨ x.f1 = 3
  head : Head x.f0
  size : x.f0.size ≤ 4000 * c.length
inductive InvB : List S43 → List S40 → Prop
  | nil : InvB [] []
  | cons {st : List S43} {x : S43} {cs c : List S40} : InvB st cs → Ent x c → InvB (x :: st) (cs ++ c)
theorem InvB.inv {r : List S43} {l : List S40} (h : InvB r l) : (r = [] ∧ l = []) ∨ ∃ st x cs c, r = x :: st ∧ l = cs ++ c ∧ InvB st cs ∧ Ent x c := by
  cases h with
  | nil => exact .inl ⟨rfl, rfl⟩
  | cons h1 h2 => exact .inr ⟨_, _, _, _, rfl, rfl, h1, h2⟩
theorem lv3 {s : ByteArray} {c : List S40} (h : PieceR s c) : Lv 3 s c := by unfold Lv; rw [if_neg (by omega), if_neg (by omega)]; exact h
theorem lv2 {s : ByteArray} {c : List S40} (h : RowR s c) : Lv 2 s c := by unfold Lv; rw [if_neg (by omega), if_pos rfl]; exact h
theorem lv1 {s : ByteArray} {c : List S40} (h : RowsR s c) : Lv 1 s c := by unfold Lv; rw [if_pos rfl]; exact h
theorem of_lv3 {s : ByteArray} {c : List S40} (h : Lv 3 s c) : PieceR s c := by unfold Lv at h; rw [if_neg (by omega), if_neg (by omega)] at h; exact h
theorem of_lv2 {s : ByteArray} {c : List S40} (h : Lv 2 s c) : RowR s c := by unfold Lv at h; rw [if_neg (by omega), if_pos rfl] at h; exact h
theorem of_lv1 {s : ByteArray} {c : List S40} (h : Lv 1 s c) : RowsR s c := by unfold Lv at h; rw [if_pos rfl] at h; exact h
theorem emp_get (st : List S43) (a b : S43) : (st ++ [a] ++ [b]).getD ((st ++ [a] ++ [b]).length - 2) z43 = a ∧ (st ++ [a] ++ [b]).getD ((st ++ [a] ++ [b]).length - 1) z43 = b := by
  constructor <;> simp [List.getD_eq_getElem?_getD]
theorem cell_eq {c : S40} (h : noset c = true) : c = (⟨c.f0, ⟨0, 0, 0, 0⟩⟩ : S40) := by
  obtain ⟨o, x0, x1, x2, x3⟩ := c
  simp only [noset, Bool.and_eq_true, beq_iff_eq] at h
  obtain ⟨rfl, rfl, rfl, rfl⟩ := h
  rfl
def Wok (c : S40) : Prop := Words c.f1.f0 c.f1.f1 c.f1.f2 c.f1.f3
theorem back_l0 (l : List S40) (hl : l.length ≤ 60) (hW : ∀ c ∈ l, Wok c) : ∀ (t pre : List S40) (r : List S43), pre ++ t = l → InvB r pre → r.length ≤ pre.length → rl t (r.length : Int) = true →
    ∃ s, Ev (fun k => regex_Show.l0 k l r.reverse (pre.length : Int)) (s, 0) ∧ RowsR s l ∧ s.size ≤ 1000000 := by
  intro t
  induction t with
  | nil =>
    intro pre r e hi hr h
    simp only [List.append_nil] at e
    subst e
    simp only [rl, beq_iff_eq] at h
    rcases hi.inv with ⟨rfl, _⟩ | ⟨st, x, cs, c, rfl, rfl, hi, hx⟩
    · simp at h
    · have : st = [] := by cases st with | nil => rfl | cons _ _ => simp at h; omega
      subst this
      have hc0 : cs = [] := by
        rcases hi.inv with ⟨_, h⟩ | ⟨_, _, _, _, h, _⟩
        · exact h
        · cases h
      subst hc0
      rw [List.nil_append] at *
      have := hx.size
      refine ⟨x.f0, ⟨1, fun k hk => ?_⟩, of_lv1 (hx.lv.down (.inl rfl) (by have := hx.q; omega)), by omega⟩
      obtain ⟨k, rfl⟩ : ∃ m, k = m + 1 := ⟨k - 1, by omega⟩
      simp only [regex_Show.l0]
      rw [if_neg (by omega)]
      simp
  | cons c t ih =>
    intro pre r e hi hr h
    have hlen : pre.length + (t.length + 1) = l.length := by rw [← e]; simp
    have hc : rd_T40 l (pre.length : Int) = c := by rw [← e]; exact rd_mid pre c t
    have hmem : c ∈ l := by rw [← e]; simp
    have he0 : (0 : Int) ≤ (pre.length : Int) := by omega
    have he1 : (pre.length : Int) < (l.length : Int) := by omega
    have hl2 : (l.length : Int) ≤ 1000000 := by omega
    simp only [rl] at h
    have hw := wnt_le c.f0
    by_cases e1 : wnt c.f0 < 0
    · rw [if_pos e1] at h; cases h
    rw [if_neg e1] at h
    by_cases e2 : wnt c.f0 > (r.length : Int)
    · rw [if_pos e2] at h; cases h
    rw [if_neg e2] at h
    by_cases e3 : (noset c == (c.f0 == 1)) = true
    · rw [if_pos e3] at h; cases h
    rw [if_neg e3] at h
    have hns : c.f0 ≠ 1 → c = (⟨c.f0, ⟨0, 0, 0, 0⟩⟩ : S40) := by
      intro hne
      refine cell_eq ?_
      have hb : (c.f0 == 1) = false := by simpa using hne
      rw [hb] at e3
      cases q : noset c with
      | true => rfl
      | false => rw [q] at e3; simp at e3
    have key : ∀ r', (r'.length : Int) = (r.length : Int) + 1 - wnt c.f0 → InvB r' (pre ++ [c]) → Ev (fun k => regex_Show.stp k r.reverse c) r'.reverse →
        ∃ s, Ev (fun k => regex_Show.l0 k l r.reverse (pre.length : Int)) (s, 0) ∧ RowsR s l ∧ s.size ≤ 1000000 := by
      intro r' h1 h2 h3
      obtain ⟨s, hE, hs⟩ := ih (pre ++ [c]) r' (by rw [List.append_assoc, List.singleton_append]; exact e) h2 (by simp; omega) (by rw [h1]; exact h)
      refine ⟨s, .step (f := fun k => (regex_Show.stp k r.reverse c).bind fun st' => regex_Show.l0 k l st' ((pre.length : Int) + 1)) (fun k => ?_) (.bind h3 ?_), hs⟩
      · rw [regex_Show.l0, if_pos he1, if_pos ⟨by omega, by simp; omega⟩, hc]
      · rw [List.length_append, List.length_singleton, show ((pre.length + 1 : Nat) : Int) = (pre.length : Int) + 1 by omega] at hE
        exact hE
    have hf0 : ∀ o, wnt o = 0 → o = 1 ∨ o = 2 := by intro o ho; unfold wnt at ho; split at ho <;> (try split at ho) <;> (try split at ho) <;> omega
    have hf1 : ∀ o, wnt o = 1 → o = 5 ∨ o = 6 ∨ o = 7 := by intro o ho; unfold wnt at ho; split at ho <;> (try split at ho) <;> (try split at ho) <;> omega
    have hf2 : ∀ o, wnt o = 2 → o = 3 ∨ o = 4 := by intro o ho; unfold wnt at ho; split at ho <;> (try split at ho) <;> (try split at ho) <;> omega
    have hcases : wnt c.f0 = 0 ∨ wnt c.f0 = 1 ∨ wnt c.f0 = 2 := by omega
    rcases hcases with w0 | w1 | w2
    · rcases hf0 _ w0 with o | o
      · have hn : ¬ (c.f1.f0 = 0 ∧ c.f1.f1 = 0 ∧ c.f1.f2 = 0 ∧ c.f1.f3 = 0) := by
          intro hz
          have : noset c = true := by
            obtain ⟨z0, z1, z2, z3⟩ := hz
            simp [noset, z0, z1, z2, z3]
          rw [this, o] at e3
          simp at e3
        obtain ⟨s, hz, k1, k2, k3⟩ := set_back (hW c hmem) hn
        have hc1 : (⟨1, ⟨c.f1.f0, c.f1.f1, c.f1.f2, c.f1.f3⟩⟩ : S40) = c := by
          obtain ⟨_, _, _, _, _⟩ := c
          simp only at o
          subst o
          rfl
        rw [hc1] at k3
        refine key ((⟨s, 3⟩ : S43) :: r) (by simp; omega) (.cons hi ⟨lv3 k3.piece, .inr (.inr rfl), k2, by simp only [List.length_singleton]; omega⟩) ?_
        refine .congr (f := fun k => (regex_set.f k c.f1.f0 c.f1.f1 c.f1.f2 c.f1.f3).bind fun s => some (r.reverse ++ [(⟨s, 3⟩ : S43)])) (fun k => ?_) (.bind k1 ?_)
        · show regex_Show.stp k r.reverse c = _
          unfold regex_Show.stp; rw [if_pos o]
        · rw [List.reverse_cons]; exact .now _
      · have hA := empty_atom
        rw [show (⟨2, ⟨0, 0, 0, 0⟩⟩ : S40) = c by rw [hns (by omega), o]] at hA
        refine key ((⟨⟨#[40, 41]⟩, 3⟩ : S43) :: r) (by simp; omega) (.cons hi ⟨lv3 hA.piece, .inr (.inr rfl), ⟨by decide, by decide⟩, by show (⟨#[40, 41]⟩ : ByteArray).size ≤ _; rw [show (⟨#[40, 41]⟩ : ByteArray).size = 2 from rfl, List.length_singleton]; omega⟩) ?_
        refine .congr (f := fun _ => some (r.reverse ++ [(⟨⟨#[40, 41]⟩, 3⟩ : S43)])) (fun k => ?_) (by rw [List.reverse_cons]; exact .now _)
        show regex_Show.stp k r.reverse c = _
        unfold regex_Show.stp; rw [if_neg (by omega), if_pos o]
    · rcases hi.inv with ⟨rfl, _⟩ | ⟨st, x, cs, cx, rfl, rfl, hi, hx⟩
      · simp at e2; omega
      have ho := hf1 _ w1
      simp only [List.length_append] at hlen he0 he1 hr
      have hz := hx.size
      have hxz : x.f0.size ≤ 1000000 := by omega
      have hin := inS_size x.f0 x.f1 3
      obtain ⟨hl3, hh⟩ := in_back hx.lv hx.head hx.q (p := 3) (by omega)
      have hst := (of_lv3 hl3).star (o := c.f0) ho
      rw [show (⟨c.f0, ⟨0, 0, 0, 0⟩⟩ : S40) = c from (hns (by omega)).symm] at hst
      have zs : (symOf c.f0).size = 1 := (sym_ok _ ho).1
      refine key ((⟨inS x.f0 x.f1 3 ++ symOf c.f0, 3⟩ : S43) :: st) (by simp; omega) (by rw [List.append_assoc]; exact .cons hi ⟨lv3 hst, .inr (.inr rfl), hh.append, by rw [ByteArray.size_append, zs, List.length_append, List.length_singleton]; omega⟩) ?_
      refine ⟨0, fun k _ => ?_⟩
      show regex_Show.stp k (x :: st).reverse c = _
      unfold regex_Show.stp
      have hg : (x :: st).reverse.getD ((x :: st).reverse.length - 1) z43 = x := by simp [List.getD_eq_getElem?_getD]
      have hsy : regex_Show.sym c.f0 = symOf c.f0 := rfl
      rw [if_neg (by omega), if_neg (by omega), if_neg (by omega), if_neg (by omega), if_pos (by omega), if_pos (by simp), hg, in_f _ _ _ hxz, Option.bind_some, hsy, catB_f _ _ (by omega) (by omega), Option.bind_some]
      simp
    · rcases hi.inv with ⟨rfl, _⟩ | ⟨st, y, cs, cy, rfl, rfl, hi, hy⟩
      · simp at e2; omega
      rcases hi.inv with ⟨rfl, _⟩ | ⟨st', x, cs', cx, rfl, rfl, hi, hx⟩
      · simp at e2; omega
      simp only [List.length_append] at hlen he0 he1 hr
      have hzx := hx.size
      have hzy := hy.size
      have hxz : x.f0.size ≤ 1000000 := by omega
      have hyz : y.f0.size ≤ 1000000 := by omega
      obtain ⟨g2, g1⟩ := emp_get st'.reverse x y
      have hrev : (y :: x :: st').reverse = st'.reverse ++ [x] ++ [y] := by simp
      have zb : (⟨#[124]⟩ : ByteArray).size = 1 := rfl
      rcases hf2 _ w2 with o | o
      · have hin := inS_size x.f0 x.f1 2
        have hin2 := inS_size y.f0 y.f1 3
        obtain ⟨hl2', hhx⟩ := in_back hx.lv hx.head hx.q (p := 2) (by omega)
        obtain ⟨hl3, hhy⟩ := in_back hy.lv hy.head hy.q (p := 3) (by omega)
        have hcat := (of_lv2 hl2').cat (of_lv3 hl3) hhy
        rw [show (⟨3, ⟨0, 0, 0, 0⟩⟩ : S40) = c by rw [hns (by omega), o]] at hcat
        refine key ((⟨inS x.f0 x.f1 2 ++ inS y.f0 y.f1 3, 2⟩ : S43) :: st') (by simp; omega) (by rw [List.append_assoc, List.append_assoc, ← List.append_assoc cx]; exact .cons hi ⟨lv2 hcat, .inr (.inl rfl), hhx.append, by rw [ByteArray.size_append]; simp only [List.length_append, List.length_singleton]; omega⟩) ?_
        refine ⟨0, fun k _ => ?_⟩
        show regex_Show.stp k (y :: x :: st').reverse c = _
        rw [hrev]
        unfold regex_Show.stp
        rw [if_neg (by omega), if_neg (by omega), if_pos o, if_pos (by simp), g2, g1, in_f _ _ _ hxz, Option.bind_some, in_f _ _ _ hyz, Option.bind_some, catB_f _ _ (by omega) (by omega), Option.bind_some]
        simp
      · have hin := inS_size x.f0 x.f1 1
        have hin2 := inS_size y.f0 y.f1 2
        obtain ⟨hl1', hhx⟩ := in_back hx.lv hx.head hx.q (p := 1) (by omega)
        obtain ⟨hl2', hhy⟩ := in_back hy.lv hy.head hy.q (p := 2) (by omega)
        have hor := (of_lv1 hl1').or (of_lv2 hl2') hhy
        rw [show (⟨4, ⟨0, 0, 0, 0⟩⟩ : S40) = c by rw [hns (by omega), o]] at hor
        refine key ((⟨inS x.f0 x.f1 1 ++ (⟨#[124]⟩ : ByteArray) ++ inS y.f0 y.f1 2, 1⟩ : S43) :: st') (by simp; omega) (by rw [List.append_assoc, List.append_assoc, ← List.append_assoc cx]; exact .cons hi ⟨lv1 hor, .inl rfl, (hhx.append).append, by simp only [ByteArray.size_append]; simp only [List.length_append, List.length_singleton]; omega⟩) ?_
        refine ⟨0, fun k _ => ?_⟩
        show regex_Show.stp k (y :: x :: st').reverse c = _
        rw [hrev]
        unfold regex_Show.stp
        rw [if_neg (by omega), if_neg (by omega), if_neg (by omega), if_pos o, if_pos (by simp), g2, g1, in_f _ _ _ hxz, Option.bind_some, catB_f _ _ (by omega) (by omega), Option.bind_some, in_f _ _ _ hyz, Option.bind_some, catB_f _ _ (by rw [ByteArray.size_append]; omega) (by omega), Option.bind_some]
        simp
/-- What is shown, and how it is read. -/
theorem show_back (l : List S40) (hW : ∀ c ∈ l, Wok c) (hr : rightOf l = true) : l.length ≤ 60 ∧ ∃ s, Ev (fun k => regex_Show.f k l) (s, 0) ∧ ((s.size : Int) ≤ 200 → Ev (fun k => regex_Parse.f k s) (l, 0, 0)) ∧ (200 < (s.size : Int) → Ev (fun k => regex_Parse.f k s) ([], 0, 3)) := by
  have hlen : l.length ≤ 60 := by
    by_cases h : l.length ≤ 60
    · exact h
    · have : rightOf l = false := by unfold rightOf; rw [if_neg (by omega), if_pos (by omega)]
      rw [this] at hr; cases hr
  have hrl : rl l 0 = true := by
    unfold rightOf at hr
    by_cases h0 : l.length = 0
    · rw [if_pos h0] at hr; cases hr
    · rw [if_neg h0, if_neg (by omega)] at hr; exact hr
  obtain ⟨s, h1, h2, h3⟩ := back_l0 l hlen hW l [] [] rfl .nil (by simp) (by simpa using hrl)
  refine ⟨hlen, s, ?_, fun hs => ?_, fun hs => ?_⟩
  · obtain ⟨K, hK⟩ := h1
    refine ⟨K + 100, fun k hk => ?_⟩
    have := hK k (by omega)
    simp only [List.reverse_nil, List.length_nil] at this
    show regex_Show.f k l = _
    unfold regex_Show.f
    obtain ⟨m, rfl⟩ : ∃ m, k = m + 100 := ⟨k - 100, by omega⟩
    rw [right_f, hr, Option.bind_some, if_pos rfl]
    exact this
  · have ha : At s s 0 := At.self (by omega)
    have hn : nx s (0 + (s.size : Int)) = -1 := by unfold nx; rw [if_pos (by omega)]
    refine parse_ok hs (by omega) ?_
    have := h2 s 0 [] (.ok ((s.size : Int), l)) ha (by simp; omega) (.inl hn) (Ev.one fun k => by
      rw [regex_reader_rows.l0, ha.nxf, hn, Option.bind_some, if_neg (by omega), List.nil_append, Int.zero_add])
    exact this
  · refine ⟨0, fun k _ => ?_⟩
    show regex_Parse.f k s = _
    unfold regex_Parse.f
    rw [if_pos hs]
theorem show_wrong (l : List S40) (hr : rightOf l = false) : Ev (fun k => regex_Show.f k l) (⟨#[]⟩, 1) := by
  refine ⟨100, fun k hk => ?_⟩
  obtain ⟨m, rfl⟩ : ∃ m, k = m + 100 := ⟨k - 100, by omega⟩
  show regex_Show.f (m + 100) l = _
  unfold regex_Show.f
  rw [right_f, hr, Option.bind_some, if_neg (by decide)]
/-- Any text is a right rule's, or is refused. -/
theorem parse_right (s : ByteArray) : (∃ l, rightOf l = true ∧ (∀ c ∈ l, Wok c) ∧ Ev (fun k => regex_Parse.f k s) (l, 0, 0)) ∨ (∃ n e, Ev (fun k => regex_Parse.f k s) ([], n, e) ∧ e ≠ 0) := by
  by_cases h200 : (s.size : Int) > 200
  · exact .inr ⟨0, 3, ⟨0, fun k _ => by show regex_Parse.f k s = _; unfold regex_Parse.f; rw [if_pos h200]⟩, by decide⟩
  have hs : (s.size : Int) < 1000 := by omega
  have un : ∀ R r, Ev (fun k => regex_reader_rows.f k s 0 []) R → (match R with | .error n => some (([] : List S40), n, (1 : Int)) | .ok q => if q.1 < (s.size : Int) then some ([], q.1, 1) else if (q.2.length : Int) > 60 then some ([], 0, 3) else some (q.2, 0, 0)) = some r → Ev (fun k => regex_Parse.f k s) r := by
    rintro R r ⟨K, hK⟩ hr
    refine ⟨K, fun k hk => ?_⟩
    have := hK k hk
    show regex_Parse.f k s = some r
    simp only at this
    unfold regex_Parse.f
    rw [if_neg h200, this, Option.bind_some]
    cases R <;> exact hr
  rcases (all_spec s hs s.size 0 (by omega) (by omega) (by omega)).2.2.2.2.2 with ⟨a', d, l1, l2, l3, l4, hG⟩ | ⟨e, he⟩
  · have h := hG s 0 (Emb.refl hs) [] (by simp; omega)
    simp only [Int.zero_add, List.nil_append] at h
    by_cases c1 : a' < (s.size : Int)
    · exact .inr ⟨_, _, un _ _ h (by simp only; rw [if_pos c1]), by simp⟩
    · by_cases c2 : (d.length : Int) > 60
      · exact .inr ⟨_, _, un _ _ h (by simp only; rw [if_neg c1, if_pos c2]), by simp⟩
      · refine .inl ⟨d, ?_, l4.words, un _ _ h (by simp only; rw [if_neg c1, if_neg c2])⟩
        have hrl := l4.go [] 0 (by omega)
        rw [List.append_nil] at hrl
        have h1 : rl [] (0 + 1) = true := by decide
        rw [h1] at hrl
        unfold rightOf
        by_cases h0 : d.length = 0
        · have : d = [] := List.length_eq_zero_iff.mp h0
          subst this
          exact absurd hrl (by decide)
        · rw [if_neg h0, if_neg (by omega)]
          exact hrl
  · have := he [] (by simp; omega)
    exact .inr ⟨_, _, un _ _ this rfl, by simp⟩

end Go.Proofs.YtkabcjchgaokoaaDoor.Pure
