/- WordShows's plain law: any words, shown by the program and by the document, are one text. -/
import Derived.Test.YtjclnihkcghmaaaGWordShowsx
namespace Go.Proofs.Ytjclnihkcghmaaa.Pure
open Go.RowKit Go.Proofs.Ytjclnihkcghmaaa.PWordShows Go.Proofs.YtjclnihkcghmaaaW.PrintWords Go.Proofs.YtjclnihkcghmaaaW.PrintLast
set_option linter.unusedVariables false
set_option linter.unusedSimpArgs false

/-! #### words of a text, in plain words: over the list of its bytes -/
theorem wr {a : Int} (h : -9223372036854775808 ≤ a) (h2 : a < 9223372036854775808) : wrap64 a = a := by unfold wrap64; omega
mutual
/-- How many bytes of blanks are ahead. -/
def blank : List Int → Nat
  | [] => 0
  | c :: cs => if c = 9 ∨ c = 10 ∨ c = 13 ∨ c = 32 then blank cs + 1 else if c = 35 then remark cs + 1 else 0
/-- How many bytes are ahead, inside a remark. -/
def remark : List Int → Nat
  | [] => 0
  | c :: cs => if c = 10 then blank cs + 1 else remark cs + 1
end
def isL (c : Int) : Bool := decide (97 ≤ c ∧ c ≤ 122 ∨ 65 ≤ c ∧ c ≤ 90 ∨ c = 95)
def isN (c : Int) : Bool := isL c || decide (48 ≤ c ∧ c ≤ 57)
def runN : List Int → Nat
  | [] => 0
  | c :: cs => if isN c = true then runN cs + 1 else 0
/-- Behind a slash: how many bytes the rule's text takes, with its last slash; 0: it doesn't end. -/
def rl : Bool → List Int → Nat
  | _, [] => 0
  | t, c :: cs => if c = 10 then 0 else if c = 47 ∧ t = false then 1 else if rl (c == 92 && !t) cs = 0 then 0 else rl (c == 92 && !t) cs + 1
def isS (c : Int) : Bool := decide (c = 58 ∨ c = 59 ∨ c = 124 ∨ c = 37)
/-- The word that is ahead: its kind (0: none), its bytes. -/
def cut : List Int → Nat × Nat
  | [] => (0, 0)
  | c :: cs => if isL c = true then (if runN cs + 1 > 16 then (0, 0) else (1, runN cs + 1))
    else if c = 47 then (if rl false cs = 0 then (0, 0) else (2, rl false cs + 1))
    else if isS c = true then (3, 1) else (0, 0)
def txt (kd n : Nat) (l : List Int) : ByteArray := if kd = 2 then strOfNums ((l.take (n - 1)).drop 1) else strOfNums (l.take n)
/-- The words of what is ahead, from a place on; the place at which something else stands. -/
def lex : Nat → List Int → Int → List S32 × Option Int
  | 0, _, _ => ([], none)
  | _, [], _ => ([], none)
  | d + 1, c :: cs, at_ => if (cut (c :: cs)).1 = 0 then ([], some at_) else
    let n := (cut (c :: cs)).2
    let l := (c :: cs).drop n
    let r := lex d (l.drop (blank l)) (at_ + n + blank l)
    (⟨((cut (c :: cs)).1 : Int), at_, txt (cut (c :: cs)).1 n (c :: cs)⟩ :: r.1, r.2)
def told (out : List S32) (r : List S32 × Option Int) : List S32 × Int × Int := match r.2 with
  | none => (out ++ r.1, 0, 0)
  | some a => ([], a, 1)
theorem blank_nil : blank [] = 0 := by simp [blank]
theorem remark_nil : remark [] = 0 := by simp [remark]
theorem blank_cons (c : Int) (cs : List Int) : blank (c :: cs) = if c = 9 ∨ c = 10 ∨ c = 13 ∨ c = 32 then blank cs + 1 else if c = 35 then remark cs + 1 else 0 := by rw [blank]
theorem remark_cons (c : Int) (cs : List Int) : remark (c :: cs) = if c = 10 then blank cs + 1 else remark cs + 1 := by rw [remark]
theorem runN_nil : runN [] = 0 := rfl
theorem runN_cons (c : Int) (cs : List Int) : runN (c :: cs) = if isN c = true then runN cs + 1 else 0 := rfl
theorem rl_nil (t : Bool) : rl t [] = 0 := rfl
theorem rl_cons (t : Bool) (c : Int) (cs : List Int) : rl t (c :: cs) = if c = 10 then 0 else if c = 47 ∧ t = false then 1 else if rl (c == 92 && !t) cs = 0 then 0 else rl (c == 92 && !t) cs + 1 := rfl
theorem cut_cons (c : Int) (cs : List Int) : cut (c :: cs) = if isL c = true then (if runN cs + 1 > 16 then (0, 0) else (1, runN cs + 1))
    else if c = 47 then (if rl false cs = 0 then (0, 0) else (2, rl false cs + 1))
    else if isS c = true then (3, 1) else (0, 0) := rfl
mutual
theorem blank_le : ∀ l : List Int, blank l ≤ l.length
  | [] => by simp [blank]
  | c :: cs => by
    have h1 := blank_le cs
    have h2 := remark_le cs
    simp only [blank, List.length_cons]
    split
    · omega
    · split <;> omega
theorem remark_le : ∀ l : List Int, remark l ≤ l.length
  | [] => by simp [remark]
  | c :: cs => by
    have h1 := blank_le cs
    have h2 := remark_le cs
    simp only [remark, List.length_cons]
    split <;> omega
end
theorem runN_le (l : List Int) : runN l ≤ l.length := by
  induction l with
  | nil => simp [runN]
  | cons c cs ih => simp only [runN, List.length_cons]; split <;> omega
theorem rl_le (l : List Int) : ∀ t, rl t l ≤ l.length := by
  induction l with
  | nil => intro t; simp [rl]
  | cons c cs ih =>
    intro t
    have := ih (c == 92 && !t)
    simp only [rl, List.length_cons]
    split
    · omega
    · split
      · omega
      · split <;> omega
theorem cut_bd (c : Int) (cs : List Int) (h : (cut (c :: cs)).1 ≠ 0) : 1 ≤ (cut (c :: cs)).2 ∧ (cut (c :: cs)).2 ≤ cs.length + 1 ∧ (cut (c :: cs)).1 ≤ 3 ∧ ((cut (c :: cs)).1 = 2 → 2 ≤ (cut (c :: cs)).2) ∧ ((cut (c :: cs)).1 = 3 → (cut (c :: cs)).2 = 1) := by
  have h1 := runN_le cs
  have h2 := rl_le cs false
  revert h
  simp only [cut]
  split
  · split
    · simp
    · simp; omega
  · split
    · split
      · simp
      · simp; omega
    · split <;> simp
theorem bytes_drop (s : ByteArray) (i : Nat) (h : i < s.size) : (bytesOf s).drop i = bt s (i : Int) :: (bytesOf s).drop (i + 1) := by
  have hl := bytesOf_length s
  rw [List.drop_eq_getElem_cons (by omega)]
  congr 1
  rw [← rd_bytesOf, rd, List.getD_eq_getElem?_getD, Int.toNat_natCast, List.getElem?_eq_getElem (by omega)]
  rfl
theorem bytes_end (s : ByteArray) (i : Nat) (h : s.size ≤ i) : (bytesOf s).drop i = [] := List.drop_of_length_le (by rw [bytesOf_length]; omega)
theorem bytes_extract (s : ByteArray) (i j : Nat) : bytesOf (s.extract i j) = ((bytesOf s).take j).drop i := by
  unfold bytesOf
  rw [ByteArray.data_extract, Array.toList_extract, ← List.map_take, ← List.map_drop]
  congr 1
  rw [show s.data.toList.extract i j = (s.data.toList.drop i).take (j - i) from rfl, List.drop_take]
theorem bytes_tail (s : ByteArray) (i : Nat) : bytesOf (s.extract i s.size) = (bytesOf s).drop i := by
  rw [bytes_extract, List.take_of_length_le (by rw [bytesOf_length]; exact Nat.le_refl _)]
theorem str_bytes (s : ByteArray) : strOfNums (bytesOf s) = s := by
  cases s with | mk a =>
  unfold strOfNums bytesOf
  congr 1
  rw [List.map_map]
  apply Array.ext'
  simp only [List.toList_toArray]
  conv => rhs; rw [← List.map_id a.toList]
  apply List.map_congr_left
  intro x _
  simp
theorem str_slice (s : ByteArray) (i n : Nat) : strOfNums (((bytesOf s).drop i).take n) = s.extract i (i + n) := by
  rw [← str_bytes (s.extract i (i + n)), bytes_extract, List.drop_take, Nat.add_sub_cancel_left]
theorem str_slice2 (s : ByteArray) (i n : Nat) : strOfNums (((((bytesOf s).drop i).take (n - 1)).drop 1)) = (s.extract i (i + n)).extract 1 (n - 1) := by
  rw [← str_bytes ((s.extract i (i + n)).extract 1 (n - 1)), bytes_extract, bytes_extract, List.drop_take (i := i), Nat.add_sub_cancel_left, List.take_take, Nat.min_eq_left (by omega)]
theorem ib_blank (c : Int) (h0 : 0 ≤ c) (h1 : c ≤ 255) : ∃ r, strings_IndexByte.f ⟨#[9, 10, 13, 32]⟩ c = some r ∧ (r ≥ 0 ↔ (c = 9 ∨ c = 10 ∨ c = 13 ∨ c = 32)) := by
  refine ⟨_, rfl, ?_⟩
  have key : ∀ n : Fin 256, ((Lib.indexByte [9, 10, 13, 32] (n.val : Nat).toUInt8 ≥ 0) ↔ (n.val = 9 ∨ n.val = 10 ∨ n.val = 13 ∨ n.val = 32)) := by decide +kernel
  have := key ⟨c.toNat, by omega⟩
  simp only at this
  show Lib.indexByte [9, 10, 13, 32] c.toNat.toUInt8 ≥ 0 ↔ _
  rw [this]
  omega
theorem ib_sign (c : Int) (h0 : 0 ≤ c) (h1 : c ≤ 255) : ∃ r, strings_IndexByte.f ⟨#[58, 59, 124, 37]⟩ c = some r ∧ (r < 0 ↔ isS c = false) := by
  refine ⟨_, rfl, ?_⟩
  have key : ∀ n : Fin 256, ((Lib.indexByte [58, 59, 124, 37] (n.val : Nat).toUInt8 < 0) ↔ ¬ (n.val = 58 ∨ n.val = 59 ∨ n.val = 124 ∨ n.val = 37)) := by decide +kernel
  have := key ⟨c.toNat, by omega⟩
  simp only at this
  show Lib.indexByte [58, 59, 124, 37] c.toNat.toUInt8 < 0 ↔ _
  rw [this]
  unfold isS
  rw [decide_eq_false_iff_not]
  omega
theorem blank_l (t : ByteArray) (hs : t.size ≤ 9000) (d : Nat) : ∀ (k i : Nat), i + d = t.size → 2 * d + 3 < k →
    word_blank.l0 k t (i : Int) = some ((i : Int) + blank ((bytesOf t).drop i)) ∧ word_blank.l1 k t (i : Int) = some ((i : Int) + remark ((bytesOf t).drop i)) := by
  induction d with
  | zero =>
    intro k i h1 h2
    obtain ⟨k, rfl⟩ : ∃ m, k = m + 1 + 1 := ⟨k - 2, by omega⟩
    rw [bytes_end t i (by omega)]
    constructor
    · simp only [word_blank.l0]; rw [if_neg (by omega)]; simp [blank]
    · simp only [word_blank.l1, word_blank.l0]; rw [if_neg (by omega), if_neg (by omega)]; simp [remark]
  | succ d ih =>
    intro k i h1 h2
    obtain ⟨k, rfl⟩ : ∃ m, k = m + 1 + 1 := ⟨k - 2, by omega⟩
    have hw : wrap64 ((i : Int) + 1) = ((i + 1 : Nat) : Int) := by rw [wr (by omega) (by omega)]; omega
    obtain ⟨g0, g1⟩ := bt_range t (i : Int)
    obtain ⟨r, hr, hri⟩ := ib_blank (bt t (i : Int)) g0 g1
    obtain ⟨ih0, ih1⟩ := ih (k + 1) (i + 1) (by omega) (by omega)
    obtain ⟨ih2, ih3⟩ := ih k (i + 1) (by omega) (by omega)
    have hlt : (i : Int) < (t.size : Int) := by omega
    rw [bytes_drop t i (by omega)]
    constructor
    · rw [word_blank.l0]
      rw [if_pos hlt, if_pos (by omega), hr, Option.bind_some, hw]
      by_cases hb : r ≥ 0
      · rw [if_pos hb, ih0]
        simp only [blank]
        rw [if_pos (hri.1 hb)]
        congr 1
        omega
      · have hnb := fun h => hb (hri.2 h)
        rw [if_neg hb]
        by_cases h35 : bt t (i : Int) = 35
        · rw [if_pos h35]
          rw [word_blank.l1]
          rw [if_pos hlt, if_pos (by omega), if_neg (by omega), hw, ih3]
          simp only [blank]
          rw [if_neg hnb, if_pos h35]
          congr 1
          omega
        · rw [if_neg h35]
          simp only [blank]
          rw [if_neg hnb, if_neg h35]
          simp
    · rw [word_blank.l1]
      rw [if_pos hlt, if_pos (by omega), hw]
      by_cases h10 : bt t (i : Int) = 10
      · rw [if_pos h10]
        rw [word_blank.l0]
        rw [if_pos hlt, if_pos (by omega), hr, Option.bind_some, if_pos (hri.2 (by omega)), hw, ih2]
        simp only [remark]
        rw [if_pos h10]
        congr 1
        omega
      · rw [if_neg h10, ih1]
        simp only [remark]
        rw [if_neg h10]
        congr 1
        omega
theorem blank_f (t : ByteArray) (hs : t.size ≤ 9000) (k : Nat) (hk : 2 * t.size + 3 < k) : word_blank.f k t = some (blank (bytesOf t) : Int) := by
  unfold word_blank.f
  have := (blank_l t hs t.size k 0 (by omega) hk).1
  simpa using this
theorem letter_f (c : Int) : word_letter.f c = some (isL c) := by
  unfold word_letter.f isL
  by_cases h1 : c ≥ 97
  · rw [if_pos h1]
    by_cases h2 : c ≤ 122
    · rw [if_pos h2]; congr 1; symm; simp; omega
    · rw [if_neg h2]
      by_cases h3 : c ≥ 65
      · rw [if_pos h3, if_neg (by omega)]; congr 1; rw [Bool.eq_iff_iff]; simp; omega
      · omega
  · rw [if_neg h1]
    by_cases h3 : c ≥ 65
    · rw [if_pos h3]
      by_cases h4 : c ≤ 90
      · rw [if_pos h4]; congr 1; symm; simp; omega
      · rw [if_neg h4]; congr 1; rw [Bool.eq_iff_iff]; simp; omega
    · rw [if_neg h3]; congr 1; rw [Bool.eq_iff_iff]; simp; omega
theorem name_l (t : ByteArray) (hs : t.size ≤ 9000) (d : Nat) : ∀ (k i : Nat), i + d = t.size → 1 ≤ i → d < k →
    word_name.l0 k t (i : Int) = some (if i + runN ((bytesOf t).drop i) > 16 then 0 else ((i + runN ((bytesOf t).drop i) : Nat) : Int)) := by
  induction d with
  | zero =>
    intro k i h1 h2 h3
    obtain ⟨k, rfl⟩ : ∃ m, k = m + 1 := ⟨k - 1, by omega⟩
    rw [bytes_end t i (by omega)]
    rw [word_name.l0, runN_nil, Nat.add_zero]
    rw [if_neg (by omega)]
    by_cases h : (i : Int) > 16
    · rw [if_pos h, if_pos (by omega)]
    · rw [if_neg h, if_neg (by omega)]
  | succ d ih =>
    intro k i h1 h2 h3
    obtain ⟨k, rfl⟩ : ∃ m, k = m + 1 := ⟨k - 1, by omega⟩
    have hw : wrap64 ((i : Int) + 1) = ((i + 1 : Nat) : Int) := by rw [wr (by omega) (by omega)]; omega
    rw [bytes_drop t i (by omega)]
    rw [word_name.l0, runN_cons]
    rw [if_pos (by omega), if_pos (by omega), letter_f, Option.bind_some, hw]
    have fin : isN (bt t (i : Int)) = false → (if (i : Int) > 16 then some (0 : Int) else some (i : Int)) = some (if i + (if isN (bt t (i : Int)) = true then runN ((bytesOf t).drop (i + 1)) + 1 else 0) > 16 then 0 else ((i + (if isN (bt t (i : Int)) = true then runN ((bytesOf t).drop (i + 1)) + 1 else 0) : Nat) : Int)) := by
      intro hn
      rw [hn]
      simp only [Bool.false_eq_true, if_false, Nat.add_zero]
      by_cases h : (i : Int) > 16
      · rw [if_pos h, if_pos (by omega)]
      · rw [if_neg h, if_neg (by omega)]
    have go : isN (bt t (i : Int)) = true → word_name.l0 k t (((i + 1 : Nat)) : Int) = some (if i + (if isN (bt t (i : Int)) = true then runN ((bytesOf t).drop (i + 1)) + 1 else 0) > 16 then 0 else ((i + (if isN (bt t (i : Int)) = true then runN ((bytesOf t).drop (i + 1)) + 1 else 0) : Nat) : Int)) := by
      intro hn
      rw [hn, ih k (i + 1) (by omega) (by omega) (by omega)]
      simp only [if_true]
      rw [show i + 1 + runN ((bytesOf t).drop (i + 1)) = i + (runN ((bytesOf t).drop (i + 1)) + 1) from by omega]
    by_cases hl : isL (bt t (i : Int)) = true
    · rw [if_pos hl]
      exact go (by unfold isN; rw [hl]; rfl)
    · rw [if_neg hl, if_pos (by omega)]
      have hl' : isL (bt t (i : Int)) = false := by simpa using hl
      by_cases h48 : bt t (i : Int) ≥ 48
      · rw [if_pos h48]
        by_cases h57 : bt t (i : Int) ≤ 57
        · rw [if_pos h57]
          exact go (by unfold isN; rw [hl']; simp; omega)
        · rw [if_neg h57]
          exact fin (by unfold isN; rw [hl']; simp; omega)
      · rw [if_neg h48]
        exact fin (by unfold isN; rw [hl']; simp; omega)
theorem name_f (t : ByteArray) (hs : t.size ≤ 9000) (h0 : 0 < t.size) (k : Nat) (hk : t.size + 1 < k) : ∃ c cs, bytesOf t = c :: cs ∧ 0 ≤ c ∧ c ≤ 255 ∧ c = bt t 0 ∧ cs = (bytesOf t).drop 1 ∧
    word_name.f k t = some (if isL c = true then (if runN cs + 1 > 16 then 0 else ((runN cs + 1 : Nat) : Int)) else 0) := by
  obtain ⟨k, rfl⟩ : ∃ m, k = m + 1 := ⟨k - 1, by omega⟩
  have hd := bytes_drop t 0 h0
  obtain ⟨g0, g1⟩ := bt_range t 0
  refine ⟨bt t 0, (bytesOf t).drop 1, by simpa using hd, g0, g1, rfl, rfl, ?_⟩
  unfold word_name.f
  simp only [word_name.l0]
  rw [if_pos (by omega), if_pos (by omega), letter_f, Option.bind_some]
  by_cases hl : isL (bt t 0) = true
  · rw [if_pos hl, if_pos hl]
    have := name_l t hs (t.size - 1) k 1 (by omega) (by omega) (by omega)
    rw [show wrap64 (0 + 1) = ((1 : Nat) : Int) from by unfold wrap64; omega, this]
    rw [show 1 + runN ((bytesOf t).drop 1) = runN ((bytesOf t).drop 1) + 1 from by omega]
  · rw [if_neg hl, if_neg hl, if_neg (by omega), if_neg (by omega)]
theorem rule_l (t : ByteArray) (hs : t.size ≤ 9000) (d : Nat) : ∀ (k i e : Nat), i + e = t.size → e ≤ d → 1 ≤ i → 2 * d + 2 < k →
    word_rule.l0 k t (i : Int) = some (if rl false ((bytesOf t).drop i) = 0 then 0 else ((i + rl false ((bytesOf t).drop i) : Nat) : Int)) := by
  induction d with
  | zero =>
    intro k i e h1 h2 h3 h4
    obtain ⟨k, rfl⟩ : ∃ m, k = m + 1 + 1 := ⟨k - 2, by omega⟩
    rw [bytes_end t i (by omega), word_rule.l0, word_rule.j1, rl_nil]
    rw [if_neg (by omega), if_pos rfl]
    rfl
  | succ d ih =>
    intro k i e h1 h2 h3 h4
    obtain ⟨k, rfl⟩ : ∃ m, k = m + 1 + 1 := ⟨k - 2, by omega⟩
    by_cases he : e = 0
    · rw [bytes_end t i (by omega), word_rule.l0, word_rule.j1, rl_nil]
      rw [if_neg (by omega), if_pos rfl]
      rfl
    · have hw : wrap64 ((i : Int) + 1) = ((i + 1 : Nat) : Int) := by rw [wr (by omega) (by omega)]; omega
      have hw2 : wrap64 (((i + 1 : Nat) : Int) + 1) = ((i + 2 : Nat) : Int) := by rw [wr (by omega) (by omega)]; omega
      have cont : ∀ q m : Nat, 1 ≤ q → (some (if m = 0 then (0 : Int) else ((i + q + m : Nat) : Int))) = some (if (if m = 0 then 0 else m + q) = 0 then 0 else ((i + (if m = 0 then 0 else m + q) : Nat) : Int)) := by
        intro q m hq
        by_cases hz : m = 0
        · simp [hz]
        · rw [if_neg hz, if_neg hz, if_neg (by omega)]
          congr 2
          omega
      rw [bytes_drop t i (by omega), word_rule.l0, word_rule.j1]
      rw [if_pos (by omega), if_pos (by omega), hw]
      by_cases h10 : bt t (i : Int) = 10
      · rw [rl_cons, if_neg (by simp [h10]), if_pos h10, if_pos rfl]
      · rw [if_pos (by simpa using h10), if_pos (by omega), if_pos (by omega)]
        by_cases h47 : bt t (i : Int) = 47
        · rw [if_pos h47, rl_cons, if_neg h10, if_pos (show bt t (i : Int) = 47 ∧ false = false from ⟨h47, rfl⟩), if_neg (by decide)]
        · rw [if_neg h47, rl_cons, if_neg h10, if_neg (show ¬ (bt t (i : Int) = 47 ∧ false = false) by simp [h47])]
          by_cases h92 : bt t (i : Int) = 92
          · rw [if_pos h92, show (bt t (i : Int) == 92 && !false) = true from by simp [h92]]
            by_cases hn : i + 1 < t.size
            · rw [if_pos (by omega), if_pos (by omega)]
              have r2 : rl true ((bytesOf t).drop (i + 1)) = if bt t ((i + 1 : Nat) : Int) = 10 then 0 else if rl false ((bytesOf t).drop (i + 2)) = 0 then 0 else rl false ((bytesOf t).drop (i + 2)) + 1 := by
                rw [bytes_drop t (i + 1) hn, rl_cons]
                simp
              by_cases h11 : bt t ((i + 1 : Nat) : Int) = 10
              · rw [if_pos h11, ih k (i + 1) (e - 1) (by omega) (by omega) (by omega) (by omega)]
                have z1 : rl false ((bytesOf t).drop (i + 1)) = 0 := by rw [bytes_drop t (i + 1) hn, rl_cons, if_pos h11]
                have z2 : rl true ((bytesOf t).drop (i + 1)) = 0 := by rw [r2, if_pos h11]
                rw [z1, z2]
                rfl
              · rw [if_neg h11, hw2, ih k (i + 2) (e - 2) (by omega) (by omega) (by omega) (by omega), r2, if_neg h11]
                have := cont 2 (rl false ((bytesOf t).drop (i + 2))) (by omega)
                rw [this]
                generalize rl false ((bytesOf t).drop (i + 2)) = m
                by_cases hz : m = 0
                · simp [hz]
                · rw [if_neg hz, if_neg hz, if_neg (show ¬ (m + 1 = 0) by omega)]
            · rw [if_neg (by omega), ih k (i + 1) (e - 1) (by omega) (by omega) (by omega) (by omega), bytes_end t (i + 1) (by omega), rl_nil, rl_nil]
              rfl
          · rw [if_neg h92, show (bt t (i : Int) == 92 && !false) = false from by simp [h92], ih k (i + 1) (e - 1) (by omega) (by omega) (by omega) (by omega)]
            exact cont 1 _ (by omega)
theorem rule_f (t : ByteArray) (hs : t.size ≤ 9000) (h0 : 0 < t.size) (k : Nat) (hk : 2 * t.size + 2 < k) :
    word_rule.f k t = some (if bt t 0 = 47 then (if rl false ((bytesOf t).drop 1) = 0 then 0 else ((rl false ((bytesOf t).drop 1) + 1 : Nat) : Int)) else 0) := by
  unfold word_rule.f
  rw [if_pos (by omega)]
  by_cases h : bt t 0 = 47
  · rw [if_pos h, if_pos h]
    have := rule_l t hs (t.size - 1) k 1 (t.size - 1) (by omega) (by omega) (by omega) (by omega)
    rw [show (1 : Int) = ((1 : Nat) : Int) from rfl, this, show 1 + rl false ((bytesOf t).drop 1) = rl false ((bytesOf t).drop 1) + 1 from by omega]
  · rw [if_neg h, if_neg h]
theorem sign_f (t : ByteArray) (h0 : 0 < t.size) : word_sign.f t = some (if isS (bt t 0) = true then 1 else 0) := by
  unfold word_sign.f
  obtain ⟨g0, g1⟩ := bt_range t 0
  obtain ⟨r, hr, hri⟩ := ib_sign (bt t 0) g0 g1
  rw [if_pos (by omega), hr, Option.bind_some]
  by_cases h : r < 0
  · rw [if_pos h, if_neg (by rw [hri.1 h]; decide)]
  · rw [if_neg h, if_pos (by have := fun e => h (hri.2 e); simpa using this)]
theorem cut_f (t : ByteArray) (hs : t.size ≤ 9000) (h0 : 0 < t.size) (k : Nat) (hk : 2 * t.size + 2 < k) : word_All.cut k t = some (((cut (bytesOf t)).1 : Int), ((cut (bytesOf t)).2 : Int)) := by
  obtain ⟨c, cs, hb, g0, g1, hc, hcs, hn⟩ := name_f t hs h0 k (by omega)
  unfold word_All.cut
  rw [hn, Option.bind_some, rule_f t hs h0 k hk, sign_f t h0, ← hcs, ← hc, hb]
  simp only [cut]
  by_cases hl : isL c = true
  · simp only [if_pos hl]
    have hne : c ≠ 47 := by intro e; rw [e] at hl; revert hl; decide
    have hns : isS c = false := by
      unfold isL at hl; unfold isS
      rw [decide_eq_true_eq] at hl
      rw [decide_eq_false_iff_not]
      omega
    by_cases h16 : runN cs + 1 > 16
    · simp only [if_pos h16, if_neg hne, hns]
      simp
    · simp only [if_neg h16]
      rw [if_neg (by omega)]
      rfl
  · simp only [if_neg hl]
    by_cases h47 : c = 47
    · simp only [if_pos h47]
      by_cases hz : rl false cs = 0
      · simp only [if_pos hz]
        have : isS c = false := by rw [h47]; decide
        rw [this]
        simp
      · simp only [if_neg hz]
        rw [if_pos trivial, Option.bind_some, if_neg (by omega)]
        rfl
    · simp only [if_neg h47]
      by_cases hS : isS c = true
      · simp [hS]
      · simp [hS]
theorem all_l (s : ByteArray) (hs : s.size ≤ 9000) (d : Nat) : ∀ (k i : Nat) (out : List S32), s.size - i ≤ d → i ≤ s.size → out.length + (s.size - i) < 5000 → 20000 + d < k →
    word_All.l0 k s out (i : Int) = some (told out (lex (d + 1) ((bytesOf s).drop i) (i : Int))) := by
  induction d with
  | zero =>
    intro k i out h1 h2 h3 h4
    obtain ⟨k, rfl⟩ : ∃ m, k = m + 1 := ⟨k - 1, by omega⟩
    rw [bytes_end s i (by omega)]
    simp only [word_All.l0, lex, told]
    rw [if_neg (by omega), List.append_nil]
  | succ d ih =>
    intro k i out h1 h2 h3 h4
    obtain ⟨k, rfl⟩ : ∃ m, k = m + 1 := ⟨k - 1, by omega⟩
    by_cases hi : i < s.size
    · have ht : (s.extract i s.size).size = s.size - i := by rw [ByteArray.size_extract]; omega
      have hcut := cut_f (s.extract i s.size) (by omega) (by omega) k (by omega)
      rw [bytes_tail] at hcut
      simp only [word_All.l0]
      rw [if_pos (by omega), if_pos (by omega), Int.toNat_natCast, hcut, Option.bind_some]
      obtain ⟨c, cs, hcc⟩ : ∃ c cs, (bytesOf s).drop i = c :: cs := ⟨_, _, bytes_drop s i hi⟩
      have hlen : cs.length + 1 = s.size - i := by
        have := congrArg List.length hcc
        rw [List.length_drop, bytesOf_length, List.length_cons] at this
        omega
      rw [hcc]
      simp only [lex]
      by_cases hz : (cut (c :: cs)).1 = 0
      · rw [if_pos (by rw [hz]; rfl), if_pos hz]
        rfl
      · obtain ⟨b1, b2, b3, b4, b5⟩ := cut_bd c cs hz
        rw [if_neg (by omega), if_neg hz]
        generalize hn : (cut (c :: cs)).2 = n at *
        generalize hkd : (cut (c :: cs)).1 = kd at *
        have hguard : (kd : Int) ≤ (n : Int) ∧ (i : Int) + (n : Int) ≤ (s.size : Int) ∧ out.length < 5000 ∧ (kd : Int) ≠ 3 ∨ (kd : Int) = 3 ∧ (n : Int) = 1 ∧ out.length < 5000 := by
          by_cases h3 : kd = 3
          · exact Or.inr (by omega)
          · exact Or.inl (by omega)
        rw [if_pos hguard]
        have htl : (s.extract ((i : Int) + (n : Int)).toNat s.size).size = s.size - (i + n) := by rw [ByteArray.size_extract]; omega
        have hdrop : (c :: cs).drop n = (bytesOf s).drop (i + n) := by rw [← hcc, List.drop_drop]
        rw [blank_f _ (by omega) k (by omega), Option.bind_some, show ((i : Int) + (n : Int)).toNat = i + n from by omega, bytes_tail]
        have hbl := blank_le ((bytesOf s).drop (i + n))
        rw [List.length_drop, bytesOf_length] at hbl
        rw [if_pos (by omega), hdrop]
        have e1 : (i : Int) + (n : Int) + (blank ((bytesOf s).drop (i + n)) : Int) = ((i + n + blank ((bytesOf s).drop (i + n)) : Nat) : Int) := by omega
        rw [e1, ih k _ _ (by omega) (by omega) (by simp; omega) (by omega), List.drop_drop]
        have htx : word_All.text s (i : Int) (kd : Int) (n : Int) = txt kd n (c :: cs) := by
          unfold word_All.text txt
          rw [show ((i : Int) + (n : Int)).toNat = i + n from by omega, Int.toNat_natCast, show ((n : Int) - 1).toNat = n - 1 from by omega, ← hcc]
          by_cases h2 : kd = 2
          · rw [if_pos (by omega), if_pos h2, str_slice2]
          · rw [if_neg (by omega), if_neg h2, str_slice]
        rw [htx]
        unfold told
        cases (lex (d + 1) ((bytesOf s).drop (i + n + blank ((bytesOf s).drop (i + n)))) ((i + n + blank ((bytesOf s).drop (i + n)) : Nat) : Int)).2 with
        | none => simp
        | some a => rfl
    · rw [bytes_end s i (by omega)]
      simp only [word_All.l0, lex, told]
      rw [if_neg (by omega), List.append_nil]
/-- What All answers. -/
def allOf (s : ByteArray) : List S32 × Int × Int := if s.size > 4000 then ([], 0, 3) else told [] (lex (s.size + 1) ((bytesOf s).drop (blank (bytesOf s))) (blank (bytesOf s) : Int))
theorem all_f (s : ByteArray) (k : Nat) (hk : 30000 < k) : word_All.f k s = some (allOf s) := by
  unfold word_All.f allOf
  by_cases h : s.size > 4000
  · rw [if_pos (by omega), if_pos h]
  · have hb := blank_le (bytesOf s)
    rw [bytesOf_length] at hb
    rw [if_neg (by omega), if_neg h, blank_f s (by omega) k (by omega), Option.bind_some, if_pos (by omega)]
    exact all_l s (by omega) s.size k _ [] (by omega) hb (by simp; omega) (by omega)
/-- Words alike but for their places. -/
def alike (a b : List S32) : Prop := a.map (fun w => (w.f0, w.f2)) = b.map (fun w => (w.f0, w.f2))
theorem rd_lt (a : List S32) (i : Nat) (h : i < a.length) : rd_T32 a (i : Int) = a[i] := by
  unfold rd_T32
  rw [List.getD_eq_getElem?_getD, Int.toNat_natCast, List.getElem?_eq_getElem h]
  rfl
theorem lex_len (d : Nat) : ∀ (l : List Int) (a : Int), (lex d l a).1.length ≤ d := by
  induction d with
  | zero => intro l a; simp [lex]
  | succ d ih =>
    intro l a
    cases l with
    | nil => simp [lex]
    | cons c cs =>
      simp only [lex]
      split
      · simp
      · have := ih (List.drop (blank (List.drop (cut (c :: cs)).2 (c :: cs))) (List.drop (cut (c :: cs)).2 (c :: cs))) (a + ((cut (c :: cs)).2 : Int) + (blank (List.drop (cut (c :: cs)).2 (c :: cs)) : Int))
        simp only [List.length_cons]
        omega
theorem allOf_len (s : ByteArray) : (allOf s).1.length ≤ 4001 := by
  unfold allOf
  split
  · simp
  · unfold told
    have := lex_len (s.size + 1) ((bytesOf s).drop (blank (bytesOf s))) (blank (bytesOf s) : Int)
    split
    · simp; omega
    · simp
theorem wakes_f (k : Nat) (hk : 30000 < k) : topiarylaw11_wakes.f k = some true := by
  unfold topiarylaw11_wakes.f
  rw [all_f _ k hk, Option.bind_some]
  have h : allOf ⟨#[97, 58, 98, 124, 47, 120, 47, 59]⟩ = ([⟨1, 0, ⟨#[97]⟩⟩, ⟨3, 1, ⟨#[58]⟩⟩, ⟨1, 2, ⟨#[98]⟩⟩, ⟨3, 3, ⟨#[124]⟩⟩, ⟨2, 4, ⟨#[120]⟩⟩, ⟨3, 7, ⟨#[59]⟩⟩], 0, 0) := by
    rfl
  rw [h]
  simp [rd_T32, ByteArray.toList_eq]
/-! #### words as a text -/
def pieceB (w : S32) : ByteArray := if w.f0 = 2 then ((⟨#[47]⟩ : ByteArray) ++ w.f2) ++ (⟨#[47]⟩ : ByteArray) else w.f2
def shownB (l : List S32) : ByteArray := ⟨(Lib.join ((l.map pieceB).map (·.data.toList)) [32]).toArray⟩
theorem pieceB_size (w : S32) : (pieceB w).size ≤ w.f2.size + 2 := by
  unfold pieceB
  split
  · rw [ByteArray.size_append, ByteArray.size_append]
    show 1 + w.f2.size + 1 ≤ _
    omega
  · omega
theorem joinTail_len (sep : List UInt8) (M : Nat) (r : List (List UInt8)) (h : ∀ x ∈ r, x.length ≤ M) : (Lib.joinTail sep r).length ≤ r.length * (M + sep.length) := by
  induction r with
  | nil => simp [Lib.joinTail]
  | cons x r ih =>
    have h1 := h x (by simp)
    have h2 := ih (fun y hy => h y (by simp [hy]))
    unfold Lib.joinTail at h2 ⊢
    rw [List.map_cons, List.flatten_cons, List.length_append, List.length_append, List.length_cons, Nat.add_one_mul]
    omega
theorem join_len (sep : List UInt8) (M : Nat) (r : List (List UInt8)) (h : ∀ x ∈ r, x.length ≤ M) : (Lib.join r sep).length ≤ r.length * (M + sep.length) := by
  cases r with
  | nil => simp [Lib.join_nil]
  | cons x r =>
    have h1 := h x (by simp)
    have h2 := joinTail_len sep M r (fun y hy => h y (by simp [hy]))
    rw [Lib.join_cons, List.length_append, List.length_cons, Nat.add_one_mul]
    omega
theorem shown_len (l : List S32) (M : Nat) (h : ∀ w ∈ l, w.f2.size ≤ M) : (Lib.join ((l.map pieceB).map (·.data.toList)) [32]).length ≤ l.length * (M + 3) := by
  have := join_len [32] (M + 2) ((l.map pieceB).map (·.data.toList)) (fun x hx => by
    obtain ⟨b, hb, rfl⟩ := List.mem_map.mp hx
    obtain ⟨w, hw, rfl⟩ := List.mem_map.mp hb
    have h1 := h w hw
    have h2 := pieceB_size w
    show (pieceB w).data.toList.length ≤ M + 2
    rw [Array.length_toList]
    show (pieceB w).size ≤ M + 2
    omega)
  rw [List.length_map, List.length_map] at this
  exact this
theorem wshow_l (l : List S32) (hl : l.length ≤ 10000) (h : ∀ w ∈ l, w.f2.size ≤ 10000) (d : Nat) : ∀ (k i : Nat), i + d = l.length → d < k →
    word_Show.l0 k ((l.take i).map pieceB) l (l.length : Int) (i : Int) = some (shownB l) := by
  have hj := shown_len l 10000 h
  have hj2 : l.length * (10000 + 3) ≤ 10000 * 10003 := Nat.mul_le_mul hl (Nat.le_refl _)
  induction d with
  | zero =>
    intro k i h1 h2
    obtain ⟨k, rfl⟩ : ∃ m, k = m + 1 := ⟨k - 1, by omega⟩
    rw [word_Show.l0, if_neg (by omega), List.take_of_length_le (by omega)]
    unfold strings_Join.f
    rw [if_pos ⟨by rw [List.length_map]; omega, by show (Lib.join ((l.map pieceB).map (·.data.toList)) [32]).length ≤ _; omega⟩]
    rfl
  | succ d ih =>
    intro k i h1 h2
    obtain ⟨k, rfl⟩ : ∃ m, k = m + 1 := ⟨k - 1, by omega⟩
    have hw : wrap64 ((i : Int) + 1) = ((i + 1 : Nat) : Int) := by rw [wr (by omega) (by omega)]; omega
    have hi : i < l.length := by omega
    have hs := h l[i] (List.getElem_mem hi)
    have ihh := ih k (i + 1) (by omega) (by omega)
    rw [List.take_succ_eq_append_getElem hi, List.map_append, List.map_cons, List.map_nil] at ihh
    have hlen : ((l.take i).map pieceB).length < 8796093022208 := by rw [List.length_map, List.length_take]; omega
    rw [word_Show.l0, if_pos (by omega), if_pos (by omega), if_pos (by omega), hw, rd_lt l i hi]
    by_cases h2 : l[i].f0 = 2
    · have hp : pieceB l[i] = ((⟨#[47]⟩ : ByteArray) ++ l[i].f2) ++ (⟨#[47]⟩ : ByteArray) := by unfold pieceB; rw [if_pos h2]
      have hsz : ((⟨#[47]⟩ : ByteArray) ++ l[i].f2).size = 1 + l[i].f2.size := by rw [ByteArray.size_append]; rfl
      rw [if_pos h2, if_pos (by omega), if_pos (by omega), if_pos hlen, ← hp]
      exact ihh
    · have hp : pieceB l[i] = l[i].f2 := by unfold pieceB; rw [if_neg h2]
      rw [if_neg h2, if_pos hlen]
      rw [hp] at ihh
      exact ihh
theorem wshow_f (l : List S32) (hl : l.length ≤ 10000) (h : ∀ w ∈ l, w.f2.size ≤ 10000) (k : Nat) (hk : l.length < k) : word_Show.f k l = some (shownB l) := by
  have := wshow_l l hl h l.length k 0 (by omega) hk
  exact this
theorem shownB_one (w : S32) : shownB [w] = pieceB w := by
  unfold shownB
  rw [List.map_cons, List.map_nil, List.map_cons, List.map_nil, Lib.join_one]
theorem shownB_snoc (xs : List S32) (w : S32) (h : xs ≠ []) : shownB (xs ++ [w]) = (shownB xs ++ (⟨#[32]⟩ : ByteArray)) ++ pieceB w := by
  obtain ⟨x, r, rfl⟩ : ∃ x r, xs = x :: r := by cases xs with | nil => exact absurd rfl h | cons x r => exact ⟨x, r, rfl⟩
  unfold shownB
  rw [List.cons_append, List.map_cons, List.map_append, List.map_cons, List.map_append, List.map_cons, List.map_nil, List.map_cons, List.map_nil, List.map_cons, List.map_cons, Lib.join_cons, Lib.join_cons]
  unfold Lib.joinTail
  rw [List.map_append, List.flatten_append]
  apply ByteArray.ext
  apply Array.ext'
  simp [ByteArray.data_append]
theorem shownB_size (l : List S32) (M : Nat) (h : ∀ w ∈ l, w.f2.size ≤ M) : (shownB l).size ≤ l.length * (M + 3) := by
  show (Lib.join ((l.map pieceB).map (·.data.toList)) [32]).length ≤ _
  exact shown_len l M h
theorem rshow_l (l : List S32) (hl : l.length ≤ 10000) (h : ∀ w ∈ l, w.f2.size ≤ 10000) (d : Nat) : ∀ (k i : Nat), i + d = l.length → d < k →
    topiaryref11_Show.l0 k l (shownB (l.take i)) (i : Int) = some (shownB l) := by
  induction d with
  | zero =>
    intro k i h1 h2
    obtain ⟨k, rfl⟩ : ∃ m, k = m + 1 := ⟨k - 1, by omega⟩
    rw [topiaryref11_Show.l0, if_neg (by omega), List.take_of_length_le (by omega)]
  | succ d ih =>
    intro k i h1 h2
    obtain ⟨k, rfl⟩ : ∃ m, k = m + 1 := ⟨k - 1, by omega⟩
    have hw : wrap64 ((i : Int) + 1) = ((i + 1 : Nat) : Int) := by rw [wr (by omega) (by omega)]; omega
    have hi : i < l.length := by omega
    have hs := h l[i] (List.getElem_mem hi)
    have ihh := ih k (i + 1) (by omega) (by omega)
    have hsz := shownB_size (l.take i) 10000 (fun w hw => h w (List.mem_of_mem_take hw))
    have hb : (l.take i).length * (10000 + 3) ≤ 10000 * 10003 := Nat.mul_le_mul (by rw [List.length_take]; omega) (Nat.le_refl _)
    rw [List.take_succ_eq_append_getElem hi] at ihh
    have e47 : (⟨#[47]⟩ : ByteArray).size = 1 := rfl
    have e32 : (⟨#[32]⟩ : ByteArray).size = 1 := rfl
    rw [topiaryref11_Show.l0, if_pos (by omega), hw, rd_lt l i hi]
    by_cases h0 : (i : Int) > 0
    · rw [if_pos h0, if_pos (by omega), if_pos (by omega)]
      have hne : l.take i ≠ [] := by intro e; have := congrArg List.length e; rw [List.length_take, List.length_nil] at this; omega
      rw [shownB_snoc _ _ hne] at ihh
      by_cases h2 : l[i].f0 = 2
      · have hp : pieceB l[i] = ((⟨#[47]⟩ : ByteArray) ++ l[i].f2) ++ (⟨#[47]⟩ : ByteArray) := by unfold pieceB; rw [if_pos h2]
        rw [if_pos h2, if_pos (by omega), if_pos (by rw [ByteArray.size_append]; omega), if_pos (by rw [ByteArray.size_append, ByteArray.size_append, ByteArray.size_append]; omega), ← hp]
        exact ihh
      · have hp : pieceB l[i] = l[i].f2 := by unfold pieceB; rw [if_neg h2]
        rw [if_neg h2, if_pos (by rw [ByteArray.size_append]; omega), ← hp]
        exact ihh
    · obtain rfl : i = 0 := by omega
      clear hb hsz
      have hi : 0 < l.length := hi
      rw [if_neg h0, if_pos (by omega), List.take_zero]
      rw [List.take_zero, List.nil_append, shownB_one] at ihh
      rw [show shownB [] = ByteArray.empty from rfl]
      have hz : ByteArray.empty.size = 0 := rfl
      by_cases h2 : l[0].f0 = 2
      · have hp : pieceB l[0] = ((⟨#[47]⟩ : ByteArray) ++ l[0].f2) ++ (⟨#[47]⟩ : ByteArray) := by unfold pieceB; rw [if_pos h2]
        rw [if_pos h2, if_pos (by omega), if_pos (by rw [ByteArray.size_append]; omega), if_pos (by rw [ByteArray.size_append, ByteArray.size_append]; omega), ← hp, ByteArray.empty_append]
        exact ihh
      · have hp : pieceB l[0] = l[0].f2 := by unfold pieceB; rw [if_neg h2]
        rw [if_neg h2, if_pos (by omega), ← hp, ByteArray.empty_append]
        exact ihh
theorem rshow_f (l : List S32) (hl : l.length ≤ 10000) (h : ∀ w ∈ l, w.f2.size ≤ 10000) (k : Nat) (hk : l.length < k) : topiaryref11_Show.f k l = some (shownB l) := by
  have := rshow_l l hl h l.length k 0 (by omega) hk
  exact this
theorem shows_l (l : List S32) (hl : l.length ≤ 200) (d : Nat) : ∀ (k i : Nat), i + d = l.length → 300 + d < k → (∀ j (hj : j < l.length), j < i → l[j].f2.size ≤ 1000) →
    topiarylaw11_WordShows.l0 k l (l.length : Int) (i : Int) = some true := by
  induction d with
  | zero =>
    intro k i h1 h2 h
    obtain ⟨k, rfl⟩ : ∃ m, k = m + 1 := ⟨k - 1, by omega⟩
    have hall : ∀ w ∈ l, w.f2.size ≤ 10000 := by
      intro w hw
      obtain ⟨j, hj, rfl⟩ := List.mem_iff_getElem.mp hw
      have := h j hj (by omega)
      omega
    rw [topiarylaw11_WordShows.l0, if_neg (by omega), Option.bind_some, List.nil_append, if_pos (by simp only [List.length_nil]; omega), wshow_f l (by omega) hall k (by omega), Option.bind_some, rshow_f l (by omega) hall k (by omega), Option.bind_some]
    simp
  | succ d ih =>
    intro k i h1 h2 h
    obtain ⟨k, rfl⟩ : ∃ m, k = m + 1 := ⟨k - 1, by omega⟩
    have hw : wrap64 ((i : Int) + 1) = ((i + 1 : Nat) : Int) := by rw [wr (by omega) (by omega)]; omega
    have hi : i < l.length := by omega
    rw [topiarylaw11_WordShows.l0, if_pos (by omega), if_pos (by omega), if_pos (by omega), hw, rd_lt l i hi]
    by_cases hs : (l[i].f2.size : Int) > 1000
    · rw [if_pos hs]
    · rw [if_neg hs]
      refine ih k (i + 1) (by omega) (by omega) (fun j hj hj2 => ?_)
      rcases Nat.lt_or_ge j i with hlt | hge
      · exact h j hj hlt
      · obtain rfl : j = i := by omega
        omega
theorem law (l : List S32) : ∃ k, topiarylaw11_WordShows.f k l = some true := by
  refine ⟨40000, ?_⟩
  unfold topiarylaw11_WordShows.f
  rw [wakes_f _ (by omega), Option.bind_some, if_pos rfl]
  by_cases h : (l.length : Int) > 200
  · rw [if_pos h]
  · rw [if_neg h]
    exact shows_l l (by omega) l.length 40000 0 (by omega) (by omega) (fun j hj h0 => by omega)

end Go.Proofs.Ytjclnihkcghmaaa.Pure
