/- Proved here: any place of a text (up to 4000 bytes) has the line and the column that the document tells, and they lead back to it; longer texts let go. -/
import Derived.Test.YtfdpaaacgakaaaaLPwalk
namespace Go.Proofs.Ytfdpaaacgakaaaa.Pure
open Go.RowKit Go.Proofs.Ytfdpaaacgakaaaa.PLinesPlaces Go.Proofs.YtfdpaaacgakaaaaW.PrintWords Go.Proofs.YtfdpaaacgakaaaaW.PrintLast
set_option linter.unusedVariables false
set_option linter.unusedSimpArgs false

/-! #### where lines begin, as a list -/
theorem wr {a : Int} (h : -9223372036854775808 ≤ a) (h2 : a < 9223372036854775808) : wrap64 a = a := by unfold wrap64; omega
/-- Behind each byte 10 of the d bytes from i on. -/
def st (b : Int → Int) : Nat → Nat → List Int
  | _, 0 => []
  | i, d + 1 => if b (i : Int) = 10 then ((i : Int) + 1) :: st b (i + 1) d else st b (i + 1) d
theorem st_len (b : Int → Int) (d : Nat) : ∀ i, (st b i d).length ≤ d := by
  induction d with
  | zero => intro i; simp [st]
  | succ d ih =>
    intro i
    have := ih (i + 1)
    unfold st
    split <;> simp <;> omega
theorem starts_l0 (s : ByteArray) (hn : s.size ≤ 10000) (d : Nat) : ∀ (k i : Nat) (acc : List Int), i + d = s.size → acc.length ≤ i + 1 → d < k →
    lines_Starts.l0 k s acc (s.size : Int) (i : Int) = some (acc ++ st (bt s) i d) := by
  induction d with
  | zero =>
    intro k i acc h1 h2 h3
    obtain ⟨k, rfl⟩ : ∃ m, k = m + 1 := ⟨k - 1, by omega⟩
    simp only [lines_Starts.l0]
    rw [if_neg (by omega)]
    simp [st]
  | succ d ih =>
    intro k i acc h1 h2 h3
    obtain ⟨k, rfl⟩ : ∃ m, k = m + 1 := ⟨k - 1, by omega⟩
    have hw : wrap64 ((i : Int) + 1) = ((i + 1 : Nat) : Int) := by rw [wr (by omega) (by omega)]; omega
    simp only [lines_Starts.l0]
    rw [if_pos (by omega), if_pos (by omega), if_pos (by omega), hw]
    by_cases h10 : bt s (i : Int) = 10
    · rw [if_pos h10, if_pos (by omega), ih k (i + 1) _ (by omega) (by simp; omega) (by omega)]
      simp [st, h10]
    · rw [if_neg h10, ih k (i + 1) _ (by omega) (by omega) (by omega)]
      simp [st, h10]
theorem starts_f (s : ByteArray) (hn : s.size ≤ 10000) (k : Nat) (hk : s.size < k) : lines_Starts.f k s = some (0 :: st (bt s) 0 s.size) := by
  unfold lines_Starts.f
  have := starts_l0 s hn s.size k 0 [0] (by omega) (by simp) hk
  simpa using this
theorem same_l0 (a c : List Int) (d : Nat) : ∀ (k i : Nat), i + d = a.length → a.length = c.length → a.length ≤ 20000 → d < k →
    topiaryref03_Same.l0 k a c (i : Int) = some (decide (a.drop i = c.drop i)) := by
  induction d with
  | zero =>
    intro k i h1 h2 h3 h4
    obtain ⟨k, rfl⟩ : ∃ m, k = m + 1 := ⟨k - 1, by omega⟩
    simp only [topiaryref03_Same.l0]
    rw [if_neg (by omega), List.drop_of_length_le (by omega), List.drop_of_length_le (by omega)]
    simp
  | succ d ih =>
    intro k i h1 h2 h3 h4
    obtain ⟨k, rfl⟩ : ∃ m, k = m + 1 := ⟨k - 1, by omega⟩
    have hw : wrap64 ((i : Int) + 1) = ((i + 1 : Nat) : Int) := by rw [wr (by omega) (by omega)]; omega
    simp only [topiaryref03_Same.l0]
    rw [if_pos (by omega), if_pos (by omega), if_pos (by omega), hw, ih k (i + 1) (by omega) h2 h3 (by omega)]
    have ha : a.drop i = rd a i :: a.drop (i + 1) := by
      rw [List.drop_eq_getElem_cons (by omega)]
      simp [rd, List.getD, List.getElem?_eq_getElem (show i < a.length by omega)]
    have hc : c.drop i = rd c i :: c.drop (i + 1) := by
      rw [List.drop_eq_getElem_cons (by omega)]
      simp [rd, List.getD, List.getElem?_eq_getElem (show i < c.length by omega)]
    rw [ha, hc]
    by_cases h : rd a (i : Int) = rd c (i : Int)
    · rw [if_pos h]; simp [h]
    · rw [if_neg h]; simp [h]
theorem same_f (a c : List Int) (h : a.length ≤ 20000) (k : Nat) (hk : a.length < k) : topiaryref03_Same.f k a c = some (decide (a = c)) := by
  unfold topiaryref03_Same.f
  by_cases e : a.length = c.length
  · rw [if_pos (by omega)]
    have := same_l0 a c a.length k 0 (by omega) e h hk
    simpa using this
  · rw [if_neg (by omega)]
    have : a ≠ c := fun h => e (by rw [h])
    simp [this]
theorem wakes_f (k : Nat) (hk : 10 < k) : topiarylaw03_wakes.f k = some true := by
  unfold topiarylaw03_wakes.f
  rw [starts_f _ (by decide) k (by show 4 < k; omega)]
  have : (0 :: st (bt ⟨#[97, 10, 98, 10]⟩) 0 (ByteArray.size ⟨#[97, 10, 98, 10]⟩)) = [0, 2, 4] := by decide +kernel
  rw [this, Option.bind_some, same_f _ _ (by decide) k (by show 3 < k; omega)]
  rfl
theorem int_wf {n : Int} (h : (Lit.int .i64 n).wf = true) : -9223372036854775808 ≤ n ∧ n < 9223372036854775808 := by
  simp [Lit.wf, IntKind.min, IntKind.max, IntKind.signed, IntKind.bits] at h
  omega
/-- The place of column 'col' of the line 'line', counted from a line l that begins at 'from', where 'rest' are the later beginnings. -/
def place (n : Int) : Int → List Int → Int → Int → Int → Int × Int
  | from_, [], l, line, col => if line = l ∧ 1 ≤ col ∧ col ≤ n - from_ + 1 then (from_ + col - 1, 0) else (0, 2)
  | from_, r :: rs, l, line, col =>
    if line = l then (if 1 ≤ col ∧ col ≤ r - 1 - from_ + 1 then (from_ + col - 1, 0) else (0, 2)) else place n r rs (l + 1) line col
theorem place_low (n : Int) (rs : List Int) : ∀ (f l line col : Int), line < l → place n f rs l line col = (0, 2) := by
  induction rs with
  | nil => intro f l line col h; simp only [place]; rw [if_neg (by omega)]
  | cons r rs ih => intro f l line col h; simp only [place]; rw [if_neg (by omega), ih _ _ _ _ (by omega)]
theorem place_col (n : Int) (rs : List Int) : ∀ (f l line col : Int), col < 1 → place n f rs l line col = (0, 2) := by
  induction rs with
  | nil => intro f l line col h; simp only [place]; rw [if_neg (by omega)]
  | cons r rs ih => intro f l line col h; simp only [place]; split; rw [if_neg (by omega)]; rw [ih _ _ _ _ (by omega)]
theorem rd_cons_succ (a : Int) (l : List Int) (i : Int) (h : 1 ≤ i) : rd (a :: l) i = rd l (i - 1) := by
  unfold rd
  rw [show i.toNat = (i - 1).toNat + 1 from by omega]
  simp
theorem place_off (n : Int) (rs : List Int) : ∀ (f l line col : Int), line - l > (rs.length : Int) → place n f rs l line col = (0, 2) := by
  induction rs with
  | nil => intro f l line col h; simp only [List.length_nil] at h; simp only [place]; rw [if_neg (by omega)]
  | cons r rs ih => intro f l line col h; simp only [List.length_cons] at h; simp only [place]; rw [if_neg (by omega), ih _ _ _ _ (by omega)]
theorem place_in (n : Int) (rs : List Int) : ∀ (f l line col : Int), l ≤ line → line - l < (rs.length : Int) → place n f rs l line col =
    if 1 ≤ col ∧ col ≤ rd rs (line - l) - 1 - rd (f :: rs) (line - l) + 1 then (rd (f :: rs) (line - l) + col - 1, 0) else (0, 2) := by
  induction rs with
  | nil => intro f l line col h h2; simp only [List.length_nil] at h2; omega
  | cons r rs ih =>
    intro f l line col h h2
    simp only [List.length_cons] at h2
    simp only [place]
    by_cases e : line = l
    · subst e
      rw [if_pos rfl, show line - line = 0 from by omega]
      simp only [rd, Int.toNat_zero, List.getD_cons_zero]
    · rw [if_neg e, ih _ _ _ _ (by omega) (by omega), rd_cons_succ f (r :: rs) _ (by omega), show line - (l + 1) = line - l - 1 from by omega, rd_cons_succ r rs (line - l) (by omega)]
theorem place_last (n : Int) (rs : List Int) : ∀ (f l line col : Int), line - l = (rs.length : Int) → place n f rs l line col =
    if 1 ≤ col ∧ col ≤ n - rd (f :: rs) (line - l) + 1 then (rd (f :: rs) (line - l) + col - 1, 0) else (0, 2) := by
  induction rs with
  | nil =>
    intro f l line col h
    simp only [List.length_nil] at h
    obtain rfl : line = l := by omega
    simp only [place]
    rw [show line - line = 0 from by omega]
    simp only [rd, Int.toNat_zero, List.getD_cons_zero, true_and]
  | cons r rs ih =>
    intro f l line col h
    simp only [List.length_cons] at h
    simp only [place]
    rw [if_neg (by omega), ih _ _ _ _ (by omega), rd_cons_succ f (r :: rs) _ (by omega), show line - (l + 1) = line - l - 1 from by omega]
theorem st_pos (b : Int → Int) (d : Nat) : ∀ i, ∀ x ∈ st b i d, 0 < x ∧ x ≤ (i : Int) + d := by
  induction d with
  | zero => intro i; simp [st]
  | succ d ih =>
    intro i x hx
    unfold st at hx
    split at hx
    · rcases List.mem_cons.1 hx with h | h
      · omega
      · have := ih _ x h; omega
    · have := ih _ x hx; omega
theorem rd_mem {l : List Int} {i : Int} (h0 : 0 ≤ i) (h : i < (l.length : Int)) : rd l i ∈ l := by
  unfold rd
  rw [List.getD_eq_getElem?_getD, List.getElem?_eq_getElem (by omega)]
  exact List.getElem_mem ..
theorem at_f (s : ByteArray) (hn : s.size ≤ 4000) (line col : Int) (hl : -9223372036854775808 ≤ line ∧ line < 9223372036854775808) (hc : -9223372036854775808 ≤ col ∧ col < 9223372036854775808) (k : Nat) (hk : s.size + 2 < k) :
    lines_At.f k s line col = some (place s.size 0 (st (bt s) 0 s.size) 1 line col) := by
  obtain ⟨k, rfl⟩ : ∃ m, k = m + 1 := ⟨k - 1, by omega⟩
  have hlen := st_len (bt s) s.size 0
  have hpos := st_pos (bt s) s.size 0
  unfold lines_At.f
  rw [starts_f s (by omega) _ (by omega)]
  simp only [Option.bind_some, lines_At.j0, List.length_cons]
  by_cases h1 : line < 1
  · rw [if_pos h1, if_pos trivial, place_low _ _ _ _ _ _ h1]
  · rw [if_neg h1]
    by_cases h2 : line > (((st (bt s) 0 s.size).length + 1 : Nat) : Int)
    · rw [if_pos h2, if_pos trivial]
      by_cases h3 : col < 1
      · rw [place_col _ _ _ _ _ _ h3]
      · rw [place_off _ _ _ _ _ _ (by omega)]
    · rw [if_neg h2]
      by_cases h3 : col < 1
      · rw [if_pos (by simpa using h3), place_col _ _ _ _ _ _ h3]
      · have hr0 : 0 ≤ rd (0 :: st (bt s) 0 s.size) (line - 1) ∧ rd (0 :: st (bt s) 0 s.size) (line - 1) ≤ 4000 := by
          have := rd_mem (l := 0 :: st (bt s) 0 s.size) (i := line - 1) (by omega) (by simp only [List.length_cons]; omega)
          rcases List.mem_cons.1 this with h | h
          · omega
          · have := hpos _ h; omega
        rw [if_neg (by simpa using h3), wr (a := line - 1) (by omega) (by omega), if_pos (by omega), if_pos (by omega)]
        generalize hfr : rd (0 :: st (bt s) 0 s.size) (line - 1) = fr at *
        by_cases h4 : line < (((st (bt s) 0 s.size).length + 1 : Nat) : Int)
        · have hr1 : 0 ≤ rd (st (bt s) 0 s.size) (line - 1) ∧ rd (st (bt s) 0 s.size) (line - 1) ≤ 4000 := by
            have := rd_mem (l := st (bt s) 0 s.size) (i := line - 1) (by omega) (by omega)
            have := hpos _ this; omega
          rw [if_pos h4, if_pos (by omega), place_in _ _ _ _ _ _ (by omega) (by omega), rd_cons_succ 0 _ line (by omega), hfr]
          generalize rd (st (bt s) 0 s.size) (line - 1) = te at *
          rw [wr (a := te - 1) (by omega) (by omega), wr (a := te - 1 - fr) (by omega) (by omega), wr (a := te - 1 - fr + 1) (by omega) (by omega)]
          by_cases g : col ≤ te - 1 - fr + 1
          · rw [if_neg (by omega), if_pos (by omega), wr (a := fr + col) (by omega) (by omega), wr (by omega) (by omega)]
          · rw [if_pos (by omega), if_neg (by omega)]
        · rw [if_neg h4, place_last _ _ _ _ _ _ (by omega), hfr]
          rw [wr (a := (s.size : Int) - fr) (by omega) (by omega), wr (a := (s.size : Int) - fr + 1) (by omega) (by omega)]
          by_cases g : col ≤ (s.size : Int) - fr + 1
          · rw [if_neg (by omega), if_pos (by omega), wr (a := fr + col) (by omega) (by omega), wr (by omega) (by omega)]
          · rw [if_pos (by omega), if_neg (by omega)]
theorem st_append (b : Int → Int) (d e : Nat) : ∀ i, st b i (d + e) = st b i d ++ st b (i + d) e := by
  induction d with
  | zero => intro i; simp [st]
  | succ d ih =>
    intro i
    rw [show d + 1 + e = (d + e) + 1 from by omega]
    simp only [st]
    have h := ih (i + 1)
    rw [show i + 1 + d = i + (d + 1) from by omega] at h
    split <;> simp [h]
theorem st_low (b : Int → Int) (d : Nat) : ∀ i, ∀ x ∈ st b i d, (i : Int) < x ∧ x ≤ (i : Int) + d := by
  induction d with
  | zero => intro i; simp [st]
  | succ d ih =>
    intro i x hx
    unfold st at hx
    split at hx
    · rcases List.mem_cons.1 hx with h | h
      · omega
      · have := ih _ x h; omega
    · have := ih _ x hx; omega
theorem st_one (b : Int → Int) (m : Nat) : st b 0 (m + 1) = st b 0 m ++ (if b (m : Int) = 10 then [(m : Int) + 1] else []) := by
  rw [st_append]
  simp [st]
/-- Where the line begins in which a place stands. -/
def back (b : Int → Int) (m : Nat) : Int := rd (0 :: st b 0 m) (((st b 0 m).length : Nat) : Int)
theorem rd_app_left (l m : List Int) (i : Nat) (h : i < l.length) : rd (l ++ m) (i : Int) = rd l (i : Int) := by
  unfold rd
  simp only [Int.toNat_natCast, List.getD_eq_getElem?_getD]
  rw [List.getElem?_append_left h]
theorem rd_app_right (l m : List Int) (i : Nat) : rd (l ++ m) ((l.length + i : Nat) : Int) = rd m (i : Int) := by
  unfold rd
  simp only [Int.toNat_natCast, List.getD_eq_getElem?_getD]
  rw [List.getElem?_append_right (by omega)]
  congr 2
  omega
theorem back_zero (b : Int → Int) : back b 0 = 0 := rfl
theorem back_succ (b : Int → Int) (m : Nat) : back b (m + 1) = if b (m : Int) = 10 then (m : Int) + 1 else back b m := by
  unfold back
  rw [st_one]
  by_cases h : b (m : Int) = 10
  · rw [if_pos h, if_pos h]
    have := rd_app_right (0 :: st b 0 m) [(m : Int) + 1] 0
    rw [List.cons_append] at this
    simp only [List.length_append, List.length_cons, List.length_nil, Nat.add_zero] at this ⊢
    rw [Nat.zero_add, this]
    rfl
  · rw [if_neg h, if_neg h, List.append_nil]
theorem back_bd (b : Int → Int) (m : Nat) : 0 ≤ back b m ∧ back b m ≤ m := by
  induction m with
  | zero => rw [back_zero]; omega
  | succ m ih => rw [back_succ]; split <;> omega
theorem line_l0 (s : ByteArray) (hn : s.size ≤ 4000) (a : Nat) (ha : a ≤ s.size) (d : Nat) : ∀ (k i : Nat) (c : Int), i + d = a → 1 ≤ c → c ≤ i + 1 → d < k →
    topiaryref03_Line.l0 k s (a : Int) c (i : Int) = some (c + ((st (bt s) i d).length : Int)) := by
  induction d with
  | zero =>
    intro k i c h1 h2 h3 h4
    obtain ⟨k, rfl⟩ : ∃ m, k = m + 1 := ⟨k - 1, by omega⟩
    simp only [topiaryref03_Line.l0]
    rw [if_neg (by omega)]
    simp [st]
  | succ d ih =>
    intro k i c h1 h2 h3 h4
    obtain ⟨k, rfl⟩ : ∃ m, k = m + 1 := ⟨k - 1, by omega⟩
    have hw : wrap64 ((i : Int) + 1) = ((i + 1 : Nat) : Int) := by rw [wr (by omega) (by omega)]; omega
    simp only [topiaryref03_Line.l0]
    rw [if_pos (by omega), if_pos (by omega), if_pos (by omega), wr (a := c + 1) (by omega) (by omega), hw]
    by_cases h10 : bt s (i : Int) = 10
    · rw [if_pos h10, ih k (i + 1) _ (by omega) (by omega) (by omega) (by omega)]
      simp only [st, if_pos h10, List.length_cons]
      congr 1
      omega
    · rw [if_neg h10, ih k (i + 1) _ (by omega) (by omega) (by omega) (by omega)]
      simp only [st, if_neg h10]
theorem col_l0 (s : ByteArray) (hn : s.size ≤ 4000) (m : Nat) : ∀ (k : Nat) (c : Int), m ≤ s.size → 1 ≤ c → c + m ≤ 5000 → m < k →
    topiaryref03_Column.l0 k s c ((m : Int) - 1) = some (c + ((m : Int) - back (bt s) m)) := by
  induction m with
  | zero =>
    intro k c h1 h2 h3 h4
    obtain ⟨k, rfl⟩ : ∃ m, k = m + 1 := ⟨k - 1, by omega⟩
    simp only [topiaryref03_Column.l0]
    rw [if_neg (by omega), back_zero]
    simp
  | succ m ih =>
    intro k c h1 h2 h3 h4
    obtain ⟨k, rfl⟩ : ∃ m, k = m + 1 := ⟨k - 1, by omega⟩
    have hm : ((m + 1 : Nat) : Int) - 1 = (m : Int) := by omega
    rw [hm, back_succ]
    simp only [topiaryref03_Column.l0]
    rw [if_pos (by omega), if_pos (by omega), if_pos (by omega)]
    by_cases h10 : bt s (m : Int) = 10
    · rw [if_pos h10, if_pos h10]
      congr 1
      omega
    · rw [if_neg h10, if_neg h10, wr (a := c + 1) (by omega) (by omega), wr (a := (m : Int) - 1) (by omega) (by omega), ih k _ (by omega) (by omega) (by omega) (by omega)]
      congr 1
      omega
theorem long_false (s : ByteArray) (h : s.size ≤ 4000) : topiarylaw03_long.f s = some false := by
  unfold topiarylaw03_long.f
  rw [decide_eq_false (by omega)]
theorem law (s : ByteArray) (a : Int) (hs : s.size ≤ 140737488351232) (ha : (Lit.int .i64 a).wf = true) (w : World) :
    Calls Try.prog 12 #[.string s, .int .i64 a] w fun e w' => e = .returned (.bool true) ∧ Below w.heap.size w w' := by
  have hw : topiarylaw03_wakes.f 20000 = some true := wakes_f _ (by omega)
  by_cases h4 : s.size ≤ 4000
  · have hl := long_false s h4
    by_cases h0 : a < 0
    · exact law_below 20000 s a w hw hl h0
    · by_cases h1 : (s.size : Int) < a
      · exact law_above 20000 s a w hw hl (by omega) h1
      · obtain ⟨n, rfl⟩ : ∃ n : Nat, a = (n : Int) := ⟨a.toNat, by omega⟩
        obtain ⟨e, he⟩ : ∃ e, s.size = n + e := ⟨s.size - n, by omega⟩
        have hst := starts_f s (by omega) 20000 (by omega)
        have happ : st (bt s) 0 s.size = st (bt s) 0 n ++ st (bt s) n e := by rw [he, st_append, Nat.zero_add]
        have hl1 := st_len (bt s) n 0
        have hl2 := st_len (bt s) e n
        have lo1 := st_low (bt s) n 0
        have lo2 := st_low (bt s) e n
        have hb := back_bd (bt s) n
        have hp : (((st (bt s) 0 n).length + 1 : Nat) : Int) - 1 = ((st (bt s) 0 n).length : Int) := by omega
        have hrd : rd (0 :: st (bt s) 0 s.size) ((((st (bt s) 0 n).length + 1 : Nat) : Int) - 1) = back (bt s) n := by
          rw [hp, happ, ← List.cons_append, rd_app_left _ _ _ (by simp)]
          rfl
        have q1 : ∀ i : Int, 0 ≤ i → i < (((st (bt s) 0 n).length + 1 : Nat) : Int) → decide ((n : Int) < rd (0 :: st (bt s) 0 s.size) i) = false := by
          intro i hi0 hi
          obtain ⟨j, rfl⟩ : ∃ j : Nat, i = (j : Int) := ⟨i.toNat, by omega⟩
          rw [happ, ← List.cons_append, rd_app_left _ _ _ (by simp; omega)]
          have := rd_mem (l := 0 :: st (bt s) 0 n) (i := (j : Int)) (by omega) (by simp only [List.length_cons]; omega)
          apply decide_eq_false
          rcases List.mem_cons.1 this with h | h
          · omega
          · have := lo1 _ h; omega
        have q2 : ∀ i : Int, (((st (bt s) 0 n).length + 1 : Nat) : Int) ≤ i → i < ((0 :: st (bt s) 0 s.size).length : Int) → decide ((n : Int) < rd (0 :: st (bt s) 0 s.size) i) = true := by
          intro i hi0 hi
          obtain ⟨j, rfl⟩ : ∃ j : Nat, i = (((0 :: st (bt s) 0 n).length + j : Nat) : Int) := ⟨i.toNat - (0 :: st (bt s) 0 n).length, by simp only [List.length_cons]; omega⟩
          rw [happ] at hi
          simp only [List.length_cons, List.length_append] at hi
          rw [happ, ← List.cons_append, rd_app_right]
          have := rd_mem (l := st (bt s) n e) (i := (j : Int)) (by omega) (by omega)
          apply decide_eq_true
          have := lo2 _ this; omega
        have hlen : (st (bt s) 0 s.size).length = (st (bt s) 0 n).length + (st (bt s) n e).length := by rw [happ, List.length_append]
        have hat : lines_At.f 20000 s (((st (bt s) 0 n).length + 1 : Nat) : Int) ((n : Int) - back (bt s) n + 1) = some ((n : Int), 0) := by
          rw [at_f s h4 _ _ (by omega) (by omega) _ (by omega)]
          by_cases hlast : (st (bt s) n e).length = 0
          · rw [place_last _ _ _ _ _ _ (by omega), hrd, if_pos (by omega)]
            congr 2
            omega
          · have hnx : (n : Int) < rd (st (bt s) 0 s.size) ((((st (bt s) 0 n).length + 1 : Nat) : Int) - 1) := by
              rw [hp, happ]
              have h2 := rd_app_right (st (bt s) 0 n) (st (bt s) n e) 0
              rw [Nat.add_zero] at h2
              rw [h2]
              have := rd_mem (l := st (bt s) n e) (i := ((0 : Nat) : Int)) (by omega) (by omega)
              have := lo2 _ this; omega
            rw [place_in _ _ _ _ _ _ (by omega) (by omega), hrd, if_pos (by omega)]
            congr 2
            omega
        have hli : topiaryref03_Line.f 20000 s (n : Int) = some ((((st (bt s) 0 n).length + 1 : Nat) : Int)) := by
          unfold topiaryref03_Line.f
          have := line_l0 s h4 n (by omega) n 20000 0 1 (by omega) (by omega) (by omega) (by omega)
          rw [Int.natCast_zero] at this
          rw [this]
          congr 1
          omega
        have hco : topiaryref03_Column.f 20000 s (n : Int) = some ((n : Int) - back (bt s) n + 1) := by
          unfold topiaryref03_Column.f
          rw [wr (by omega) (by omega), col_l0 s h4 n 20000 1 (by omega) (by omega) (by omega) (by omega)]
          congr 1
          omega
        refine law_there 20000 s (n : Int) w hw hl (0 :: st (bt s) 0 s.size) ((st (bt s) 0 n).length + 1) ((n : Int) - back (bt s) n + 1) (by omega) (by omega) (by omega) hst ?_ (by omega) ?_ ?_ q1 q2 (by rw [hrd]) hat hli hco
        · simp only [List.length_cons]; omega
        · simp only [List.length_cons]; omega
        · rw [hrd]; omega
  · refine law_long 20000 s a w hw ?_
    unfold topiarylaw03_long.f
    rw [decide_eq_true (by omega)]

end Go.Proofs.Ytfdpaaacgakaaaa.Pure
