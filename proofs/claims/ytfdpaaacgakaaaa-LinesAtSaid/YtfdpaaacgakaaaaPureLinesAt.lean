/- Proved here: for every text up to 4000 bytes, and any line and column, lines.At is the place that the document tells, or refuses; longer texts are let go. -/
import Derived.Test.YtfdpaaacgakaaaaPLinesAtx1
namespace Go.Proofs.Ytfdpaaacgakaaaa.Pure
open Go.RowKit Go.Proofs.Ytfdpaaacgakaaaa.PLinesAt Go.Proofs.YtfdpaaacgakaaaaW.PrintWords Go.Proofs.YtfdpaaacgakaaaaW.PrintLast

/-! #### where lines begin, as a list -/
theorem wr {a : Int} (h : -9223372036854775808 ≤ a) (h2 : a < 9223372036854775808) : wrap64 a = a := by unfold wrap64; omega
/-- Behind each byte 10 of the d bytes from i on. -/
def st (b : Int → Int) : Nat → Nat → List Int
  | _, 0 => []
  | i, d + 1 => if b (i : Int) = 10 then ((i : Int) + 1) :: st b (i + 1) d else st b (i + 1) d
theorem st_len (b : Int → Int) (d : Nat) : ∀ i, (st b i d).length ≤ d := by
  induction d with
  | zero => intro i; simp [st]
  | succ d ih =>
    intro i
    have := ih (i + 1)
    unfold st
    split <;> simp <;> omega
theorem starts_l0 (s : ByteArray) (hn : s.size ≤ 10000) (d : Nat) : ∀ (k i : Nat) (acc : List Int), i + d = s.size → acc.length ≤ i + 1 → d < k →
    lines_Starts.l0 k s acc (s.size : Int) (i : Int) = some (acc ++ st (bt s) i d) := by
  induction d with
  | zero =>
    intro k i acc h1 h2 h3
    obtain ⟨k, rfl⟩ : ∃ m, k = m + 1 := ⟨k - 1, by omega⟩
    simp only [lines_Starts.l0]
    rw [if_neg (by omega)]
    simp [st]
  | succ d ih =>
    intro k i acc h1 h2 h3
    obtain ⟨k, rfl⟩ : ∃ m, k = m + 1 := ⟨k - 1, by omega⟩
    have hw : wrap64 ((i : Int) + 1) = ((i + 1 : Nat) : Int) := by rw [wr (by omega) (by omega)]; omega
    simp only [lines_Starts.l0]
    rw [if_pos (by omega), if_pos (by omega), if_pos (by omega), hw]
    by_cases h10 : bt s (i : Int) = 10
    · rw [if_pos h10, if_pos (by omega), ih k (i + 1) _ (by omega) (by simp; omega) (by omega)]
      simp [st, h10]
    · rw [if_neg h10, ih k (i + 1) _ (by omega) (by omega) (by omega)]
      simp [st, h10]
theorem starts_f (s : ByteArray) (hn : s.size ≤ 10000) (k : Nat) (hk : s.size < k) : lines_Starts.f k s = some (0 :: st (bt s) 0 s.size) := by
  unfold lines_Starts.f
  have := starts_l0 s hn s.size k 0 [0] (by omega) (by simp) hk
  simpa using this
theorem same_l0 (a c : List Int) (d : Nat) : ∀ (k i : Nat), i + d = a.length → a.length = c.length → a.length ≤ 20000 → d < k →
    topiaryref03_Same.l0 k a c (i : Int) = some (decide (a.drop i = c.drop i)) := by
  induction d with
  | zero =>
    intro k i h1 h2 h3 h4
    obtain ⟨k, rfl⟩ : ∃ m, k = m + 1 := ⟨k - 1, by omega⟩
    simp only [topiaryref03_Same.l0]
    rw [if_neg (by omega), List.drop_of_length_le (by omega), List.drop_of_length_le (by omega)]
    simp
  | succ d ih =>
    intro k i h1 h2 h3 h4
    obtain ⟨k, rfl⟩ : ∃ m, k = m + 1 := ⟨k - 1, by omega⟩
    have hw : wrap64 ((i : Int) + 1) = ((i + 1 : Nat) : Int) := by rw [wr (by omega) (by omega)]; omega
    simp only [topiaryref03_Same.l0]
    rw [if_pos (by omega), if_pos (by omega), if_pos (by omega), hw, ih k (i + 1) (by omega) h2 h3 (by omega)]
    have ha : a.drop i = rd a i :: a.drop (i + 1) := by
      rw [List.drop_eq_getElem_cons (by omega)]
      simp [rd, List.getD, List.getElem?_eq_getElem (show i < a.length by omega)]
    have hc : c.drop i = rd c i :: c.drop (i + 1) := by
      rw [List.drop_eq_getElem_cons (by omega)]
      simp [rd, List.getD, List.getElem?_eq_getElem (show i < c.length by omega)]
    rw [ha, hc]
    by_cases h : rd a (i : Int) = rd c (i : Int)
    · rw [if_pos h]; simp [h]
    · rw [if_neg h]; simp [h]
theorem same_f (a c : List Int) (h : a.length ≤ 20000) (k : Nat) (hk : a.length < k) : topiaryref03_Same.f k a c = some (decide (a = c)) := by
  unfold topiaryref03_Same.f
  by_cases e : a.length = c.length
  · rw [if_pos (by omega)]
    have := same_l0 a c a.length k 0 (by omega) e h hk
    simpa using this
  · rw [if_neg (by omega)]
    have : a ≠ c := fun h => e (by rw [h])
    simp [this]
theorem wakes_f (k : Nat) (hk : 10 < k) : topiarylaw03_wakes.f k = some true := by
  unfold topiarylaw03_wakes.f
  rw [starts_f _ (by decide) k (by show 4 < k; omega)]
  have : (0 :: st (bt ⟨#[97, 10, 98, 10]⟩) 0 (ByteArray.size ⟨#[97, 10, 98, 10]⟩)) = [0, 2, 4] := by decide +kernel
  rw [this, Option.bind_some, same_f _ _ (by decide) k (by show 3 < k; omega)]
  rfl
theorem int_wf {n : Int} (h : (Lit.int .i64 n).wf = true) : -9223372036854775808 ≤ n ∧ n < 9223372036854775808 := by
  simp [Lit.wf, IntKind.min, IntKind.max, IntKind.signed, IntKind.bits] at h
  omega
/-- The place of column 'col' of the line 'line', counted from a line l that begins at 'from', where 'rest' are the later beginnings. -/
def place (n : Int) : Int → List Int → Int → Int → Int → Int × Int
  | from_, [], l, line, col => if line = l ∧ 1 ≤ col ∧ col ≤ n - from_ + 1 then (from_ + col - 1, 0) else (0, 2)
  | from_, r :: rs, l, line, col =>
    if line = l then (if 1 ≤ col ∧ col ≤ r - 1 - from_ + 1 then (from_ + col - 1, 0) else (0, 2)) else place n r rs (l + 1) line col
theorem place_low (n : Int) (rs : List Int) : ∀ (f l line col : Int), line < l → place n f rs l line col = (0, 2) := by
  induction rs with
  | nil => intro f l line col h; simp only [place]; rw [if_neg (by omega)]
  | cons r rs ih => intro f l line col h; simp only [place]; rw [if_neg (by omega), ih _ _ _ _ (by omega)]
theorem place_col (n : Int) (rs : List Int) : ∀ (f l line col : Int), col < 1 → place n f rs l line col = (0, 2) := by
  induction rs with
  | nil => intro f l line col h; simp only [place]; rw [if_neg (by omega)]
  | cons r rs ih => intro f l line col h; simp only [place]; split; rw [if_neg (by omega)]; rw [ih _ _ _ _ (by omega)]
theorem rd_cons_succ (a : Int) (l : List Int) (i : Int) (h : 1 ≤ i) : rd (a :: l) i = rd l (i - 1) := by
  unfold rd
  rw [show i.toNat = (i - 1).toNat + 1 from by omega]
  simp
theorem place_off (n : Int) (rs : List Int) : ∀ (f l line col : Int), line - l > (rs.length : Int) → place n f rs l line col = (0, 2) := by
  induction rs with
  | nil => intro f l line col h; simp only [List.length_nil] at h; simp only [place]; rw [if_neg (by omega)]
  | cons r rs ih => intro f l line col h; simp only [List.length_cons] at h; simp only [place]; rw [if_neg (by omega), ih _ _ _ _ (by omega)]
theorem place_in (n : Int) (rs : List Int) : ∀ (f l line col : Int), l ≤ line → line - l < (rs.length : Int) → place n f rs l line col =
    if 1 ≤ col ∧ col ≤ rd rs (line - l) - 1 - rd (f :: rs) (line - l) + 1 then (rd (f :: rs) (line - l) + col - 1, 0) else (0, 2) := by
  induction rs with
  | nil => intro f l line col h h2; simp only [List.length_nil] at h2; omega
  | cons r rs ih =>
    intro f l line col h h2
    simp only [List.length_cons] at h2
    simp only [place]
    by_cases e : line = l
    · subst e
      rw [if_pos rfl, show line - line = 0 from by omega]
      simp only [rd, Int.toNat_zero, List.getD_cons_zero]
    · rw [if_neg e, ih _ _ _ _ (by omega) (by omega), rd_cons_succ f (r :: rs) _ (by omega), show line - (l + 1) = line - l - 1 from by omega, rd_cons_succ r rs (line - l) (by omega)]
theorem place_last (n : Int) (rs : List Int) : ∀ (f l line col : Int), line - l = (rs.length : Int) → place n f rs l line col =
    if 1 ≤ col ∧ col ≤ n - rd (f :: rs) (line - l) + 1 then (rd (f :: rs) (line - l) + col - 1, 0) else (0, 2) := by
  induction rs with
  | nil =>
    intro f l line col h
    simp only [List.length_nil] at h
    obtain rfl : line = l := by omega
    simp only [place]
    rw [show line - line = 0 from by omega]
    simp only [rd, Int.toNat_zero, List.getD_cons_zero, true_and]
  | cons r rs ih =>
    intro f l line col h
    simp only [List.length_cons] at h
    simp only [place]
    rw [if_neg (by omega), ih _ _ _ _ (by omega), rd_cons_succ f (r :: rs) _ (by omega), show line - (l + 1) = line - l - 1 from by omega]
theorem st_pos (b : Int → Int) (d : Nat) : ∀ i, ∀ x ∈ st b i d, 0 < x ∧ x ≤ (i : Int) + d := by
  induction d with
  | zero => intro i; simp [st]
  | succ d ih =>
    intro i x hx
    unfold st at hx
    split at hx
    · rcases List.mem_cons.1 hx with h | h
      · omega
      · have := ih _ x h; omega
    · have := ih _ x hx; omega
theorem refat_l0 (s : ByteArray) (hn : s.size ≤ 4000) (line col : Int) (d : Nat) : ∀ (k i : Nat) (l c : Int), i + d = s.size → 1 ≤ l → l ≤ i + 1 → 1 ≤ c → c ≤ i + 1 → 2 * d + 2 < k →
    topiaryref03_At.l0 k s line col l c (i : Int) =
      some (if line = l ∧ col < c then (0, 2) else place s.size (i - c + 1) (st (bt s) i d) l line col) := by
  induction d with
  | zero =>
    intro k i l c h1 hl hl2 hc hc2 h3
    obtain ⟨k, rfl⟩ : ∃ m, k = m + 1 + 1 + 1 := ⟨k - 3, by omega⟩
    have hw : wrap64 ((i : Int) + 1) = ((i : Int) + 1) := by rw [wr (by omega) (by omega)]
    simp only [topiaryref03_At.l0, topiaryref03_At.j1, st, place]
    rw [if_pos (by omega), hw]
    by_cases hlin : l = line
    · subst hlin
      by_cases hcol : c = col
      · subst hcol
        rw [if_pos rfl, if_pos (by simp), if_neg (by omega), if_pos (by omega)]
        congr 2; omega
      · rw [if_pos rfl, if_neg (by simpa using hcol), if_neg (by omega), if_neg (by omega)]
        by_cases g : col < c
        · rw [if_pos ⟨rfl, g⟩]
        · rw [if_neg (by omega), if_neg (by omega)]
    · rw [if_neg hlin, if_neg (by simp), if_neg (by omega), if_neg (by omega), if_neg (by omega), if_neg (by omega)]
  | succ d ih =>
    intro k i l c h1 hl hl2 hc hc2 h3
    obtain ⟨k, rfl⟩ : ∃ m, k = m + 1 + 1 := ⟨k - 2, by omega⟩
    have hw : wrap64 ((i : Int) + 1) = ((i + 1 : Nat) : Int) := by rw [wr (by omega) (by omega)]; omega
    simp only [topiaryref03_At.l0, topiaryref03_At.j1]
    have key : ¬ (l = line ∧ c = col) → (if (i : Int) < (s.size : Int) then (if 0 ≤ (i : Int) then (if (bt s i) = 10 then (topiaryref03_At.l0 k s line col (wrap64 (l + 1)) 1 (wrap64 ((i : Int) + 1))) else (topiaryref03_At.l0 k s line col l (wrap64 (c + 1)) (wrap64 ((i : Int) + 1)))) else (none)) else (topiaryref03_At.l0 k s line col l (wrap64 (c + 1)) (wrap64 ((i : Int) + 1)))) = some (if line = l ∧ col < c then (0, 2) else place s.size (i - c + 1) (st (bt s) i (d + 1)) l line col) := by
      intro hne
      rw [if_pos (by omega), if_pos (by omega), wr (a := l + 1) (by omega) (by omega), wr (a := c + 1) (by omega) (by omega), hw]
      have hpos := st_pos (bt s) d (i + 1)
      by_cases h10 : bt s (i : Int) = 10
      · rw [if_pos h10, ih k (i + 1) (l + 1) 1 (by omega) (by omega) (by omega) (by omega) (by omega) (by omega)]
        simp only [st, if_pos h10, place]
        rw [show ((i + 1 : Nat) : Int) - 1 + 1 = (i : Int) + 1 from by omega]
        by_cases hlin : line = l
        · subst hlin
          rw [if_neg (by omega), if_pos rfl, place_low _ _ _ _ _ _ (by omega)]
          by_cases g : col < c
          · rw [if_pos ⟨rfl, g⟩]
          · rw [if_neg (by omega), if_neg (by omega)]
        · rw [if_neg (by omega : ¬ (line = l ∧ col < c)), if_neg hlin]
          by_cases g : line = l + 1 ∧ col < 1
          · rw [if_pos g, place_col _ _ _ _ _ _ (by omega)]
          · rw [if_neg g]
      · rw [if_neg h10, ih k (i + 1) l (c + 1) (by omega) (by omega) (by omega) (by omega) (by omega) (by omega)]
        simp only [st, if_neg h10]
        rw [show ((i + 1 : Nat) : Int) - (c + 1) + 1 = (i : Int) - c + 1 from by omega]
        by_cases g : line = l ∧ col < c
        · rw [if_pos g, if_pos (by omega)]
        · rw [if_neg g, if_neg (by omega)]
    rw [if_pos (by omega)]
    by_cases hlin : l = line
    · rw [if_pos hlin]
      by_cases hcol : c = col
      · subst hlin; subst hcol
        rw [if_pos (by simp), if_neg (by omega)]
        have : place s.size (i - c + 1) (st (bt s) i (d + 1)) l l c = ((i : Int), 0) := by
          have hpos := st_pos (bt s) (d + 1) i
          cases hst : st (bt s) i (d + 1) with
          | nil => simp only [place]; rw [if_pos ⟨trivial, by omega, by omega⟩]; exact congrArg (fun x : Int => (x, (0 : Int))) (by omega)
          | cons r rs =>
            have hr : (i : Int) + 1 ≤ r := by
              have : ∀ (d i : Nat), ∀ x ∈ st (bt s) i d, (i : Int) + 1 ≤ x := by
                intro d
                induction d with
                | zero => intro i x hx; simp [st] at hx
                | succ d ih =>
                  intro i x hx
                  unfold st at hx
                  split at hx
                  · rcases List.mem_cons.1 hx with h | h
                    · omega
                    · have := ih _ x h; omega
                  · have := ih _ x hx; omega
              exact this (d + 1) i r (by rw [hst]; exact List.mem_cons_self ..)
            simp only [place]; rw [if_pos trivial, if_pos (by omega)]; congr 1; omega
        rw [this]
      · rw [if_neg (by simpa using hcol)]
        exact key (fun h => hcol h.2)
    · rw [if_neg hlin, if_neg (by simp)]
      exact key (fun h => hlin h.1)
theorem refat_f (s : ByteArray) (hn : s.size ≤ 4000) (line col : Int) (k : Nat) (hk : 2 * s.size + 2 < k) :
    topiaryref03_At.f k s line col = some (if line = 1 ∧ col < 1 then (0, 2) else place s.size 0 (st (bt s) 0 s.size) 1 line col) := by
  unfold topiaryref03_At.f
  have := refat_l0 s hn line col s.size k 0 1 1 (by omega) (by omega) (by omega) (by omega) (by omega) hk
  simpa using this
theorem refat_f' (s : ByteArray) (hn : s.size ≤ 4000) (line col : Int) (k : Nat) (hk : 2 * s.size + 2 < k) :
    topiaryref03_At.f k s line col = some (place s.size 0 (st (bt s) 0 s.size) 1 line col) := by
  rw [refat_f s hn line col k hk]
  by_cases g : line = 1 ∧ col < 1
  · rw [if_pos g, place_col _ _ _ _ _ _ g.2]
  · rw [if_neg g]
theorem rd_mem {l : List Int} {i : Int} (h0 : 0 ≤ i) (h : i < (l.length : Int)) : rd l i ∈ l := by
  unfold rd
  rw [List.getD_eq_getElem?_getD, List.getElem?_eq_getElem (by omega)]
  exact List.getElem_mem ..
theorem at_f (s : ByteArray) (hn : s.size ≤ 4000) (line col : Int) (hl : -9223372036854775808 ≤ line ∧ line < 9223372036854775808) (hc : -9223372036854775808 ≤ col ∧ col < 9223372036854775808) (k : Nat) (hk : s.size + 2 < k) :
    lines_At.f k s line col = some (place s.size 0 (st (bt s) 0 s.size) 1 line col) := by
  obtain ⟨k, rfl⟩ : ∃ m, k = m + 1 := ⟨k - 1, by omega⟩
  have hlen := st_len (bt s) s.size 0
  have hpos := st_pos (bt s) s.size 0
  unfold lines_At.f
  rw [starts_f s (by omega) _ (by omega)]
  simp only [Option.bind_some, lines_At.j0, List.length_cons]
  by_cases h1 : line < 1
  · rw [if_pos h1, if_pos trivial, place_low _ _ _ _ _ _ h1]
  · rw [if_neg h1]
    by_cases h2 : line > (((st (bt s) 0 s.size).length + 1 : Nat) : Int)
    · rw [if_pos h2, if_pos trivial]
      by_cases h3 : col < 1
      · rw [place_col _ _ _ _ _ _ h3]
      · rw [place_off _ _ _ _ _ _ (by omega)]
    · rw [if_neg h2]
      by_cases h3 : col < 1
      · rw [if_pos (by simpa using h3), place_col _ _ _ _ _ _ h3]
      · have hr0 : 0 ≤ rd (0 :: st (bt s) 0 s.size) (line - 1) ∧ rd (0 :: st (bt s) 0 s.size) (line - 1) ≤ 4000 := by
          have := rd_mem (l := 0 :: st (bt s) 0 s.size) (i := line - 1) (by omega) (by simp only [List.length_cons]; omega)
          rcases List.mem_cons.1 this with h | h
          · omega
          · have := hpos _ h; omega
        rw [if_neg (by simpa using h3), wr (a := line - 1) (by omega) (by omega), if_pos (by omega), if_pos (by omega)]
        generalize hfr : rd (0 :: st (bt s) 0 s.size) (line - 1) = fr at *
        by_cases h4 : line < (((st (bt s) 0 s.size).length + 1 : Nat) : Int)
        · have hr1 : 0 ≤ rd (st (bt s) 0 s.size) (line - 1) ∧ rd (st (bt s) 0 s.size) (line - 1) ≤ 4000 := by
            have := rd_mem (l := st (bt s) 0 s.size) (i := line - 1) (by omega) (by omega)
            have := hpos _ this; omega
          rw [if_pos h4, if_pos (by omega), place_in _ _ _ _ _ _ (by omega) (by omega), rd_cons_succ 0 _ line (by omega), hfr]
          generalize rd (st (bt s) 0 s.size) (line - 1) = te at *
          rw [wr (a := te - 1) (by omega) (by omega), wr (a := te - 1 - fr) (by omega) (by omega), wr (a := te - 1 - fr + 1) (by omega) (by omega)]
          by_cases g : col ≤ te - 1 - fr + 1
          · rw [if_neg (by omega), if_pos (by omega), wr (a := fr + col) (by omega) (by omega), wr (by omega) (by omega)]
          · rw [if_pos (by omega), if_neg (by omega)]
        · rw [if_neg h4, place_last _ _ _ _ _ _ (by omega), hfr]
          rw [wr (a := (s.size : Int) - fr) (by omega) (by omega), wr (a := (s.size : Int) - fr + 1) (by omega) (by omega)]
          by_cases g : col ≤ (s.size : Int) - fr + 1
          · rw [if_neg (by omega), if_pos (by omega), wr (a := fr + col) (by omega) (by omega), wr (by omega) (by omega)]
          · rw [if_pos (by omega), if_neg (by omega)]
theorem LinesAt : topiarylaw03_LinesAt.Pure := by
  intro s line col hs hl hc
  have hl := int_wf hl
  have hc := int_wf hc
  refine ⟨20000, ?_⟩
  unfold topiarylaw03_LinesAt.f
  rw [wakes_f _ (by omega)]
  simp only [Option.bind_some, if_true, topiarylaw03_long.f]
  by_cases hn : s.size ≤ 4000
  · rw [if_neg (by simp; omega), at_f s hn line col hl hc _ (by omega), refat_f' s hn line col _ (by omega)]
    simp
  · rw [if_pos (by simp; omega)]

end Go.Proofs.Ytfdpaaacgakaaaa.Pure
