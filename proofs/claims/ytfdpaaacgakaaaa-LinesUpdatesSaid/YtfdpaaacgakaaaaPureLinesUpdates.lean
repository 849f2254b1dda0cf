/- Proved here: behind any edit lines begin where they do in what it makes; texts over 4000 bytes, edits over 5000 and lists over 5000 are let go. -/
import Derived.Test.YtfdpaaacgakaaaaGLinesUpdatesx12
namespace Go.Proofs.Ytfdpaaacgakaaaa.Pure
open Go.RowKit Go.Proofs.Ytfdpaaacgakaaaa.PLinesUpdates Go.Proofs.YtfdpaaacgakaaaaW.PrintWords Go.Proofs.YtfdpaaacgakaaaaW.PrintLast
set_option linter.unusedVariables false
set_option linter.unusedSimpArgs false

/-! #### where lines begin, as a list -/
theorem wr {a : Int} (h : -9223372036854775808 ≤ a) (h2 : a < 9223372036854775808) : wrap64 a = a := by unfold wrap64; omega
/-- Behind each byte 10 of the d bytes from i on. -/
def st (b : Int → Int) : Nat → Nat → List Int
  | _, 0 => []
  | i, d + 1 => if b (i : Int) = 10 then ((i : Int) + 1) :: st b (i + 1) d else st b (i + 1) d
theorem st_len (b : Int → Int) (d : Nat) : ∀ i, (st b i d).length ≤ d := by
  induction d with
  | zero => intro i; simp [st]
  | succ d ih =>
    intro i
    have := ih (i + 1)
    unfold st
    split <;> simp <;> omega
theorem starts_l0 (s : ByteArray) (hn : s.size ≤ 10000) (d : Nat) : ∀ (k i : Nat) (acc : List Int), i + d = s.size → acc.length ≤ i + 1 → d < k →
    lines_Starts.l0 k s acc (s.size : Int) (i : Int) = some (acc ++ st (bt s) i d) := by
  induction d with
  | zero =>
    intro k i acc h1 h2 h3
    obtain ⟨k, rfl⟩ : ∃ m, k = m + 1 := ⟨k - 1, by omega⟩
    simp only [lines_Starts.l0]
    rw [if_neg (by omega)]
    simp [st]
  | succ d ih =>
    intro k i acc h1 h2 h3
    obtain ⟨k, rfl⟩ : ∃ m, k = m + 1 := ⟨k - 1, by omega⟩
    have hw : wrap64 ((i : Int) + 1) = ((i + 1 : Nat) : Int) := by rw [wr (by omega) (by omega)]; omega
    simp only [lines_Starts.l0]
    rw [if_pos (by omega), if_pos (by omega), if_pos (by omega), hw]
    by_cases h10 : bt s (i : Int) = 10
    · rw [if_pos h10, if_pos (by omega), ih k (i + 1) _ (by omega) (by simp; omega) (by omega)]
      simp [st, h10]
    · rw [if_neg h10, ih k (i + 1) _ (by omega) (by omega) (by omega)]
      simp [st, h10]
theorem starts_f (s : ByteArray) (hn : s.size ≤ 10000) (k : Nat) (hk : s.size < k) : lines_Starts.f k s = some (0 :: st (bt s) 0 s.size) := by
  unfold lines_Starts.f
  have := starts_l0 s hn s.size k 0 [0] (by omega) (by simp) hk
  simpa using this
theorem same_l0 (a c : List Int) (d : Nat) : ∀ (k i : Nat), i + d = a.length → a.length = c.length → a.length ≤ 20000 → d < k →
    topiaryref03_Same.l0 k a c (i : Int) = some (decide (a.drop i = c.drop i)) := by
  induction d with
  | zero =>
    intro k i h1 h2 h3 h4
    obtain ⟨k, rfl⟩ : ∃ m, k = m + 1 := ⟨k - 1, by omega⟩
    simp only [topiaryref03_Same.l0]
    rw [if_neg (by omega), List.drop_of_length_le (by omega), List.drop_of_length_le (by omega)]
    simp
  | succ d ih =>
    intro k i h1 h2 h3 h4
    obtain ⟨k, rfl⟩ : ∃ m, k = m + 1 := ⟨k - 1, by omega⟩
    have hw : wrap64 ((i : Int) + 1) = ((i + 1 : Nat) : Int) := by rw [wr (by omega) (by omega)]; omega
    simp only [topiaryref03_Same.l0]
    rw [if_pos (by omega), if_pos (by omega), if_pos (by omega), hw, ih k (i + 1) (by omega) h2 h3 (by omega)]
    have ha : a.drop i = rd a i :: a.drop (i + 1) := by
      rw [List.drop_eq_getElem_cons (by omega)]
      simp [rd, List.getD, List.getElem?_eq_getElem (show i < a.length by omega)]
    have hc : c.drop i = rd c i :: c.drop (i + 1) := by
      rw [List.drop_eq_getElem_cons (by omega)]
      simp [rd, List.getD, List.getElem?_eq_getElem (show i < c.length by omega)]
    rw [ha, hc]
    by_cases h : rd a (i : Int) = rd c (i : Int)
    · rw [if_pos h]; simp [h]
    · rw [if_neg h]; simp [h]
theorem same_f (a c : List Int) (h : a.length ≤ 20000) (k : Nat) (hk : a.length < k) : topiaryref03_Same.f k a c = some (decide (a = c)) := by
  unfold topiaryref03_Same.f
  by_cases e : a.length = c.length
  · rw [if_pos (by omega)]
    have := same_l0 a c a.length k 0 (by omega) e h hk
    simpa using this
  · rw [if_neg (by omega)]
    have : a ≠ c := fun h => e (by rw [h])
    simp [this]
theorem wakes_f (k : Nat) (hk : 10 < k) : topiarylaw03_wakes.f k = some true := by
  unfold topiarylaw03_wakes.f
  rw [starts_f _ (by decide) k (by show 4 < k; omega)]
  have : (0 :: st (bt ⟨#[97, 10, 98, 10]⟩) 0 (ByteArray.size ⟨#[97, 10, 98, 10]⟩)) = [0, 2, 4] := by decide +kernel
  rw [this, Option.bind_some, same_f _ _ (by decide) k (by show 3 < k; omega)]
  rfl
theorem rstarts_l0 (s : ByteArray) (hn : s.size ≤ 10000) (d : Nat) : ∀ (k i : Nat) (acc : List Int), i + d = s.size → acc.length ≤ i + 1 → d + 1 < k →
    topiaryref03_Starts.l0 k s acc ((i : Int) + 1) = some (acc ++ st (bt s) i d) := by
  induction d with
  | zero =>
    intro k i acc h1 h2 h3
    obtain ⟨k, rfl⟩ : ∃ m, k = m + 1 := ⟨k - 1, by omega⟩
    simp only [topiaryref03_Starts.l0]
    rw [if_neg (by omega)]
    simp [st]
  | succ d ih =>
    intro k i acc h1 h2 h3
    obtain ⟨k, rfl⟩ : ∃ m, k = m + 1 := ⟨k - 1, by omega⟩
    have hw : wrap64 ((i : Int) + 1 + 1) = ((i + 1 : Nat) : Int) + 1 := by rw [wr (by omega) (by omega)]; omega
    have hw2 : wrap64 ((i : Int) + 1 - 1) = (i : Int) := by rw [wr (by omega) (by omega)]; omega
    simp only [topiaryref03_Starts.l0]
    rw [if_pos (by omega), if_neg (by omega), hw2, if_pos (by omega), if_pos (by omega), hw]
    by_cases h10 : bt s (i : Int) = 10
    · rw [if_pos h10, if_pos (by omega), ih k (i + 1) _ (by omega) (by simp; omega) (by omega)]
      simp [st, h10]
    · rw [if_neg h10, ih k (i + 1) _ (by omega) (by omega) (by omega)]
      simp [st, h10]
theorem rstarts_f (s : ByteArray) (hn : s.size ≤ 10000) (k : Nat) (hk : s.size + 2 < k) : topiaryref03_Starts.f k s = some (0 :: st (bt s) 0 s.size) := by
  unfold topiaryref03_Starts.f
  obtain ⟨k, rfl⟩ : ∃ m, k = m + 1 := ⟨k - 1, by omega⟩
  simp only [topiaryref03_Starts.l0]
  rw [if_pos (by omega), if_pos trivial, if_pos (by simp)]
  have := rstarts_l0 s hn s.size k 0 [0] (by omega) (by simp) (by omega)
  simpa [wrap64] using this
theorem st_pos (b : Int → Int) (d : Nat) : ∀ i, ∀ x ∈ st b i d, 0 < x ∧ x ≤ (i : Int) + d := by
  induction d with
  | zero => intro i; simp [st]
  | succ d ih =>
    intro i x hx
    unfold st at hx
    split at hx
    · rcases List.mem_cons.1 hx with h | h
      · omega
      · have := ih _ x h; omega
    · have := ih _ x hx; omega
theorem st_append (b : Int → Int) (d e : Nat) : ∀ i, st b i (d + e) = st b i d ++ st b (i + d) e := by
  induction d with
  | zero => intro i; simp [st]
  | succ d ih =>
    intro i
    rw [show d + 1 + e = (d + e) + 1 from by omega]
    simp only [st]
    have h := ih (i + 1)
    rw [show i + 1 + d = i + (d + 1) from by omega] at h
    split <;> simp [h]
theorem st_congr (b c : Int → Int) (d : Nat) : ∀ i, (∀ j : Nat, i ≤ j → j < i + d → b j = c j) → st b i d = st c i d := by
  induction d with
  | zero => intro i h; rfl
  | succ d ih =>
    intro i h
    simp only [st]
    rw [h i (by omega) (by omega), ih (i + 1) (fun j h1 h2 => h j (by omega) (by omega))]
theorem st_shift (b c : Int → Int) (n : Nat) (d : Nat) : ∀ i, (∀ j : Nat, i ≤ j → j < i + d → b ((n + j : Nat) : Int) = c j) → st b (n + i) d = (st c i d).map (fun x => (n : Int) + x) := by
  induction d with
  | zero => intro i h; rfl
  | succ d ih =>
    intro i h
    have h0 := h i (by omega) (by omega)
    have h1 := ih (i + 1) (fun j h1 h2 => h j (by omega) (by omega))
    rw [show n + (i + 1) = n + i + 1 from by omega] at h1
    simp only [st, h0, h1]
    split
    · simp; omega
    · rfl
theorem bt_append (s t : ByteArray) (j : Nat) : bt (s ++ t) (j : Int) = if j < s.size then bt s j else bt t ((j - s.size : Nat) : Int) := by
  unfold bt
  by_cases h : j < s.size
  · rw [if_pos h, dif_pos (by simp [ByteArray.size_append]; omega), dif_pos (by simpa using h)]
    simp [ByteArray.getElem_append_left, h]
  · rw [if_neg h]
    by_cases h2 : j < s.size + t.size
    · rw [dif_pos (by simp [ByteArray.size_append]; omega), dif_pos (by simp; omega)]
      simp only [Int.toNat_natCast]
      rw [ByteArray.getElem_append_right (by omega)]
    · rw [dif_neg (by simp [ByteArray.size_append]; omega), dif_neg (by simp; omega)]
theorem st_join (s t : ByteArray) : st (bt (s ++ t)) 0 (s ++ t).size = st (bt s) 0 s.size ++ (st (bt t) 0 t.size).map (fun x => (s.size : Int) + x) := by
  rw [ByteArray.size_append, st_append]
  congr 1
  · apply st_congr
    intro j h1 h2
    rw [bt_append, if_pos (by omega)]
  · have := st_shift (bt (s ++ t)) (bt t) s.size t.size 0 (fun j h1 h2 => by rw [bt_append, if_neg (by omega)]; congr 2; omega)
    simpa using this
/-! #### an edit, in plain words -/
theorem int_wf {n : Int} (h : (Lit.int .i64 n).wf = true) : -9223372036854775808 ≤ n ∧ n < 9223372036854775808 := by
  simp [Lit.wf, IntKind.min, IntKind.max, IntKind.signed, IntKind.bits] at h
  omega
theorem bytes_ext {a b : ByteArray} (h : a.toList = b.toList) : a = b := by
  rw [ByteArray.toList_eq, ByteArray.toList_eq] at h
  cases a; cases b
  congr 1
  exact Array.toList_inj.1 h
def Fit (s : ByteArray) (a n : Int) : Prop := 0 ≤ a ∧ 0 ≤ n ∧ a ≤ (s.size : Int) ∧ n ≤ (s.size : Int) - a
instance (s : ByteArray) (a n : Int) : Decidable (Fit s a n) := by unfold Fit; infer_instance
/-- What an edit makes. -/
def put (s : ByteArray) (a n : Int) (t : ByteArray) : ByteArray := s.extract 0 a.toNat ++ t ++ s.extract (a + n).toNat s.size
/-- What Apply answers. -/
def ap (s : ByteArray) (a n : Int) (t : ByteArray) : ByteArray × Int :=
  if Fit s a n then (if (t.size : Int) > 4000 ∨ (s.size : Int) - n + t.size > 4000 then (⟨#[]⟩, 3) else (put s a n t, 0)) else (⟨#[]⟩, 2)
def Small (a n : Int) : Prop := (-9223372036854775808 ≤ a ∧ a < 9223372036854775808) ∧ (-9223372036854775808 ≤ n ∧ n < 9223372036854775808)
theorem put_size {s : ByteArray} {a n : Int} {t : ByteArray} (h : Fit s a n) : ((put s a n t).size : Int) = (s.size : Int) - n + t.size := by
  obtain ⟨h1, h2, h3, h4⟩ := h
  unfold put
  simp only [ByteArray.size_append, ByteArray.size_extract]
  omega
theorem fits_f (s : ByteArray) (a n : Int) (t : ByteArray) (hs : s.size ≤ 140737488351232) : edit_fits.f s a n t = some (decide (Fit s a n)) := by
  unfold edit_fits.f Fit
  by_cases h1 : 0 ≤ a
  · by_cases h2 : 0 ≤ n
    · by_cases h3 : a ≤ (s.size : Int)
      · rw [if_pos (by omega), if_pos (by omega), if_pos h3, wr (by omega) (by omega)]
        simp [h1, h2, h3]
      · rw [if_pos (by omega), if_pos (by omega), if_neg h3]; simp [h3]
    · rw [if_pos (by omega), if_neg (by omega)]; simp [h2]
  · rw [if_neg (by omega)]; simp [h1]
theorem apply_f (s : ByteArray) (a n : Int) (t : ByteArray) (hs : s.size ≤ 140737488351232) (ht : t.size ≤ 140737488351232) : edit_Apply.f s a n t = some (ap s a n t) := by
  unfold edit_Apply.f ap
  rw [fits_f s a n t hs, Option.bind_some]
  by_cases hf : Fit s a n
  · obtain ⟨h1, h2, h3, h4⟩ := id hf
    rw [if_pos (by simpa using hf), if_pos hf]
    by_cases h5 : (t.size : Int) > 4000
    · rw [if_pos h5, if_pos (Or.inl h5)]
    · rw [if_neg h5, wr (a := (s.size : Int) - n) (by omega) (by omega), wr (a := (s.size : Int) - n + t.size) (by omega) (by omega)]
      by_cases h6 : (s.size : Int) - n + t.size > 4000
      · rw [if_pos h6, if_pos (Or.inr h6)]
      · have e1 : (s.extract 0 a.toNat).size = a.toNat := by rw [ByteArray.size_extract]; omega
        have e2 : (s.extract 0 a.toNat ++ t).size = a.toNat + t.size := by rw [ByteArray.size_append, e1]
        have e3 : (s.extract (a + n).toNat s.size).size = s.size - (a + n).toNat := by rw [ByteArray.size_extract]; omega
        rw [if_neg h6, if_neg (show ¬ ((t.size : Int) > 4000 ∨ (s.size : Int) - n + t.size > 4000) by omega), wr (a := a + n) (by omega) (by omega), if_pos h1, if_pos h3, e1, if_pos (by omega), if_pos (by omega), if_pos (by omega), e2, e3, if_pos (by omega)]
        rfl
  · rw [if_neg (by simpa using hf), if_neg hf]
theorem rfits_f (s : ByteArray) (a n : Int) (t : ByteArray) (hs : s.size ≤ 140737488351232) : topiaryref01_Fits.f s a n t = some (decide (Fit s a n)) := by
  unfold topiaryref01_Fits.f Fit
  by_cases h1 : 0 ≤ a
  · by_cases h2 : 0 ≤ n
    · by_cases h3 : a ≤ (s.size : Int)
      · rw [if_neg (by omega), if_neg (by omega), if_neg (by omega), wr (by omega) (by omega)]
        simp [h1, h2, h3]
      · rw [if_neg (by omega), if_neg (by omega), if_pos (by omega)]; simp [h3]
    · rw [if_neg (by omega), if_pos (by omega)]; simp [h2]
  · rw [if_pos (by omega)]; simp [h1]
theorem bytes_drop (s : ByteArray) (i : Nat) (h : i < s.size) : (bytesOf s).drop i = bt s (i : Int) :: (bytesOf s).drop (i + 1) := by
  have hl := bytesOf_length s
  rw [List.drop_eq_getElem_cons (by omega)]
  congr 1
  rw [← rd_bytesOf, rd, List.getD_eq_getElem?_getD, Int.toNat_natCast, List.getElem?_eq_getElem (by omega)]
  rfl
theorem rl1 (s : ByteArray) (hs : s.size ≤ 6000) (d : Nat) : ∀ (k i : Nat) (acc : List Int), i + d = s.size → acc.length ≤ 20000 + i → d < k →
    topiaryref01_Apply.l1 k s acc (i : Int) = some (strOfNums (acc ++ (bytesOf s).drop i), 0) := by
  induction d with
  | zero =>
    intro k i acc h1 h2 h3
    obtain ⟨k, rfl⟩ : ∃ m, k = m + 1 := ⟨k - 1, by omega⟩
    simp only [topiaryref01_Apply.l1]
    rw [if_neg (by omega), List.drop_of_length_le (by rw [bytesOf_length]; omega), List.append_nil]
  | succ d ih =>
    intro k i acc h1 h2 h3
    obtain ⟨k, rfl⟩ : ∃ m, k = m + 1 := ⟨k - 1, by omega⟩
    have hw : wrap64 ((i : Int) + 1) = ((i + 1 : Nat) : Int) := by rw [wr (by omega) (by omega)]; omega
    simp only [topiaryref01_Apply.l1]
    rw [if_pos (by omega), if_pos (by omega), if_pos (by omega), hw, ih k (i + 1) _ (by omega) (by simp; omega) (by omega), bytes_drop s i (by omega)]
    simp
theorem rl0 (s : ByteArray) (hs : s.size ≤ 6000) (a n : Int) (t : ByteArray) (ht : t.size ≤ 6000) (hf : Fit s a n) (d : Nat) : ∀ (k i : Nat) (acc : List Int), (i : Int) + d = a → acc.length ≤ i → d + 7000 < k →
    topiaryref01_Apply.l0 k s acc (i : Int) a n t = some (strOfNums (acc ++ ((bytesOf s).drop i).take d ++ bytesOf t ++ (bytesOf s).drop (a + n).toNat), 0) := by
  obtain ⟨g1, g2, g3, g4⟩ := hf
  induction d with
  | zero =>
    intro k i acc h1 h2 h3
    obtain ⟨k, rfl⟩ : ∃ m, k = m + 1 := ⟨k - 1, by omega⟩
    simp only [topiaryref01_Apply.l0]
    rw [if_neg (by omega), if_pos (by omega), wr (by omega) (by omega), show a + n = (((a + n).toNat : Nat) : Int) from by omega]
    rw [rl1 s hs (s.size - (a + n).toNat) k (a + n).toNat _ (by omega) (by rw [List.length_append, bytesOf_length]; omega) (by omega), Int.toNat_natCast]
    simp
  | succ d ih =>
    intro k i acc h1 h2 h3
    obtain ⟨k, rfl⟩ : ∃ m, k = m + 1 := ⟨k - 1, by omega⟩
    have hw : wrap64 ((i : Int) + 1) = ((i + 1 : Nat) : Int) := by rw [wr (by omega) (by omega)]; omega
    simp only [topiaryref01_Apply.l0]
    rw [if_pos (by omega), if_pos (by omega), if_pos (by omega), if_pos (by omega), hw, ih k (i + 1) _ (by omega) (by simp; omega) (by omega), bytes_drop s i (by omega)]
    simp
theorem str_bytes (l : List UInt8) : (l.map fun b => (b.toNat : Int)).map (fun n : Int => UInt8.ofNat n.toNat) = l := by
  rw [List.map_map]
  conv => rhs; rw [← List.map_id l]
  apply List.map_congr_left
  intro x _
  simp
theorem put_str (s : ByteArray) (a n : Int) (t : ByteArray) (hf : Fit s a n) : strOfNums (([] : List Int) ++ ((bytesOf s).drop 0).take a.toNat ++ bytesOf t ++ (bytesOf s).drop (a + n).toNat) = put s a n t := by
  apply bytes_ext
  rw [ByteArray.toList_eq, ByteArray.toList_eq, strOfNums_data]
  unfold put bytesOf
  simp only [ByteArray.data_append, ByteArray.data_extract, Array.toList_append, Array.toList_extract, List.nil_append, List.drop_zero, ← List.map_take, ← List.map_drop, ← List.map_append, str_bytes]
  rw [show s.data.toList.extract (a + n).toNat s.size = s.data.toList.drop (a + n).toNat from List.take_of_length_le (by rw [List.length_drop, Array.length_toList]; exact Nat.le_refl _)]
  rfl
theorem rapply_f (s : ByteArray) (a n : Int) (t : ByteArray) (hs : s.size ≤ 6000) (ht : t.size ≤ 6000) (k : Nat) (hk : 14000 < k) : topiaryref01_Apply.f k s a n t = some (ap s a n t) := by
  obtain ⟨k, rfl⟩ : ∃ m, k = m + 1 := ⟨k - 1, by omega⟩
  unfold topiaryref01_Apply.f ap
  rw [rfits_f s a n t (by omega), Option.bind_some]
  simp only [topiaryref01_Apply.j0]
  by_cases hf : Fit s a n
  · obtain ⟨h1, h2, h3, h4⟩ := id hf
    rw [if_pos (by simpa using hf), if_pos hf]
    by_cases h5 : (t.size : Int) > 4000
    · rw [if_pos h5, if_pos trivial, if_pos (Or.inl h5)]
    · rw [if_neg h5, wr (a := (s.size : Int) - n) (by omega) (by omega), wr (a := (s.size : Int) - n + t.size) (by omega) (by omega)]
      by_cases h6 : (s.size : Int) - n + t.size > 4000
      · rw [if_pos (by simpa using h6), if_pos (Or.inr h6)]
      · rw [if_neg (by simpa using h6), if_neg (by omega)]
        have := rl0 s hs a n t ht hf a.toNat k 0 [] (by omega) (by simp) (by omega)
        rw [put_str s a n t hf, Int.natCast_zero] at this
        exact this
  · rw [if_neg (by simpa using hf), if_neg hf]
/-! #### Update -/
theorem eq_l0 (a c : List Int) (d : Nat) : ∀ (k i : Nat), i + d = a.length → a.length = c.length → a.length ≤ 20000 → d < k →
    slices_Equal_int_int.l0 k a c (a.length : Int) (i : Int) = some (decide (a.drop i = c.drop i)) := by
  induction d with
  | zero =>
    intro k i h1 h2 h3 h4
    obtain ⟨k, rfl⟩ : ∃ m, k = m + 1 := ⟨k - 1, by omega⟩
    simp only [slices_Equal_int_int.l0]
    rw [if_neg (by omega), List.drop_of_length_le (by omega), List.drop_of_length_le (by omega)]
    simp
  | succ d ih =>
    intro k i h1 h2 h3 h4
    obtain ⟨k, rfl⟩ : ∃ m, k = m + 1 := ⟨k - 1, by omega⟩
    have hw : wrap64 ((i : Int) + 1) = ((i + 1 : Nat) : Int) := by rw [wr (by omega) (by omega)]; omega
    simp only [slices_Equal_int_int.l0]
    rw [if_pos (by omega), if_pos (by omega), if_pos (by omega), if_pos (by omega), hw, ih k (i + 1) (by omega) h2 h3 (by omega)]
    have ha : a.drop i = rd a i :: a.drop (i + 1) := by
      rw [List.drop_eq_getElem_cons (by omega)]
      simp [rd, List.getD, List.getElem?_eq_getElem (show i < a.length by omega)]
    have hc : c.drop i = rd c i :: c.drop (i + 1) := by
      rw [List.drop_eq_getElem_cons (by omega)]
      simp [rd, List.getD, List.getElem?_eq_getElem (show i < c.length by omega)]
    rw [ha, hc]
    by_cases h : rd a (i : Int) = rd c (i : Int)
    · rw [if_pos h]; simp [h]
    · rw [if_neg h]; simp [h]
theorem eq_f (a c : List Int) (h : a.length ≤ 20000) (k : Nat) (hk : a.length < k) : slices_Equal_int_int.f k a c = some (decide (a = c)) := by
  unfold slices_Equal_int_int.f
  by_cases e : a.length = c.length
  · rw [if_pos (by omega)]
    have := eq_l0 a c a.length k 0 (by omega) e h hk
    simpa using this
  · rw [if_neg (by omega)]
    have : a ≠ c := fun h => e (by rw [h])
    simp [this]
/-- The first place behind i that is a line's beginning, and the rest. -/
theorem st_head (b : Int → Int) (d : Nat) : ∀ i, (st b i d = [] ∧ ∀ u, u < d → b ((i + u : Nat) : Int) ≠ 10) ∨
    ∃ e, e < d ∧ (∀ u, u < e → b ((i + u : Nat) : Int) ≠ 10) ∧ b ((i + e : Nat) : Int) = 10 ∧ st b i d = (((i + e : Nat) : Int) + 1) :: st b (i + e + 1) (d - e - 1) := by
  induction d with
  | zero => intro i; exact .inl ⟨rfl, fun u hu => absurd hu (by omega)⟩
  | succ d ih =>
    intro i
    simp only [st]
    by_cases h : b (i : Int) = 10
    · rw [if_pos h]
      exact .inr ⟨0, by omega, fun u hu => absurd hu (by omega), h, by simp⟩
    · rw [if_neg h]
      rcases ih (i + 1) with ⟨h1, h2⟩ | ⟨e, h1, h2, h3, h4⟩
      · refine .inl ⟨h1, fun u hu => ?_⟩
        cases u with
        | zero => exact h
        | succ u => have := h2 u (by omega); rw [show i + (u + 1) = i + 1 + u by omega]; exact this
      · refine .inr ⟨e + 1, by omega, fun u hu => ?_, by rw [show i + (e + 1) = i + 1 + e by omega]; exact h3, ?_⟩
        · cases u with
          | zero => exact h
          | succ u => have := h2 u (by omega); rw [show i + (u + 1) = i + 1 + u by omega]; exact this
        · rw [h4, show i + (e + 1) = i + 1 + e by omega, show d + 1 - (e + 1) - 1 = d - e - 1 by omega]
theorem ix_list (c : UInt8) : ∀ (l : List UInt8) (e : Nat), l[e]? = some c → (∀ u, u < e → l[u]? ≠ some c) → Lib.indexByte l c = (e : Int) := by
  intro l
  induction l with
  | nil => intro e h _; simp at h
  | cons b l ih =>
    intro e h1 h2
    cases e with
    | zero =>
      obtain rfl : b = c := by simpa using h1
      simp [Lib.indexByte]
    | succ e =>
      have h0 := h2 0 (by omega)
      have hb : (b == c) = false := by simpa using h0
      have := ih e (by simpa using h1) (fun u hu => by have := h2 (u + 1) (by omega); simpa using this)
      simp only [Lib.indexByte]
      rw [hb, this, if_neg (by decide)]
      simp
theorem bt_data (t : ByteArray) (j : Nat) (h : j < t.size) : t.data.toList[j]? = some 10 ↔ bt t (j : Int) = 10 := by
  have hd : j < t.data.toList.length := by rw [data_length]; exact h
  rw [List.getElem?_eq_getElem hd, ← bt_at t (j : Int) (by simpa using h)]
  have e : t.data.toList[j]'hd = t[((j : Nat) : Int).toNat]'(by simpa using h) := rfl
  rw [e]
  generalize t[((j : Nat) : Int).toNat]'(by simpa using h) = x
  constructor
  · intro h
    rw [Option.some.inj h]
    rfl
  · intro h
    congr 1
    apply UInt8.toNat_inj.1
    have : x.toNat = 10 := by omega
    rw [this]
    rfl
theorem ix_f (t : ByteArray) (p e : Nat) (h : p + e < t.size) (h1 : ∀ u, u < e → bt t ((p + u : Nat) : Int) ≠ 10) (h2 : bt t ((p + e : Nat) : Int) = 10) :
    strings_IndexByte.f (t.extract p t.size) 10 = some (e : Int) := by
  unfold strings_IndexByte.f
  have hx : (t.extract p t.size).data.toList = t.data.toList.drop p := by
    rw [ByteArray.data_extract, Array.toList_extract]
    rw [List.extract_eq_take_drop, List.take_of_length_le]
    rw [List.length_drop, data_length]
    exact Nat.le_refl _
  rw [hx, show (10 : Int).toNat.toUInt8 = 10 from rfl]
  congr 1
  apply ix_list
  · rw [List.getElem?_drop, bt_data t _ h]
    exact h2
  · intro u hu
    rw [List.getElem?_drop, ne_eq, bt_data t _ (by omega)]
    exact h1 u hu
theorem count_st (t : ByteArray) (d : Nat) : ∀ i, i + d = t.size → (t.data.toList.drop i).count 10 = (st (bt t) i d).length := by
  induction d with
  | zero =>
    intro i h
    rw [List.drop_of_length_le (by rw [data_length]; omega)]
    rfl
  | succ d ih =>
    intro i h
    have hd : i < t.data.toList.length := by rw [data_length]; omega
    have hb := bt_data t i (by omega)
    rw [List.getElem?_eq_getElem hd] at hb
    rw [List.drop_eq_getElem_cons hd]
    simp only [st]
    have := ih (i + 1) (by omega)
    by_cases h10 : bt t (i : Int) = 10
    · rw [if_pos h10, Option.some.inj (hb.mpr h10), List.count_cons_self, this, List.length_cons]
    · rw [if_neg h10, List.count_cons_of_ne, this]
      intro e
      exact h10 (hb.mp (congrArg some e))
/-- Where the j-th line of a text begins. -/
def pos (t : ByteArray) (j : Nat) : Int := rd (0 :: st (bt t) 0 t.size) j
theorem pos_zero (t : ByteArray) : pos t 0 = 0 := rfl
theorem pos_rest (t : ByteArray) (j : Nat) : j ≤ (st (bt t) 0 t.size).length → 0 ≤ pos t j ∧ pos t j ≤ t.size ∧ (st (bt t) 0 t.size).drop j = st (bt t) (pos t j).toNat (t.size - (pos t j).toNat) := by
  induction j with
  | zero => intro _; rw [pos_zero]; exact ⟨by omega, by omega, rfl⟩
  | succ j ih =>
    intro h
    obtain ⟨h1, h2, h3⟩ := ih (by omega)
    have hd := List.drop_eq_getElem_cons (show j < (st (bt t) 0 t.size).length by omega)
    rw [h3] at hd
    rcases st_head (bt t) (t.size - (pos t j).toNat) (pos t j).toNat with ⟨g1, _⟩ | ⟨e, g1, g2, g3, g4⟩
    · rw [g1] at hd; cases hd
    · rw [g4] at hd
      injection hd with hd1 hd2
      have hp : pos t (j + 1) = (((pos t j).toNat + e : Nat) : Int) + 1 := by
        unfold pos rd
        rw [List.getD_eq_getElem?_getD, Int.toNat_natCast, List.getElem?_cons_succ, List.getElem?_eq_getElem (by omega)]
        exact hd1.symm
      refine ⟨by omega, by omega, ?_⟩
      rw [← hd2, hp]
      congr 1 <;> omega
theorem pos_next (t : ByteArray) (j : Nat) (h : j < (st (bt t) 0 t.size).length) : strings_IndexByte.f (t.extract (pos t j).toNat t.size) 10 = some (pos t (j + 1) - pos t j - 1) ∧ pos t j < pos t (j + 1) := by
  obtain ⟨h1, h2, h3⟩ := pos_rest t j (by omega)
  have hd := List.drop_eq_getElem_cons h
  rw [h3] at hd
  rcases st_head (bt t) (t.size - (pos t j).toNat) (pos t j).toNat with ⟨g1, _⟩ | ⟨e, g1, g2, g3, g4⟩
  · rw [g1] at hd; cases hd
  · rw [g4] at hd
    injection hd with hd1 hd2
    have hp : pos t (j + 1) = (((pos t j).toNat + e : Nat) : Int) + 1 := by
      unfold pos rd
      rw [List.getD_eq_getElem?_getD, Int.toNat_natCast, List.getElem?_cons_succ, List.getElem?_eq_getElem h]
      exact hd1.symm
    rw [ix_f t (pos t j).toNat e (by omega) g2 g3]
    exact ⟨by congr 1; omega, by omega⟩
theorem wsucc (i : Nat) (h : i < 1000000) : wrap64 ((i : Int) + 1) = ((i + 1 : Nat) : Int) := by rw [wr (by omega) (by omega)]; omega
theorem up_l3 (L : List Int) (hL : ∀ x ∈ L, 0 ≤ x ∧ x ≤ 10000) (hl : L.length ≤ 20000) (a n : Int) (t : ByteArray) (ha : 0 ≤ a ∧ a ≤ 10000) (hn : 0 ≤ n ∧ n ≤ 10000) (ht : t.size ≤ 10000) (d : Nat) : ∀ (k i : Nat) (out : List Int), i + d = L.length → out.length ≤ 50000 + i → d < k →
    lines_Update.l3 k out L (L.length : Int) (i : Int) a n t = some (out ++ ((L.drop i).filter (fun x => decide (x > a + n))).map (fun x => x - n + t.size), 0) := by
  induction d with
  | zero =>
    intro k i out h1 h2 h3
    obtain ⟨k, rfl⟩ : ∃ m, k = m + 1 := ⟨k - 1, by omega⟩
    rw [lines_Update.l3, if_neg (by omega), List.drop_of_length_le (by omega)]
    simp
  | succ d ih =>
    intro k i out h1 h2 h3
    obtain ⟨k, rfl⟩ : ∃ m, k = m + 1 := ⟨k - 1, by omega⟩
    have hd : L.drop i = rd L i :: L.drop (i + 1) := by
      rw [List.drop_eq_getElem_cons (by omega)]
      simp [rd, List.getD, List.getElem?_eq_getElem (show i < L.length by omega)]
    have hr := hL _ (List.mem_of_mem_drop (i := i) (by rw [hd]; exact List.mem_cons_self ..))
    rw [lines_Update.l3, if_pos (by omega), if_pos (by omega), if_pos (by omega), wsucc i (by omega), wr (a := a + n) (by omega) (by omega), wr (a := rd L i - n) (by omega) (by omega), wr (a := rd L i - n + t.size) (by omega) (by omega), hd, List.filter_cons]
    by_cases h10 : rd L (i : Int) > a + n
    · rw [if_pos h10, if_pos (by omega), ih k (i + 1) _ (by omega) (by simp; omega) (by omega), if_pos (by simpa using h10)]
      simp
    · rw [if_neg h10, ih k (i + 1) _ (by omega) (by omega) (by omega), if_neg (by simpa using h10)]
def firsts (t : ByteArray) (a : Int) : List Int := (st (bt t) 0 t.size).map (fun x => a + x)
theorem firsts_take (t : ByteArray) (a : Int) (j : Nat) (h : j < (st (bt t) 0 t.size).length) : (firsts t a).take (j + 1) = (firsts t a).take j ++ [a + pos t (j + 1)] := by
  unfold firsts
  rw [List.take_succ_eq_append_getElem (by rw [List.length_map]; exact h), List.getElem_map]
  congr 3
  unfold pos rd
  rw [List.getD_eq_getElem?_getD, Int.toNat_natCast, List.getElem?_cons_succ, List.getElem?_eq_getElem h]
  rfl
def cost (R M : Nat) : Nat → Nat
  | 0 => R
  | d + 1 => cost R M d + M
/-- Where lines begin in a text, as the loops meet them. -/
def Lay (t : ByteArray) (a : Int) (N : Nat) (ps : Nat → Int) (F : List Int) : Prop :=
  N ≤ t.size ∧ ps 0 = 0 ∧ (∀ j, j ≤ N → 0 ≤ ps j ∧ ps j ≤ t.size) ∧ (∀ j, j < N → strings_IndexByte.f (t.extract (ps j).toNat t.size) 10 = some (ps (j + 1) - ps j - 1)) ∧
  F.length = N ∧ (∀ j, j < N → F.take (j + 1) = F.take j ++ [a + ps (j + 1)]) ∧ strings_Count.f t ⟨#[10]⟩ = some (N : Int)
theorem lay_of (t : ByteArray) (a : Int) : Lay t a (st (bt t) 0 t.size).length (pos t) (firsts t a) :=
  ⟨st_len _ _ _, pos_zero t, fun j h => ⟨(pos_rest t j h).1, (pos_rest t j h).2.1⟩, fun j h => (pos_next t j h).1, by unfold firsts; rw [List.length_map], fun j h => firsts_take t a j h, by
    have hc := count_st t t.size 0 (by omega)
    rw [List.drop_zero] at hc
    unfold strings_Count.f
    rw [if_pos rfl]
    unfold Lib.countByte
    rw [hc]⟩
theorem up_l1 (R M : Nat) (L : List Int) (hL : ∀ x ∈ L, 0 ≤ x ∧ x ≤ 10000) (hl : L.length ≤ 20000) (a n : Int) (t : ByteArray) (ha : 0 ≤ a ∧ a ≤ 10000) (hn : 0 ≤ n ∧ n ≤ 10000) (ht : t.size ≤ 10000)
    (N : Nat) (ps : Nat → Int) (F : List Int) (hy : Lay t a N ps F) (out : List Int) (ho : out.length ≤ 20001) (hR : L.length < R) (hM : t.size + 4 ≤ M) (d : Nat) :
    ∀ (k i : Nat), i + d = N → cost R M d < k →
    lines_Update.l1 k L (out ++ F.take i) (N : Int) (i : Int) a n t = some (out ++ F ++ (L.filter (fun x => decide (x > a + n))).map (fun x => x - n + t.size), 0) := by
  have hN := hy.1
  have hfl := hy.2.2.2.2.1
  induction d with
  | zero =>
    intro k i h1 h2
    obtain ⟨k, rfl⟩ : ∃ m, k = m + 1 := ⟨k - 1, by omega⟩
    have h2' : R < k + 1 := h2
    have := up_l3 L hL hl a n t ha hn ht L.length k 0 (out ++ F) (by omega) (by rw [List.length_append]; omega) (by omega)
    rw [lines_Update.l1, if_neg (by omega), List.take_of_length_le (by omega)]
    exact this
  | succ d ih =>
    intro k i h1 h2
    obtain ⟨k, rfl⟩ : ∃ m, k = m + 1 := ⟨k - 1, by omega⟩
    have h2' : cost R M d + M < k + 1 := h2
    clear h2
    have inner : ∀ (e k2 j : Nat), j + e = i + 1 → cost R M d + e + 1 < k2 →
        lines_Update.l2 k2 L (out ++ F.take i) (a + ps j) (N : Int) (i : Int) ((i + 1 : Nat) : Int) (j : Int) a n t = some (out ++ F ++ (L.filter (fun x => decide (x > a + n))).map (fun x => x - n + t.size), 0) := by
      intro e
      induction e with
      | zero =>
        intro k2 j g1 g2
        obtain ⟨k2, rfl⟩ : ∃ m, k2 = m + 1 := ⟨k2 - 1, by omega⟩
        obtain rfl : j = i + 1 := by omega
        have hx := ih k2 (i + 1) (by omega) (by omega)
        rw [hy.2.2.2.2.2.1 i (by omega), ← List.append_assoc] at hx
        have hlen : (out ++ F.take i).length ≤ 40000 := by
          rw [List.length_append]
          have q1 := List.length_take_le' i F
          omega
        rw [lines_Update.l2, if_neg (by omega), if_pos (by omega), wsucc i (by omega)]
        exact hx
      | succ e ihe =>
        intro k2 j g1 g2
        obtain ⟨k2, rfl⟩ : ∃ m, k2 = m + 1 := ⟨k2 - 1, by omega⟩
        obtain ⟨p1, p2⟩ := hy.2.2.1 j (by omega)
        obtain ⟨q1, q2⟩ := hy.2.2.1 (j + 1) (by omega)
        have r1 := hy.2.2.2.1 j (by omega)
        rw [lines_Update.l2, if_pos (by omega), wr (a := a + ps j - a) (by omega) (by omega), show a + ps j - a = ps j by omega, if_pos p1, if_pos p2, r1, Option.bind_some, wsucc j (by omega),
          wr (a := ps (j + 1) - ps j - 1 + 1) (by omega) (by omega), wr (a := a + ps j + (ps (j + 1) - ps j - 1 + 1)) (by omega) (by omega),
          show a + ps j + (ps (j + 1) - ps j - 1 + 1) = a + ps (j + 1) by omega]
        exact ihe k2 (j + 1) (by omega) (by omega)
    have := inner (i + 1) k 0 (by omega) (by omega)
    rw [hy.2.1, Int.add_zero] at this
    rw [lines_Update.l1, if_pos (by omega), wsucc i (by omega)]
    exact this
theorem up_l0 (L : List Int) (hL : ∀ x ∈ L, 0 ≤ x ∧ x ≤ 10000) (hl : L.length ≤ 20000) (a n : Int) (t : ByteArray) (ha : 0 ≤ a ∧ a ≤ 10000) (hn : 0 ≤ n ∧ n ≤ 10000) (ht : t.size ≤ 10000) (R M : Nat) (hR : L.length < R) (hM : t.size + 4 ≤ M)
    (N : Nat) (ps : Nat → Int) (F : List Int) (hy : Lay t a N ps F) (d : Nat) : ∀ (k i : Nat) (out : List Int), i + d = L.length → out.length ≤ i → d + cost R M N + 1 < k →
    lines_Update.l0 k L out L (L.length : Int) (i : Int) a n t = some (out ++ (L.drop i).filter (fun x => decide (x ≤ a)) ++ F ++ (L.filter (fun x => decide (x > a + n))).map (fun x => x - n + t.size), 0) := by
  have hN := hy.1
  induction d with
  | zero =>
    intro k i out h1 h2 h3
    obtain ⟨k, rfl⟩ : ∃ m, k = m + 1 := ⟨k - 1, by omega⟩
    have := up_l1 R M L hL hl a n t ha hn ht N ps F hy out (by omega) hR hM N k 0 (by omega) (by omega)
    rw [lines_Update.l0, if_neg (by omega), List.drop_of_length_le (by omega), hy.2.2.2.2.2.2, Option.bind_some]
    rw [List.take_zero, List.append_nil] at this
    rw [List.filter_nil, List.append_nil]
    exact this
  | succ d ih =>
    intro k i out h1 h2 h3
    obtain ⟨k, rfl⟩ : ∃ m, k = m + 1 := ⟨k - 1, by omega⟩
    have hd : L.drop i = rd L i :: L.drop (i + 1) := by
      rw [List.drop_eq_getElem_cons (by omega)]
      simp [rd, List.getD, List.getElem?_eq_getElem (show i < L.length by omega)]
    rw [lines_Update.l0, if_pos (by omega), if_pos (by omega), if_pos (by omega), wsucc i (by omega), hd, List.filter_cons]
    by_cases h10 : rd L (i : Int) ≤ a
    · rw [if_pos h10, if_pos (by omega), ih k (i + 1) _ (by omega) (by simp; omega) (by omega), if_pos (by simpa using h10)]
      simp
    · rw [if_neg h10, ih k (i + 1) _ (by omega) (by omega) (by omega), if_neg (by simpa using h10)]
theorem filter_all {p : Int → Bool} {l : List Int} (h : ∀ x ∈ l, p x = true) : l.filter p = l := List.filter_eq_self.2 h
theorem filter_none {p : Int → Bool} {l : List Int} (h : ∀ x ∈ l, p x = false) : l.filter p = [] := List.filter_eq_nil_iff.2 (fun x hx => by rw [h x hx]; simp)
theorem st_after (b : Int → Int) (d : Nat) : ∀ i, ∀ x ∈ st b i d, (i : Int) < x ∧ x ≤ (i : Int) + d := by
  induction d with
  | zero => intro i; simp [st]
  | succ d ih =>
    intro i x hx
    unfold st at hx
    split at hx
    · rcases List.mem_cons.1 hx with h | h
      · omega
      · have := ih _ x h; omega
    · have := ih _ x hx; omega
theorem bt_extract (s : ByteArray) (p q : Nat) (hq : q ≤ s.size) (j : Nat) (h : p + j < q) : bt (s.extract p q) (j : Int) = bt s ((p + j : Nat) : Int) := by
  rw [← rd_bytesOf, ← rd_bytesOf]
  unfold rd
  rw [Int.toNat_natCast, Int.toNat_natCast, List.getD_eq_getElem?_getD, List.getD_eq_getElem?_getD]
  congr 1
  unfold bytesOf
  rw [List.getElem?_map, List.getElem?_map]
  congr 1
  rw [ByteArray.data_extract, Array.toList_extract, List.extract_eq_take_drop, List.getElem?_take, if_pos (by omega), List.getElem?_drop]
theorem put_st (s : ByteArray) (a n : Int) (t : ByteArray) (hf : Fit s a n) :
    st (bt (put s a n t)) 0 (put s a n t).size = st (bt s) 0 a.toNat ++ firsts t a ++ (st (bt s) (a + n).toNat (s.size - (a + n).toNat)).map (fun x => x - n + t.size) := by
  obtain ⟨h1, h2, h3, h4⟩ := hf
  unfold put
  rw [st_join, st_join]
  have e1 : (s.extract 0 a.toNat).size = a.toNat := by rw [ByteArray.size_extract]; omega
  have e2 : (s.extract 0 a.toNat ++ t).size = a.toNat + t.size := by rw [ByteArray.size_append, e1]
  have e3 : (s.extract (a + n).toNat s.size).size = s.size - (a + n).toNat := by rw [ByteArray.size_extract]; omega
  rw [e1, e2, e3]
  congr 1
  · congr 1
    · apply st_congr
      intro j g1 g2
      rw [bt_extract s 0 a.toNat (by omega) j (by omega), Nat.zero_add]
    · unfold firsts
      apply List.map_congr_left
      intro x _
      omega
  · have hs := st_shift (bt s) (bt (s.extract (a + n).toNat s.size)) (a + n).toNat (s.size - (a + n).toNat) 0 (fun j g1 g2 => (bt_extract s (a + n).toNat s.size (Nat.le_refl _) j (by omega)).symm)
    rw [Nat.add_zero] at hs
    rw [hs, List.map_map]
    apply List.map_congr_left
    intro x _
    simp only [Function.comp_apply]
    omega
theorem update_made (s : ByteArray) (a n : Int) (t : ByteArray) (hf : Fit s a n) :
    ([] : List Int) ++ (0 :: st (bt s) 0 s.size).filter (fun x => decide (x ≤ a)) ++ firsts t a ++ ((0 :: st (bt s) 0 s.size).filter (fun x => decide (x > a + n))).map (fun x => x - n + t.size) = 0 :: st (bt (put s a n t)) 0 (put s a n t).size := by
  rw [put_st s a n t hf]
  obtain ⟨h1, h2, h3, h4⟩ := hf
  have e1 : st (bt s) 0 s.size = st (bt s) 0 a.toNat ++ st (bt s) a.toNat (s.size - a.toNat) := by
    have := st_append (bt s) a.toNat (s.size - a.toNat) 0
    rw [Nat.zero_add, show a.toNat + (s.size - a.toNat) = s.size by omega] at this
    exact this
  have e2 : st (bt s) 0 s.size = st (bt s) 0 (a + n).toNat ++ st (bt s) (a + n).toNat (s.size - (a + n).toNat) := by
    have := st_append (bt s) (a + n).toNat (s.size - (a + n).toNat) 0
    rw [Nat.zero_add, show (a + n).toNat + (s.size - (a + n).toNat) = s.size by omega] at this
    exact this
  have f1 : (0 :: st (bt s) 0 s.size).filter (fun x => decide (x ≤ a)) = 0 :: st (bt s) 0 a.toNat := by
    rw [List.filter_cons, if_pos (by simpa using h1), e1, List.filter_append, filter_all, filter_none, List.append_nil]
    · intro x hx
      have := st_after _ _ _ x hx
      exact decide_eq_false (by omega)
    · intro x hx
      have := st_after _ _ _ x hx
      exact decide_eq_true (by omega)
  have f2 : (0 :: st (bt s) 0 s.size).filter (fun x => decide (x > a + n)) = st (bt s) (a + n).toNat (s.size - (a + n).toNat) := by
    rw [List.filter_cons, if_neg (by simp; omega), e2, List.filter_append, filter_none, filter_all, List.nil_append]
    · intro x hx
      have := st_after _ _ _ x hx
      exact decide_eq_true (by omega)
    · intro x hx
      have := st_after _ _ _ x hx
      exact decide_eq_false (by omega)
  rw [f1, f2]
  rfl
theorem update_f (L : List Int) (hl : L.length ≤ 10000) (s : ByteArray) (hs : s.size ≤ 4000) (a n : Int) (t : ByteArray) (ht : t.size ≤ 5000) (R M : Nat) (hR : L.length < R) (hM : t.size + 4 ≤ M) (k : Nat) (hk : cost R M (st (bt t) 0 t.size).length + 20000 < k) :
    lines_Update.f k L s a n t = some (if L = 0 :: st (bt s) 0 s.size then (if (ap s a n t).2 = 0 then (0 :: st (bt (put s a n t)) 0 (put s a n t).size, 0) else ([], (ap s a n t).2)) else ([], 10)) := by
  have hsl := st_len (bt s) s.size 0
  unfold lines_Update.f
  rw [starts_f s (by omega) k (by omega), Option.bind_some, eq_f L _ (by omega) k (by omega), Option.bind_some]
  by_cases hL : L = 0 :: st (bt s) 0 s.size
  · rw [if_pos (by simpa using hL), if_pos hL, apply_f s a n t (by omega) (by omega), Option.bind_some]
    by_cases h0 : (ap s a n t).2 = 0
    · rw [if_pos h0, if_pos h0]
      have hf : Fit s a n := by
        unfold ap at h0
        by_cases hf : Fit s a n
        · exact hf
        · rw [if_neg hf] at h0; cases h0
      obtain ⟨g1, g2, g3, g4⟩ := id hf
      have := up_l0 L (by
        intro x hx
        rw [hL] at hx
        rcases List.mem_cons.1 hx with h | h
        · omega
        · have := st_after _ _ _ x h; omega) (by omega) a n t (by omega) (by omega) (by omega) R M hR hM _ _ _ (lay_of t a) L.length k 0 [] (by omega) (by simp) (by omega)
      rw [Int.natCast_zero, List.drop_zero] at this
      rw [this]
      subst hL
      rw [update_made s a n t hf]
    · rw [if_neg h0, if_neg h0]
  · rw [if_neg (by simpa using hL), if_neg hL]
theorem law (L : List Int) (s : ByteArray) (a n : Int) (t : ByteArray) : ∃ k, topiarylaw03_LinesUpdates.f k L s a n t = some true := by
  obtain ⟨R, hR⟩ : ∃ R : Nat, L.length < R := ⟨_, Nat.lt_succ_self _⟩
  obtain ⟨M, hM⟩ : ∃ M : Nat, t.size + 4 ≤ M := ⟨_, Nat.le_refl _⟩
  refine ⟨cost R M (st (bt t) 0 t.size).length + 50001, ?_⟩
  obtain ⟨K, hK, hK2⟩ : ∃ K, cost R M (st (bt t) 0 t.size).length + 50000 = K ∧ 50000 ≤ K := ⟨_, rfl, by omega⟩
  rw [show cost R M (st (bt t) 0 t.size).length + 50001 = K + 1 by omega]
  unfold topiarylaw03_LinesUpdates.f
  rw [wakes_f _ (by omega), Option.bind_some, if_pos rfl]
  unfold topiarylaw03_long.f
  rw [Option.bind_some]
  by_cases hs : (s.size : Int) > 4000
  · rw [if_pos (by simpa using hs)]
    rw [topiarylaw03_LinesUpdates.j0, if_pos rfl]
  · rw [if_neg (by simpa using hs)]
    by_cases ht : (t.size : Int) > 5000
    · rw [if_pos ht]
      rw [topiarylaw03_LinesUpdates.j0, if_pos rfl]
    · rw [if_neg ht]
      by_cases hl : (L.length : Int) > 5000
      · rw [decide_eq_true hl]
        rw [topiarylaw03_LinesUpdates.j0, if_pos rfl]
      · rw [decide_eq_false hl]
        have hsl := st_len (bt s) s.size 0
        rw [topiarylaw03_LinesUpdates.j0, if_neg (by decide), Option.bind_some, List.nil_append, if_pos (by rw [List.length_nil]; omega), update_f L (by omega) s (by omega) a n t (by omega) R M hR hM K (by omega), Option.bind_some,
          rstarts_f s (by omega) K (by omega), Option.bind_some, same_f L _ (by omega) K (by omega), Option.bind_some]
        by_cases hL : L = 0 :: st (bt s) 0 s.size
        · rw [if_pos (by simpa using hL), if_pos hL, rapply_f s a n t (by omega) (by omega) K (by omega), Option.bind_some]
          by_cases h0 : (ap s a n t).2 = 0
          · rw [if_pos h0, if_pos h0, if_pos rfl]
            have hput : (ap s a n t).1 = put s a n t ∧ (put s a n t).size ≤ 4000 := by
              have h0' := h0
              unfold ap at h0' ⊢
              by_cases hf : Fit s a n
              · rw [if_pos hf] at h0' ⊢
                by_cases hx : (t.size : Int) > 4000 ∨ (s.size : Int) - n + t.size > 4000
                · rw [if_pos hx] at h0'; cases h0'
                · rw [if_neg hx]
                  have := put_size (t := t) hf
                  exact ⟨rfl, by omega⟩
              · rw [if_neg hf] at h0'; cases h0'
            have hpl := st_len (bt (put s a n t)) (put s a n t).size 0
            rw [hput.1, rstarts_f _ (by omega) K (by omega), Option.bind_some, same_f _ _ (by rw [List.length_cons]; omega) K (by rw [List.length_cons]; omega), Option.bind_some]
            simp
          · rw [if_neg h0, if_neg h0]
            simp
        · rw [if_neg (by simpa using hL), if_neg hL]
          simp

end Go.Proofs.Ytfdpaaacgakaaaa.Pure
