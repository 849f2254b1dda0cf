/- Proved here: edit.Back is the way back, and its own way back is the edit (texts over 5000 bytes let go). -/
import Derived.Test.YtfdpaaacgakaaaaEBlaw
namespace Go.Proofs.Ytfdpaaacgakaaaa.Pure
open Go.RowKit Go.Proofs.Ytfdpaaacgakaaaa.PEditBack Go.Proofs.YtfdpaaacgakaaaaW.PrintWords Go.Proofs.YtfdpaaacgakaaaaW.PrintLast
set_option linter.unusedVariables false
set_option linter.unusedSimpArgs false

/-! #### an edit, in plain words -/
theorem wr {a : Int} (h : -9223372036854775808 ≤ a) (h2 : a < 9223372036854775808) : wrap64 a = a := by unfold wrap64; omega
theorem int_wf {n : Int} (h : (Lit.int .i64 n).wf = true) : -9223372036854775808 ≤ n ∧ n < 9223372036854775808 := by
  simp [Lit.wf, IntKind.min, IntKind.max, IntKind.signed, IntKind.bits] at h
  omega
theorem bytes_ext {a b : ByteArray} (h : a.toList = b.toList) : a = b := by
  rw [ByteArray.toList_eq, ByteArray.toList_eq] at h
  cases a; cases b
  congr 1
  exact Array.toList_inj.1 h
def Fit (s : ByteArray) (a n : Int) : Prop := 0 ≤ a ∧ 0 ≤ n ∧ a ≤ (s.size : Int) ∧ n ≤ (s.size : Int) - a
instance (s : ByteArray) (a n : Int) : Decidable (Fit s a n) := by unfold Fit; infer_instance
/-- What an edit makes. -/
def put (s : ByteArray) (a n : Int) (t : ByteArray) : ByteArray := s.extract 0 a.toNat ++ t ++ s.extract (a + n).toNat s.size
/-- What Apply answers. -/
def ap (s : ByteArray) (a n : Int) (t : ByteArray) : ByteArray × Int :=
  if Fit s a n then (if (t.size : Int) > 4000 ∨ (s.size : Int) - n + t.size > 4000 then (⟨#[]⟩, 3) else (put s a n t, 0)) else (⟨#[]⟩, 2)
def Small (a n : Int) : Prop := (-9223372036854775808 ≤ a ∧ a < 9223372036854775808) ∧ (-9223372036854775808 ≤ n ∧ n < 9223372036854775808)
theorem put_size {s : ByteArray} {a n : Int} {t : ByteArray} (h : Fit s a n) : ((put s a n t).size : Int) = (s.size : Int) - n + t.size := by
  obtain ⟨h1, h2, h3, h4⟩ := h
  unfold put
  simp only [ByteArray.size_append, ByteArray.size_extract]
  omega
theorem fits_f (s : ByteArray) (a n : Int) (t : ByteArray) (hs : s.size ≤ 140737488351232) : edit_fits.f s a n t = some (decide (Fit s a n)) := by
  unfold edit_fits.f Fit
  by_cases h1 : 0 ≤ a
  · by_cases h2 : 0 ≤ n
    · by_cases h3 : a ≤ (s.size : Int)
      · rw [if_pos (by omega), if_pos (by omega), if_pos h3, wr (by omega) (by omega)]
        simp [h1, h2, h3]
      · rw [if_pos (by omega), if_pos (by omega), if_neg h3]; simp [h3]
    · rw [if_pos (by omega), if_neg (by omega)]; simp [h2]
  · rw [if_neg (by omega)]; simp [h1]
theorem apply_f (s : ByteArray) (a n : Int) (t : ByteArray) (hs : s.size ≤ 140737488351232) (ht : t.size ≤ 140737488351232) : edit_Apply.f s a n t = some (ap s a n t) := by
  unfold edit_Apply.f ap
  rw [fits_f s a n t hs, Option.bind_some]
  by_cases hf : Fit s a n
  · obtain ⟨h1, h2, h3, h4⟩ := id hf
    rw [if_pos (by simpa using hf), if_pos hf]
    by_cases h5 : (t.size : Int) > 4000
    · rw [if_pos h5, if_pos (Or.inl h5)]
    · rw [if_neg h5, wr (a := (s.size : Int) - n) (by omega) (by omega), wr (a := (s.size : Int) - n + t.size) (by omega) (by omega)]
      by_cases h6 : (s.size : Int) - n + t.size > 4000
      · rw [if_pos h6, if_pos (Or.inr h6)]
      · have e1 : (s.extract 0 a.toNat).size = a.toNat := by rw [ByteArray.size_extract]; omega
        have e2 : (s.extract 0 a.toNat ++ t).size = a.toNat + t.size := by rw [ByteArray.size_append, e1]
        have e3 : (s.extract (a + n).toNat s.size).size = s.size - (a + n).toNat := by rw [ByteArray.size_extract]; omega
        rw [if_neg h6, if_neg (show ¬ ((t.size : Int) > 4000 ∨ (s.size : Int) - n + t.size > 4000) by omega), wr (a := a + n) (by omega) (by omega), if_pos h1, if_pos h3, e1, if_pos (by omega), if_pos (by omega), if_pos (by omega), e2, e3, if_pos (by omega)]
        rfl
  · rw [if_neg (by simpa using hf), if_neg hf]
theorem wakes_f : topiarylaw01_wakes.f = some true := by
  unfold topiarylaw01_wakes.f
  rw [apply_f _ _ _ _ (by decide) (by decide), Option.bind_some]
  have h : ap ⟨#[97, 98, 99]⟩ 1 1 ⟨#[120, 121]⟩ = (⟨#[97, 120, 121, 99]⟩, 0) := by decide +kernel
  rw [h]
  rw [if_pos (by rw [ByteArray.toList_eq])]
  rfl
theorem rfits_f (s : ByteArray) (a n : Int) (t : ByteArray) (hs : s.size ≤ 140737488351232) : topiaryref01_Fits.f s a n t = some (decide (Fit s a n)) := by
  unfold topiaryref01_Fits.f Fit
  by_cases h1 : 0 ≤ a
  · by_cases h2 : 0 ≤ n
    · by_cases h3 : a ≤ (s.size : Int)
      · rw [if_neg (by omega), if_neg (by omega), if_neg (by omega), wr (by omega) (by omega)]
        simp [h1, h2, h3]
      · rw [if_neg (by omega), if_neg (by omega), if_pos (by omega)]; simp [h3]
    · rw [if_neg (by omega), if_pos (by omega)]; simp [h2]
  · rw [if_pos (by omega)]; simp [h1]
theorem bytes_drop (s : ByteArray) (i : Nat) (h : i < s.size) : (bytesOf s).drop i = bt s (i : Int) :: (bytesOf s).drop (i + 1) := by
  have hl := bytesOf_length s
  rw [List.drop_eq_getElem_cons (by omega)]
  congr 1
  rw [← rd_bytesOf, rd, List.getD_eq_getElem?_getD, Int.toNat_natCast, List.getElem?_eq_getElem (by omega)]
  rfl
theorem rl1 (s : ByteArray) (hs : s.size ≤ 6000) (d : Nat) : ∀ (k i : Nat) (acc : List Int), i + d = s.size → acc.length ≤ 20000 + i → d < k →
    topiaryref01_Apply.l1 k s acc (i : Int) = some (strOfNums (acc ++ (bytesOf s).drop i), 0) := by
  induction d with
  | zero =>
    intro k i acc h1 h2 h3
    obtain ⟨k, rfl⟩ : ∃ m, k = m + 1 := ⟨k - 1, by omega⟩
    simp only [topiaryref01_Apply.l1]
    rw [if_neg (by omega), List.drop_of_length_le (by rw [bytesOf_length]; omega), List.append_nil]
  | succ d ih =>
    intro k i acc h1 h2 h3
    obtain ⟨k, rfl⟩ : ∃ m, k = m + 1 := ⟨k - 1, by omega⟩
    have hw : wrap64 ((i : Int) + 1) = ((i + 1 : Nat) : Int) := by rw [wr (by omega) (by omega)]; omega
    simp only [topiaryref01_Apply.l1]
    rw [if_pos (by omega), if_pos (by omega), if_pos (by omega), hw, ih k (i + 1) _ (by omega) (by simp; omega) (by omega), bytes_drop s i (by omega)]
    simp
theorem rl0 (s : ByteArray) (hs : s.size ≤ 6000) (a n : Int) (t : ByteArray) (ht : t.size ≤ 6000) (hf : Fit s a n) (d : Nat) : ∀ (k i : Nat) (acc : List Int), (i : Int) + d = a → acc.length ≤ i → d + 7000 < k →
    topiaryref01_Apply.l0 k s acc (i : Int) a n t = some (strOfNums (acc ++ ((bytesOf s).drop i).take d ++ bytesOf t ++ (bytesOf s).drop (a + n).toNat), 0) := by
  obtain ⟨g1, g2, g3, g4⟩ := hf
  induction d with
  | zero =>
    intro k i acc h1 h2 h3
    obtain ⟨k, rfl⟩ : ∃ m, k = m + 1 := ⟨k - 1, by omega⟩
    simp only [topiaryref01_Apply.l0]
    rw [if_neg (by omega), if_pos (by omega), wr (by omega) (by omega), show a + n = (((a + n).toNat : Nat) : Int) from by omega]
    rw [rl1 s hs (s.size - (a + n).toNat) k (a + n).toNat _ (by omega) (by rw [List.length_append, bytesOf_length]; omega) (by omega), Int.toNat_natCast]
    simp
  | succ d ih =>
    intro k i acc h1 h2 h3
    obtain ⟨k, rfl⟩ : ∃ m, k = m + 1 := ⟨k - 1, by omega⟩
    have hw : wrap64 ((i : Int) + 1) = ((i + 1 : Nat) : Int) := by rw [wr (by omega) (by omega)]; omega
    simp only [topiaryref01_Apply.l0]
    rw [if_pos (by omega), if_pos (by omega), if_pos (by omega), if_pos (by omega), hw, ih k (i + 1) _ (by omega) (by simp; omega) (by omega), bytes_drop s i (by omega)]
    simp
theorem str_bytes (l : List UInt8) : (l.map fun b => (b.toNat : Int)).map (fun n : Int => UInt8.ofNat n.toNat) = l := by
  rw [List.map_map]
  conv => rhs; rw [← List.map_id l]
  apply List.map_congr_left
  intro x _
  simp
theorem put_str (s : ByteArray) (a n : Int) (t : ByteArray) (hf : Fit s a n) : strOfNums (([] : List Int) ++ ((bytesOf s).drop 0).take a.toNat ++ bytesOf t ++ (bytesOf s).drop (a + n).toNat) = put s a n t := by
  apply bytes_ext
  rw [ByteArray.toList_eq, ByteArray.toList_eq, strOfNums_data]
  unfold put bytesOf
  simp only [ByteArray.data_append, ByteArray.data_extract, Array.toList_append, Array.toList_extract, List.nil_append, List.drop_zero, ← List.map_take, ← List.map_drop, ← List.map_append, str_bytes]
  rw [show s.data.toList.extract (a + n).toNat s.size = s.data.toList.drop (a + n).toNat from List.take_of_length_le (by rw [List.length_drop, Array.length_toList]; exact Nat.le_refl _)]
  rfl
theorem rapply_f (s : ByteArray) (a n : Int) (t : ByteArray) (hs : s.size ≤ 6000) (ht : t.size ≤ 6000) (k : Nat) (hk : 14000 < k) : topiaryref01_Apply.f k s a n t = some (ap s a n t) := by
  obtain ⟨k, rfl⟩ : ∃ m, k = m + 1 := ⟨k - 1, by omega⟩
  unfold topiaryref01_Apply.f ap
  rw [rfits_f s a n t (by omega), Option.bind_some]
  simp only [topiaryref01_Apply.j0]
  by_cases hf : Fit s a n
  · obtain ⟨h1, h2, h3, h4⟩ := id hf
    rw [if_pos (by simpa using hf), if_pos hf]
    by_cases h5 : (t.size : Int) > 4000
    · rw [if_pos h5, if_pos trivial, if_pos (Or.inl h5)]
    · rw [if_neg h5, wr (a := (s.size : Int) - n) (by omega) (by omega), wr (a := (s.size : Int) - n + t.size) (by omega) (by omega)]
      by_cases h6 : (s.size : Int) - n + t.size > 4000
      · rw [if_pos (by simpa using h6), if_pos (Or.inr h6)]
      · rw [if_neg (by simpa using h6), if_neg (by omega)]
        have := rl0 s hs a n t ht hf a.toNat k 0 [] (by omega) (by simp) (by omega)
        rw [put_str s a n t hf, Int.natCast_zero] at this
        exact this
  · rw [if_neg (by simpa using hf), if_neg hf]
theorem long_l0 (l : List S23) (d : Nat) : ∀ (k i : Nat), i + d = l.length → l.length ≤ 200 → d < k → ∃ b, topiaryref01_Long.l0 k l (i : Int) = some b ∧ (b = false → ∀ x ∈ l.drop i, x.f2.size ≤ 5000) := by
  induction d with
  | zero =>
    intro k i h1 h2 h3
    obtain ⟨k, rfl⟩ : ∃ m, k = m + 1 := ⟨k - 1, by omega⟩
    refine ⟨false, ?_, ?_⟩
    · simp only [topiaryref01_Long.l0]; rw [if_neg (by omega)]
    · rw [List.drop_of_length_le (by omega)]; simp
  | succ d ih =>
    intro k i h1 h2 h3
    obtain ⟨k, rfl⟩ : ∃ m, k = m + 1 := ⟨k - 1, by omega⟩
    have hw : wrap64 ((i : Int) + 1) = ((i + 1 : Nat) : Int) := by rw [wr (by omega) (by omega)]; omega
    have hd : l.drop i = rd_T23 l i :: l.drop (i + 1) := by
      rw [List.drop_eq_getElem_cons (by omega)]
      simp [rd_T23, List.getD, List.getElem?_eq_getElem (show i < l.length by omega)]
    simp only [topiaryref01_Long.l0]
    rw [if_pos (by omega), if_pos (by omega), hw]
    by_cases h : ((rd_T23 l (i : Int)).f2.size : Int) > 5000
    · exact ⟨true, by rw [if_pos h], by simp⟩
    · obtain ⟨b, hb, hall⟩ := ih k (i + 1) (by omega) h2 (by omega)
      refine ⟨b, by rw [if_neg h, hb], fun hbf => ?_⟩
      rw [hd]
      intro x hx
      rcases List.mem_cons.1 hx with rfl | h'
      · omega
      · exact hall hbf x h'
theorem long_f (s : ByteArray) (l : List S23) (k : Nat) (hk : 210 < k) : ∃ b, topiaryref01_Long.f k s l = some b ∧ (b = false → s.size ≤ 5000 ∧ l.length ≤ 100 ∧ ∀ x ∈ l, x.f2.size ≤ 5000) := by
  obtain ⟨k, rfl⟩ : ∃ m, k = m + 1 := ⟨k - 1, by omega⟩
  unfold topiaryref01_Long.f
  simp only [topiaryref01_Long.j0]
  by_cases h : (s.size : Int) > 5000
  · exact ⟨true, by rw [if_pos h, if_pos trivial], by simp⟩
  · rw [if_neg h]
    by_cases h2 : (l.length : Int) > 100
    · exact ⟨true, by rw [if_pos (by simpa using h2)], by simp⟩
    · rw [if_neg (by simpa using h2)]
      obtain ⟨b, hb, hall⟩ := long_l0 l l.length k 0 (by omega) (by omega) (by omega)
      exact ⟨b, hb, fun hbf => ⟨by omega, by omega, by simpa using hall hbf⟩⟩
theorem ext_bt {a b : ByteArray} (hs : a.size = b.size) (h : ∀ j : Nat, j < a.size → bt a (j : Int) = bt b (j : Int)) : a = b := by
  apply bytes_ext
  rw [ByteArray.toList_eq, ByteArray.toList_eq]
  apply List.ext_getElem
  · rw [Array.length_toList, Array.length_toList]; exact hs
  · intro i h1 h2
    have hi : i < a.size := by rw [Array.length_toList] at h1; exact h1
    have := h i hi
    unfold bt at this
    rw [dif_pos (by simpa using hi), dif_pos (by simpa using hs ▸ hi)] at this
    simp only [Int.toNat_natCast] at this
    have h3 := UInt8.toNat_inj.1 (by exact_mod_cast this)
    exact h3
theorem bt_append (s t : ByteArray) (j : Nat) : bt (s ++ t) (j : Int) = if j < s.size then bt s j else bt t ((j - s.size : Nat) : Int) := by
  unfold bt
  by_cases h : j < s.size
  · rw [if_pos h, dif_pos (by simp [ByteArray.size_append]; omega), dif_pos (by simpa using h)]
    simp [ByteArray.getElem_append_left, h]
  · rw [if_neg h]
    by_cases h2 : j < s.size + t.size
    · rw [dif_pos (by simp [ByteArray.size_append]; omega), dif_pos (by simp; omega)]
      simp only [Int.toNat_natCast]
      rw [ByteArray.getElem_append_right (by omega)]
    · rw [dif_neg (by simp [ByteArray.size_append]; omega), dif_neg (by simp; omega)]
theorem bt_extract (s : ByteArray) (i j m : Nat) (h : m < j - i) (hj : j ≤ s.size) : bt (s.extract i j) (m : Int) = bt s ((i + m : Nat) : Int) := by
  unfold bt
  rw [dif_pos (by simp; omega), dif_pos (by simp; omega)]
  simp only [Int.toNat_natCast]
  rw [ByteArray.getElem_extract]
theorem back_f (s : ByteArray) (a n : Int) (t : ByteArray) (hs : s.size ≤ 140737488351232) (ht : t.size ≤ 140737488351232) : edit_Back.f s a n t = some (if (ap s a n t).2 = 0 then (a, (t.size : Int), s.extract a.toNat (a + n).toNat, 0) else (0, 0, ⟨#[]⟩, (ap s a n t).2)) := by
  unfold edit_Back.f
  rw [apply_f s a n t hs ht, Option.bind_some]
  by_cases h : (ap s a n t).2 = 0
  · have hf : Fit s a n := by
      by_cases hf : Fit s a n
      · exact hf
      · unfold ap at h; rw [if_neg hf] at h; simp at h
    obtain ⟨h1, h2, h3, h4⟩ := hf
    rw [if_pos h, wr (by omega) (by omega), if_pos h1, if_pos (by omega), if_pos (by omega), if_pos h]
  · rw [if_neg h, if_neg h]
theorem rback_f (s : ByteArray) (a n : Int) (t : ByteArray) (hs : s.size ≤ 140737488351232) (hf : Fit s a n) : topiaryref01_Back.f s a n t = some (a, (t.size : Int), s.extract a.toNat (a + n).toNat) := by
  obtain ⟨h1, h2, h3, h4⟩ := hf
  unfold topiaryref01_Back.f
  rw [wr (by omega) (by omega), if_pos h1, if_pos (by omega), if_pos (by omega)]
theorem ap_cases (s : ByteArray) (a n : Int) (t : ByteArray) : (∃ e, ap s a n t = (⟨#[]⟩, e) ∧ e ≠ 0) ∨ (ap s a n t = (put s a n t, 0) ∧ Fit s a n ∧ (t.size : Int) ≤ 4000 ∧ (s.size : Int) - n + t.size ≤ 4000) := by
  unfold ap
  by_cases hf : Fit s a n
  · rw [if_pos hf]
    by_cases h : (t.size : Int) > 4000 ∨ (s.size : Int) - n + t.size > 4000
    · rw [if_pos h]; exact .inl ⟨3, rfl, by decide⟩
    · rw [if_neg h]; exact .inr ⟨rfl, hf, by omega, by omega⟩
  · rw [if_neg hf]; exact .inl ⟨2, rfl, by decide⟩
/-- The way back of what an edit makes fits, and makes of it what there was; what it takes away is the edit's text. -/
theorem back_law (s : ByteArray) (a n : Int) (t : ByteArray) (hf : Fit s a n) : Fit (put s a n t) a (t.size : Int) ∧ put (put s a n t) a (t.size : Int) (s.extract a.toNat (a + n).toNat) = s ∧
    (put s a n t).extract a.toNat (a + (t.size : Int)).toNat = t ∧ ((s.extract a.toNat (a + n).toNat).size : Int) = n := by
  have hz := put_size (t := t) hf
  obtain ⟨h1, h2, h3, h4⟩ := hf
  have z1 : (s.extract 0 a.toNat).size = a.toNat := by rw [ByteArray.size_extract]; omega
  have z2 : (s.extract 0 a.toNat ++ t).size = a.toNat + t.size := by rw [ByteArray.size_append, z1]
  have zt : ((s.extract a.toNat (a + n).toNat).size : Int) = n := by rw [ByteArray.size_extract]; omega
  have hf2 : Fit (put s a n t) a (t.size : Int) := ⟨h1, by omega, by omega, by omega⟩
  have hb : ∀ j : Nat, j < (put s a n t).size → bt (put s a n t) (j : Int) = if j < a.toNat then bt s (j : Int) else if j < a.toNat + t.size then bt t ((j - a.toNat : Nat) : Int) else bt s ((j - t.size + n.toNat : Nat) : Int) := by
    intro j hj
    unfold put
    rw [bt_append, z2]
    by_cases g1 : j < a.toNat + t.size
    · rw [if_pos g1, bt_append, z1]
      by_cases g2 : j < a.toNat
      · rw [if_pos g2, if_pos g2, bt_extract _ _ _ _ (by omega) (by omega), Nat.zero_add]
      · rw [if_neg g2, if_neg g2, if_pos g1]
    · rw [if_neg g1, if_neg (by omega), if_neg (by omega), bt_extract _ _ _ _ (by omega) (by omega)]
      congr 2
      omega
  have hx : (put s a n t).extract a.toNat (a + (t.size : Int)).toNat = t := by
    apply ext_bt
    · rw [ByteArray.size_extract]; omega
    · intro j hj
      rw [ByteArray.size_extract] at hj
      rw [bt_extract _ _ _ _ (by omega) (by omega), hb _ (by omega), if_neg (by omega), if_pos (by omega)]
      congr 2
      omega
  have hz2 := put_size (t := s.extract a.toNat (a + n).toNat) hf2
  refine ⟨hf2, ?_, hx, zt⟩
  apply ext_bt
  · omega
  · intro j hj
    have w1 : ((put s a n t).extract 0 a.toNat).size = a.toNat := by rw [ByteArray.size_extract]; omega
    have w2 : ((put s a n t).extract 0 a.toNat ++ s.extract a.toNat (a + n).toNat).size = a.toNat + n.toNat := by rw [ByteArray.size_append, w1]; omega
    rw [show put (put s a n t) a (t.size : Int) (s.extract a.toNat (a + n).toNat) = (put s a n t).extract 0 a.toNat ++ s.extract a.toNat (a + n).toNat ++ (put s a n t).extract (a + (t.size : Int)).toNat (put s a n t).size from rfl]
    rw [bt_append, w2]
    by_cases g1 : j < a.toNat + n.toNat
    · rw [if_pos g1, bt_append, w1]
      by_cases g2 : j < a.toNat
      · rw [if_pos g2, bt_extract _ _ _ _ (by omega) (by omega), Nat.zero_add, hb _ (by omega), if_pos g2]
      · rw [if_neg g2, bt_extract _ _ _ _ (by omega) (by omega)]
        congr 2
        omega
    · rw [if_neg g1, bt_extract _ _ _ _ (by omega) (by omega), hb _ (by omega), if_neg (by omega), if_neg (by omega)]
      congr 2
      omega
theorem law (s : ByteArray) (a n : Int) (t : ByteArray) (hs : s.size ≤ 140737488351232) (ht : t.size ≤ 140737488351232) : ∃ k, topiarylaw01_EditBack.f k s a n t = some true := by
  refine ⟨20000, ?_⟩
  unfold topiarylaw01_EditBack.f
  rw [wakes_f]
  simp only [Option.bind_some, if_true]
  obtain ⟨b, hb, hall⟩ := long_f s [⟨a, n, t⟩] 20000 (by omega)
  rw [hb, Option.bind_some]
  cases b with
  | true => rfl
  | false =>
    obtain ⟨g1, _, g2⟩ := hall rfl
    have g3 := g2 ⟨a, n, t⟩ (List.mem_singleton.2 rfl)
    simp only at g3
    rw [if_neg (by decide), back_f s a n t hs ht, rapply_f s a n t (by omega) (by omega) _ (by omega), Option.bind_some, Option.bind_some]
    rcases ap_cases s a n t with ⟨e, he, hne⟩ | ⟨he, hf, k1, k2⟩
    · rw [he]
      simp only [if_neg hne]
      simp [hne]
    · obtain ⟨b1, b2, b3, b4⟩ := back_law s a n t hf
      have hz := put_size (t := t) hf
      obtain ⟨y1, y2, y3, y4⟩ := id hf
      rw [he]
      simp only [if_true]
      rw [apply_f _ _ _ _ (by omega) (by omega), back_f _ _ _ _ (by omega) (by omega), rback_f s a n t hs hf]
      have e1 : s.size ≤ 4000 → ap (put s a n t) a (t.size : Int) (s.extract a.toNat (a + n).toNat) = (s, 0) := by
        intro hn
        unfold ap
        rw [if_pos b1, if_neg (by omega), b2]
      by_cases h5 : (s.size : Int) > 4000
      · simp only [Option.bind_some]
        rw [if_pos h5]
        simp
      · simp only [Option.bind_some]
        rw [if_neg h5, e1 (by omega)]
        simp only [if_true, b3, b4]
        simp

end Go.Proofs.Ytfdpaaacgakaaaa.Pure
