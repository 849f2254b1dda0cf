/- Proved here: edit.All of any edits one behind the other tells what the document tells (texts over 5000 bytes, and over 100 edits, let go). -/
import Derived.Test.YtfdpaaacgakaaaaPEditAllx
namespace Go.Proofs.Ytfdpaaacgakaaaa.Pure
open Go.RowKit Go.Proofs.Ytfdpaaacgakaaaa.PEditAll Go.Proofs.YtfdpaaacgakaaaaW.PrintWords Go.Proofs.YtfdpaaacgakaaaaW.PrintLast
set_option linter.unusedVariables false
set_option linter.unusedSimpArgs false

/-! #### an edit, in plain words -/
theorem wr {a : Int} (h : -9223372036854775808 ≤ a) (h2 : a < 9223372036854775808) : wrap64 a = a := by unfold wrap64; omega
theorem int_wf {n : Int} (h : (Lit.int .i64 n).wf = true) : -9223372036854775808 ≤ n ∧ n < 9223372036854775808 := by
  simp [Lit.wf, IntKind.min, IntKind.max, IntKind.signed, IntKind.bits] at h
  omega
theorem bytes_ext {a b : ByteArray} (h : a.toList = b.toList) : a = b := by
  rw [ByteArray.toList_eq, ByteArray.toList_eq] at h
  cases a; cases b
  congr 1
  exact Array.toList_inj.1 h
def Fit (s : ByteArray) (a n : Int) : Prop := 0 ≤ a ∧ 0 ≤ n ∧ a ≤ (s.size : Int) ∧ n ≤ (s.size : Int) - a
instance (s : ByteArray) (a n : Int) : Decidable (Fit s a n) := by unfold Fit; infer_instance
/-- What an edit makes. -/
def put (s : ByteArray) (a n : Int) (t : ByteArray) : ByteArray := s.extract 0 a.toNat ++ t ++ s.extract (a + n).toNat s.size
/-- What Apply answers. -/
def ap (s : ByteArray) (a n : Int) (t : ByteArray) : ByteArray × Int :=
  if Fit s a n then (if (t.size : Int) > 4000 ∨ (s.size : Int) - n + t.size > 4000 then (⟨#[]⟩, 3) else (put s a n t, 0)) else (⟨#[]⟩, 2)
def Small (a n : Int) : Prop := (-9223372036854775808 ≤ a ∧ a < 9223372036854775808) ∧ (-9223372036854775808 ≤ n ∧ n < 9223372036854775808)
theorem put_size {s : ByteArray} {a n : Int} {t : ByteArray} (h : Fit s a n) : ((put s a n t).size : Int) = (s.size : Int) - n + t.size := by
  obtain ⟨h1, h2, h3, h4⟩ := h
  unfold put
  simp only [ByteArray.size_append, ByteArray.size_extract]
  omega
theorem fits_f (s : ByteArray) (a n : Int) (t : ByteArray) (hs : s.size ≤ 140737488351232) : edit_fits.f s a n t = some (decide (Fit s a n)) := by
  unfold edit_fits.f Fit
  by_cases h1 : 0 ≤ a
  · by_cases h2 : 0 ≤ n
    · by_cases h3 : a ≤ (s.size : Int)
      · rw [if_pos (by omega), if_pos (by omega), if_pos h3, wr (by omega) (by omega)]
        simp [h1, h2, h3]
      · rw [if_pos (by omega), if_pos (by omega), if_neg h3]; simp [h3]
    · rw [if_pos (by omega), if_neg (by omega)]; simp [h2]
  · rw [if_neg (by omega)]; simp [h1]
theorem apply_f (s : ByteArray) (a n : Int) (t : ByteArray) (hs : s.size ≤ 140737488351232) (ht : t.size ≤ 140737488351232) : edit_Apply.f s a n t = some (ap s a n t) := by
  unfold edit_Apply.f ap
  rw [fits_f s a n t hs, Option.bind_some]
  by_cases hf : Fit s a n
  · obtain ⟨h1, h2, h3, h4⟩ := id hf
    rw [if_pos (by simpa using hf), if_pos hf]
    by_cases h5 : (t.size : Int) > 4000
    · rw [if_pos h5, if_pos (Or.inl h5)]
    · rw [if_neg h5, wr (a := (s.size : Int) - n) (by omega) (by omega), wr (a := (s.size : Int) - n + t.size) (by omega) (by omega)]
      by_cases h6 : (s.size : Int) - n + t.size > 4000
      · rw [if_pos h6, if_pos (Or.inr h6)]
      · have e1 : (s.extract 0 a.toNat).size = a.toNat := by rw [ByteArray.size_extract]; omega
        have e2 : (s.extract 0 a.toNat ++ t).size = a.toNat + t.size := by rw [ByteArray.size_append, e1]
        have e3 : (s.extract (a + n).toNat s.size).size = s.size - (a + n).toNat := by rw [ByteArray.size_extract]; omega
        rw [if_neg h6, if_neg (show ¬ ((t.size : Int) > 4000 ∨ (s.size : Int) - n + t.size > 4000) by omega), wr (a := a + n) (by omega) (by omega), if_pos h1, if_pos h3, e1, if_pos (by omega), if_pos (by omega), if_pos (by omega), e2, e3, if_pos (by omega)]
        rfl
  · rw [if_neg (by simpa using hf), if_neg hf]
theorem wakes_f : topiarylaw01_wakes.f = some true := by
  unfold topiarylaw01_wakes.f
  rw [apply_f _ _ _ _ (by decide) (by decide), Option.bind_some]
  have h : ap ⟨#[97, 98, 99]⟩ 1 1 ⟨#[120, 121]⟩ = (⟨#[97, 120, 121, 99]⟩, 0) := by decide +kernel
  rw [h]
  rw [if_pos (by rw [ByteArray.toList_eq])]
  rfl
theorem rfits_f (s : ByteArray) (a n : Int) (t : ByteArray) (hs : s.size ≤ 140737488351232) : topiaryref01_Fits.f s a n t = some (decide (Fit s a n)) := by
  unfold topiaryref01_Fits.f Fit
  by_cases h1 : 0 ≤ a
  · by_cases h2 : 0 ≤ n
    · by_cases h3 : a ≤ (s.size : Int)
      · rw [if_neg (by omega), if_neg (by omega), if_neg (by omega), wr (by omega) (by omega)]
        simp [h1, h2, h3]
      · rw [if_neg (by omega), if_neg (by omega), if_pos (by omega)]; simp [h3]
    · rw [if_neg (by omega), if_pos (by omega)]; simp [h2]
  · rw [if_pos (by omega)]; simp [h1]
theorem bytes_drop (s : ByteArray) (i : Nat) (h : i < s.size) : (bytesOf s).drop i = bt s (i : Int) :: (bytesOf s).drop (i + 1) := by
  have hl := bytesOf_length s
  rw [List.drop_eq_getElem_cons (by omega)]
  congr 1
  rw [← rd_bytesOf, rd, List.getD_eq_getElem?_getD, Int.toNat_natCast, List.getElem?_eq_getElem (by omega)]
  rfl
theorem rl1 (s : ByteArray) (hs : s.size ≤ 6000) (d : Nat) : ∀ (k i : Nat) (acc : List Int), i + d = s.size → acc.length ≤ 20000 + i → d < k →
    topiaryref01_Apply.l1 k s acc (i : Int) = some (strOfNums (acc ++ (bytesOf s).drop i), 0) := by
  induction d with
  | zero =>
    intro k i acc h1 h2 h3
    obtain ⟨k, rfl⟩ : ∃ m, k = m + 1 := ⟨k - 1, by omega⟩
    simp only [topiaryref01_Apply.l1]
    rw [if_neg (by omega), List.drop_of_length_le (by rw [bytesOf_length]; omega), List.append_nil]
  | succ d ih =>
    intro k i acc h1 h2 h3
    obtain ⟨k, rfl⟩ : ∃ m, k = m + 1 := ⟨k - 1, by omega⟩
    have hw : wrap64 ((i : Int) + 1) = ((i + 1 : Nat) : Int) := by rw [wr (by omega) (by omega)]; omega
    simp only [topiaryref01_Apply.l1]
    rw [if_pos (by omega), if_pos (by omega), if_pos (by omega), hw, ih k (i + 1) _ (by omega) (by simp; omega) (by omega), bytes_drop s i (by omega)]
    simp
theorem rl0 (s : ByteArray) (hs : s.size ≤ 6000) (a n : Int) (t : ByteArray) (ht : t.size ≤ 6000) (hf : Fit s a n) (d : Nat) : ∀ (k i : Nat) (acc : List Int), (i : Int) + d = a → acc.length ≤ i → d + 7000 < k →
    topiaryref01_Apply.l0 k s acc (i : Int) a n t = some (strOfNums (acc ++ ((bytesOf s).drop i).take d ++ bytesOf t ++ (bytesOf s).drop (a + n).toNat), 0) := by
  obtain ⟨g1, g2, g3, g4⟩ := hf
  induction d with
  | zero =>
    intro k i acc h1 h2 h3
    obtain ⟨k, rfl⟩ : ∃ m, k = m + 1 := ⟨k - 1, by omega⟩
    simp only [topiaryref01_Apply.l0]
    rw [if_neg (by omega), if_pos (by omega), wr (by omega) (by omega), show a + n = (((a + n).toNat : Nat) : Int) from by omega]
    rw [rl1 s hs (s.size - (a + n).toNat) k (a + n).toNat _ (by omega) (by rw [List.length_append, bytesOf_length]; omega) (by omega), Int.toNat_natCast]
    simp
  | succ d ih =>
    intro k i acc h1 h2 h3
    obtain ⟨k, rfl⟩ : ∃ m, k = m + 1 := ⟨k - 1, by omega⟩
    have hw : wrap64 ((i : Int) + 1) = ((i + 1 : Nat) : Int) := by rw [wr (by omega) (by omega)]; omega
    simp only [topiaryref01_Apply.l0]
    rw [if_pos (by omega), if_pos (by omega), if_pos (by omega), if_pos (by omega), hw, ih k (i + 1) _ (by omega) (by simp; omega) (by omega), bytes_drop s i (by omega)]
    simp
theorem str_bytes (l : List UInt8) : (l.map fun b => (b.toNat : Int)).map (fun n : Int => UInt8.ofNat n.toNat) = l := by
  rw [List.map_map]
  conv => rhs; rw [← List.map_id l]
  apply List.map_congr_left
  intro x _
  simp
theorem put_str (s : ByteArray) (a n : Int) (t : ByteArray) (hf : Fit s a n) : strOfNums (([] : List Int) ++ ((bytesOf s).drop 0).take a.toNat ++ bytesOf t ++ (bytesOf s).drop (a + n).toNat) = put s a n t := by
  apply bytes_ext
  rw [ByteArray.toList_eq, ByteArray.toList_eq, strOfNums_data]
  unfold put bytesOf
  simp only [ByteArray.data_append, ByteArray.data_extract, Array.toList_append, Array.toList_extract, List.nil_append, List.drop_zero, ← List.map_take, ← List.map_drop, ← List.map_append, str_bytes]
  rw [show s.data.toList.extract (a + n).toNat s.size = s.data.toList.drop (a + n).toNat from List.take_of_length_le (by rw [List.length_drop, Array.length_toList]; exact Nat.le_refl _)]
  rfl
theorem rapply_f (s : ByteArray) (a n : Int) (t : ByteArray) (hs : s.size ≤ 6000) (ht : t.size ≤ 6000) (k : Nat) (hk : 14000 < k) : topiaryref01_Apply.f k s a n t = some (ap s a n t) := by
  obtain ⟨k, rfl⟩ : ∃ m, k = m + 1 := ⟨k - 1, by omega⟩
  unfold topiaryref01_Apply.f ap
  rw [rfits_f s a n t (by omega), Option.bind_some]
  simp only [topiaryref01_Apply.j0]
  by_cases hf : Fit s a n
  · obtain ⟨h1, h2, h3, h4⟩ := id hf
    rw [if_pos (by simpa using hf), if_pos hf]
    by_cases h5 : (t.size : Int) > 4000
    · rw [if_pos h5, if_pos trivial, if_pos (Or.inl h5)]
    · rw [if_neg h5, wr (a := (s.size : Int) - n) (by omega) (by omega), wr (a := (s.size : Int) - n + t.size) (by omega) (by omega)]
      by_cases h6 : (s.size : Int) - n + t.size > 4000
      · rw [if_pos (by simpa using h6), if_pos (Or.inr h6)]
      · rw [if_neg (by simpa using h6), if_neg (by omega)]
        have := rl0 s hs a n t ht hf a.toNat k 0 [] (by omega) (by simp) (by omega)
        rw [put_str s a n t hf, Int.natCast_zero] at this
        exact this
  · rw [if_neg (by simpa using hf), if_neg hf]
theorem long_l0 (l : List S23) (d : Nat) : ∀ (k i : Nat), i + d = l.length → l.length ≤ 200 → d < k → ∃ b, topiaryref01_Long.l0 k l (i : Int) = some b ∧ (b = false → ∀ x ∈ l.drop i, x.f2.size ≤ 5000) := by
  induction d with
  | zero =>
    intro k i h1 h2 h3
    obtain ⟨k, rfl⟩ : ∃ m, k = m + 1 := ⟨k - 1, by omega⟩
    refine ⟨false, ?_, ?_⟩
    · simp only [topiaryref01_Long.l0]; rw [if_neg (by omega)]
    · rw [List.drop_of_length_le (by omega)]; simp
  | succ d ih =>
    intro k i h1 h2 h3
    obtain ⟨k, rfl⟩ : ∃ m, k = m + 1 := ⟨k - 1, by omega⟩
    have hw : wrap64 ((i : Int) + 1) = ((i + 1 : Nat) : Int) := by rw [wr (by omega) (by omega)]; omega
    have hd : l.drop i = rd_T23 l i :: l.drop (i + 1) := by
      rw [List.drop_eq_getElem_cons (by omega)]
      simp [rd_T23, List.getD, List.getElem?_eq_getElem (show i < l.length by omega)]
    simp only [topiaryref01_Long.l0]
    rw [if_pos (by omega), if_pos (by omega), hw]
    by_cases h : ((rd_T23 l (i : Int)).f2.size : Int) > 5000
    · exact ⟨true, by rw [if_pos h], by simp⟩
    · obtain ⟨b, hb, hall⟩ := ih k (i + 1) (by omega) h2 (by omega)
      refine ⟨b, by rw [if_neg h, hb], fun hbf => ?_⟩
      rw [hd]
      intro x hx
      rcases List.mem_cons.1 hx with rfl | h'
      · omega
      · exact hall hbf x h'
theorem long_f (s : ByteArray) (l : List S23) (k : Nat) (hk : 210 < k) : ∃ b, topiaryref01_Long.f k s l = some b ∧ (b = false → s.size ≤ 5000 ∧ l.length ≤ 100 ∧ ∀ x ∈ l, x.f2.size ≤ 5000) := by
  obtain ⟨k, rfl⟩ : ∃ m, k = m + 1 := ⟨k - 1, by omega⟩
  unfold topiaryref01_Long.f
  simp only [topiaryref01_Long.j0]
  by_cases h : (s.size : Int) > 5000
  · exact ⟨true, by rw [if_pos h, if_pos trivial], by simp⟩
  · rw [if_neg h]
    by_cases h2 : (l.length : Int) > 100
    · exact ⟨true, by rw [if_pos (by simpa using h2)], by simp⟩
    · rw [if_neg (by simpa using h2)]
      obtain ⟨b, hb, hall⟩ := long_l0 l l.length k 0 (by omega) (by omega) (by omega)
      exact ⟨b, hb, fun hbf => ⟨by omega, by omega, by simpa using hall hbf⟩⟩
theorem all_l0 (l : List S23) (hl : ∀ x ∈ l, x.f2.size ≤ 5000) (hlen : l.length ≤ 100) (d : Nat) : ∀ (k i : Nat) (s : ByteArray), i + d = l.length → s.size ≤ 5000 → d + 14000 < k →
    ∃ r, edit_All.l0 k s l l (l.length : Int) (i : Int) = some r ∧ ∀ k', 20000 + d < k' → topiaryref01_Play.l0 k' s l (i : Int) = some r := by
  induction d with
  | zero =>
    intro k i s h1 h2 h3
    obtain ⟨k, rfl⟩ : ∃ m, k = m + 1 := ⟨k - 1, by omega⟩
    refine ⟨(s, (l.length : Int), 0), ?_, fun k' hk' => ?_⟩
    · simp only [edit_All.l0]; rw [if_neg (by omega)]
    · obtain ⟨k', rfl⟩ : ∃ m, k' = m + 1 := ⟨k' - 1, by omega⟩
      simp only [topiaryref01_Play.l0]; rw [if_neg (by omega)]
  | succ d ih =>
    intro k i s h1 h2 h3
    obtain ⟨k, rfl⟩ : ∃ m, k = m + 1 := ⟨k - 1, by omega⟩
    have hw : wrap64 ((i : Int) + 1) = ((i + 1 : Nat) : Int) := by rw [wr (by omega) (by omega)]; omega
    have ht : (rd_T23 l (i : Int)).f2.size ≤ 5000 := by
      apply hl
      unfold rd_T23
      rw [List.getD_eq_getElem?_getD, List.getElem?_eq_getElem (by omega)]
      exact List.getElem_mem ..
    simp only [edit_All.l0]
    rw [if_pos (by omega), if_pos (by omega), if_pos (by omega), apply_f s _ _ _ (by omega) (by omega), Option.bind_some]
    by_cases h0 : (ap s (rd_T23 l (i : Int)).f0 (rd_T23 l (i : Int)).f1 (rd_T23 l (i : Int)).f2).2 = 0
    · rw [if_pos h0, hw]
      have hsz : (ap s (rd_T23 l (i : Int)).f0 (rd_T23 l (i : Int)).f1 (rd_T23 l (i : Int)).f2).1.size ≤ 5000 := by
        revert h0
        unfold ap
        split
        · rename_i hf
          split
          · simp
          · intro _
            have := put_size (t := (rd_T23 l (i : Int)).f2) hf
            simp only
            omega
        · simp
      obtain ⟨r, hr, hr'⟩ := ih k (i + 1) _ (by omega) hsz (by omega)
      refine ⟨r, hr, fun k' hk' => ?_⟩
      obtain ⟨k', rfl⟩ : ∃ m, k' = m + 1 := ⟨k' - 1, by omega⟩
      simp only [topiaryref01_Play.l0]
      rw [if_pos (by omega), if_pos (by omega), rapply_f s _ _ _ (by omega) (by omega) _ (by omega), Option.bind_some, if_pos h0, hw]
      exact hr' k' (by omega)
    · refine ⟨(s, (i : Int), (ap s (rd_T23 l (i : Int)).f0 (rd_T23 l (i : Int)).f1 (rd_T23 l (i : Int)).f2).2), by rw [if_neg h0], fun k' hk' => ?_⟩
      obtain ⟨k', rfl⟩ : ∃ m, k' = m + 1 := ⟨k' - 1, by omega⟩
      simp only [topiaryref01_Play.l0]
      rw [if_pos (by omega), if_pos (by omega), rapply_f s _ _ _ (by omega) (by omega) _ (by omega), Option.bind_some, if_neg h0]
theorem law (s : ByteArray) (l : List S23) (hs : s.size ≤ 140737488351232) : ∃ k, topiarylaw01_EditAll.f k s l = some true := by
  refine ⟨30000, ?_⟩
  unfold topiarylaw01_EditAll.f
  rw [wakes_f]
  simp only [Option.bind_some, if_true]
  obtain ⟨b, hb, hall⟩ := long_f s l 30000 (by omega)
  rw [hb, Option.bind_some]
  cases b with
  | true => rfl
  | false =>
    obtain ⟨g1, g2, g3⟩ := hall rfl
    obtain ⟨r, hr, hr'⟩ := all_l0 l g3 g2 l.length 30000 0 s (by omega) g1 (by omega)
    rw [if_neg (by decide), if_pos (by simp; omega), List.nil_append]
    unfold edit_All.f topiaryref01_Play.f
    rw [Int.natCast_zero] at hr hr'
    rw [hr, hr' 30000 (by omega)]
    simp

end Go.Proofs.Ytfdpaaacgakaaaa.Pure
