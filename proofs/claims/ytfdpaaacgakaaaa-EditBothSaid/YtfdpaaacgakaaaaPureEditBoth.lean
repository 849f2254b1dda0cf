/- Proved here: two edits are told by one, that makes what they make (greater texts than 4000, or 5000 bytes let go). -/
import Derived.Test.YtfdpaaacgakaaaaEOwalk
namespace Go.Proofs.Ytfdpaaacgakaaaa.Pure
open Go.RowKit Go.Proofs.Ytfdpaaacgakaaaa.PEditBoth Go.Proofs.YtfdpaaacgakaaaaW.PrintWords Go.Proofs.YtfdpaaacgakaaaaW.PrintLast
set_option linter.unusedVariables false
set_option linter.unusedSimpArgs false

/-! #### an edit, in plain words -/
theorem wr {a : Int} (h : -9223372036854775808 ≤ a) (h2 : a < 9223372036854775808) : wrap64 a = a := by unfold wrap64; omega
theorem int_wf {n : Int} (h : (Lit.int .i64 n).wf = true) : -9223372036854775808 ≤ n ∧ n < 9223372036854775808 := by
  simp [Lit.wf, IntKind.min, IntKind.max, IntKind.signed, IntKind.bits] at h
  omega
theorem bytes_ext {a b : ByteArray} (h : a.toList = b.toList) : a = b := by
  rw [ByteArray.toList_eq, ByteArray.toList_eq] at h
  cases a; cases b
  congr 1
  exact Array.toList_inj.1 h
def Fit (s : ByteArray) (a n : Int) : Prop := 0 ≤ a ∧ 0 ≤ n ∧ a ≤ (s.size : Int) ∧ n ≤ (s.size : Int) - a
instance (s : ByteArray) (a n : Int) : Decidable (Fit s a n) := by unfold Fit; infer_instance
/-- What an edit makes. -/
def put (s : ByteArray) (a n : Int) (t : ByteArray) : ByteArray := s.extract 0 a.toNat ++ t ++ s.extract (a + n).toNat s.size
/-- What Apply answers. -/
def ap (s : ByteArray) (a n : Int) (t : ByteArray) : ByteArray × Int :=
  if Fit s a n then (if (t.size : Int) > 4000 ∨ (s.size : Int) - n + t.size > 4000 then (⟨#[]⟩, 3) else (put s a n t, 0)) else (⟨#[]⟩, 2)
def Small (a n : Int) : Prop := (-9223372036854775808 ≤ a ∧ a < 9223372036854775808) ∧ (-9223372036854775808 ≤ n ∧ n < 9223372036854775808)
theorem put_size {s : ByteArray} {a n : Int} {t : ByteArray} (h : Fit s a n) : ((put s a n t).size : Int) = (s.size : Int) - n + t.size := by
  obtain ⟨h1, h2, h3, h4⟩ := h
  unfold put
  simp only [ByteArray.size_append, ByteArray.size_extract]
  omega
theorem fits_f (s : ByteArray) (a n : Int) (t : ByteArray) (hs : s.size ≤ 140737488351232) : edit_fits.f s a n t = some (decide (Fit s a n)) := by
  unfold edit_fits.f Fit
  by_cases h1 : 0 ≤ a
  · by_cases h2 : 0 ≤ n
    · by_cases h3 : a ≤ (s.size : Int)
      · rw [if_pos (by omega), if_pos (by omega), if_pos h3, wr (by omega) (by omega)]
        simp [h1, h2, h3]
      · rw [if_pos (by omega), if_pos (by omega), if_neg h3]; simp [h3]
    · rw [if_pos (by omega), if_neg (by omega)]; simp [h2]
  · rw [if_neg (by omega)]; simp [h1]
theorem apply_f (s : ByteArray) (a n : Int) (t : ByteArray) (hs : s.size ≤ 140737488351232) (ht : t.size ≤ 140737488351232) : edit_Apply.f s a n t = some (ap s a n t) := by
  unfold edit_Apply.f ap
  rw [fits_f s a n t hs, Option.bind_some]
  by_cases hf : Fit s a n
  · obtain ⟨h1, h2, h3, h4⟩ := id hf
    rw [if_pos (by simpa using hf), if_pos hf]
    by_cases h5 : (t.size : Int) > 4000
    · rw [if_pos h5, if_pos (Or.inl h5)]
    · rw [if_neg h5, wr (a := (s.size : Int) - n) (by omega) (by omega), wr (a := (s.size : Int) - n + t.size) (by omega) (by omega)]
      by_cases h6 : (s.size : Int) - n + t.size > 4000
      · rw [if_pos h6, if_pos (Or.inr h6)]
      · have e1 : (s.extract 0 a.toNat).size = a.toNat := by rw [ByteArray.size_extract]; omega
        have e2 : (s.extract 0 a.toNat ++ t).size = a.toNat + t.size := by rw [ByteArray.size_append, e1]
        have e3 : (s.extract (a + n).toNat s.size).size = s.size - (a + n).toNat := by rw [ByteArray.size_extract]; omega
        rw [if_neg h6, if_neg (show ¬ ((t.size : Int) > 4000 ∨ (s.size : Int) - n + t.size > 4000) by omega), wr (a := a + n) (by omega) (by omega), if_pos h1, if_pos h3, e1, if_pos (by omega), if_pos (by omega), if_pos (by omega), e2, e3, if_pos (by omega)]
        rfl
  · rw [if_neg (by simpa using hf), if_neg hf]
theorem wakes_f : topiarylaw01_wakes.f = some true := by
  unfold topiarylaw01_wakes.f
  rw [apply_f _ _ _ _ (by decide) (by decide), Option.bind_some]
  have h : ap ⟨#[97, 98, 99]⟩ 1 1 ⟨#[120, 121]⟩ = (⟨#[97, 120, 121, 99]⟩, 0) := by decide +kernel
  rw [h]
  rw [if_pos (by rw [ByteArray.toList_eq])]
  rfl
theorem rfits_f (s : ByteArray) (a n : Int) (t : ByteArray) (hs : s.size ≤ 140737488351232) : topiaryref01_Fits.f s a n t = some (decide (Fit s a n)) := by
  unfold topiaryref01_Fits.f Fit
  by_cases h1 : 0 ≤ a
  · by_cases h2 : 0 ≤ n
    · by_cases h3 : a ≤ (s.size : Int)
      · rw [if_neg (by omega), if_neg (by omega), if_neg (by omega), wr (by omega) (by omega)]
        simp [h1, h2, h3]
      · rw [if_neg (by omega), if_neg (by omega), if_pos (by omega)]; simp [h3]
    · rw [if_neg (by omega), if_pos (by omega)]; simp [h2]
  · rw [if_pos (by omega)]; simp [h1]
theorem bytes_drop (s : ByteArray) (i : Nat) (h : i < s.size) : (bytesOf s).drop i = bt s (i : Int) :: (bytesOf s).drop (i + 1) := by
  have hl := bytesOf_length s
  rw [List.drop_eq_getElem_cons (by omega)]
  congr 1
  rw [← rd_bytesOf, rd, List.getD_eq_getElem?_getD, Int.toNat_natCast, List.getElem?_eq_getElem (by omega)]
  rfl
theorem rl1 (s : ByteArray) (hs : s.size ≤ 6000) (d : Nat) : ∀ (k i : Nat) (acc : List Int), i + d = s.size → acc.length ≤ 20000 + i → d < k →
    topiaryref01_Apply.l1 k s acc (i : Int) = some (strOfNums (acc ++ (bytesOf s).drop i), 0) := by
  induction d with
  | zero =>
    intro k i acc h1 h2 h3
    obtain ⟨k, rfl⟩ : ∃ m, k = m + 1 := ⟨k - 1, by omega⟩
    simp only [topiaryref01_Apply.l1]
    rw [if_neg (by omega), List.drop_of_length_le (by rw [bytesOf_length]; omega), List.append_nil]
  | succ d ih =>
    intro k i acc h1 h2 h3
    obtain ⟨k, rfl⟩ : ∃ m, k = m + 1 := ⟨k - 1, by omega⟩
    have hw : wrap64 ((i : Int) + 1) = ((i + 1 : Nat) : Int) := by rw [wr (by omega) (by omega)]; omega
    simp only [topiaryref01_Apply.l1]
    rw [if_pos (by omega), if_pos (by omega), if_pos (by omega), hw, ih k (i + 1) _ (by omega) (by simp; omega) (by omega), bytes_drop s i (by omega)]
    simp
theorem rl0 (s : ByteArray) (hs : s.size ≤ 6000) (a n : Int) (t : ByteArray) (ht : t.size ≤ 6000) (hf : Fit s a n) (d : Nat) : ∀ (k i : Nat) (acc : List Int), (i : Int) + d = a → acc.length ≤ i → d + 7000 < k →
    topiaryref01_Apply.l0 k s acc (i : Int) a n t = some (strOfNums (acc ++ ((bytesOf s).drop i).take d ++ bytesOf t ++ (bytesOf s).drop (a + n).toNat), 0) := by
  obtain ⟨g1, g2, g3, g4⟩ := hf
  induction d with
  | zero =>
    intro k i acc h1 h2 h3
    obtain ⟨k, rfl⟩ : ∃ m, k = m + 1 := ⟨k - 1, by omega⟩
    simp only [topiaryref01_Apply.l0]
    rw [if_neg (by omega), if_pos (by omega), wr (by omega) (by omega), show a + n = (((a + n).toNat : Nat) : Int) from by omega]
    rw [rl1 s hs (s.size - (a + n).toNat) k (a + n).toNat _ (by omega) (by rw [List.length_append, bytesOf_length]; omega) (by omega), Int.toNat_natCast]
    simp
  | succ d ih =>
    intro k i acc h1 h2 h3
    obtain ⟨k, rfl⟩ : ∃ m, k = m + 1 := ⟨k - 1, by omega⟩
    have hw : wrap64 ((i : Int) + 1) = ((i + 1 : Nat) : Int) := by rw [wr (by omega) (by omega)]; omega
    simp only [topiaryref01_Apply.l0]
    rw [if_pos (by omega), if_pos (by omega), if_pos (by omega), if_pos (by omega), hw, ih k (i + 1) _ (by omega) (by simp; omega) (by omega), bytes_drop s i (by omega)]
    simp
theorem str_bytes (l : List UInt8) : (l.map fun b => (b.toNat : Int)).map (fun n : Int => UInt8.ofNat n.toNat) = l := by
  rw [List.map_map]
  conv => rhs; rw [← List.map_id l]
  apply List.map_congr_left
  intro x _
  simp
theorem put_str (s : ByteArray) (a n : Int) (t : ByteArray) (hf : Fit s a n) : strOfNums (([] : List Int) ++ ((bytesOf s).drop 0).take a.toNat ++ bytesOf t ++ (bytesOf s).drop (a + n).toNat) = put s a n t := by
  apply bytes_ext
  rw [ByteArray.toList_eq, ByteArray.toList_eq, strOfNums_data]
  unfold put bytesOf
  simp only [ByteArray.data_append, ByteArray.data_extract, Array.toList_append, Array.toList_extract, List.nil_append, List.drop_zero, ← List.map_take, ← List.map_drop, ← List.map_append, str_bytes]
  rw [show s.data.toList.extract (a + n).toNat s.size = s.data.toList.drop (a + n).toNat from List.take_of_length_le (by rw [List.length_drop, Array.length_toList]; exact Nat.le_refl _)]
  rfl
theorem rapply_f (s : ByteArray) (a n : Int) (t : ByteArray) (hs : s.size ≤ 6000) (ht : t.size ≤ 6000) (k : Nat) (hk : 14000 < k) : topiaryref01_Apply.f k s a n t = some (ap s a n t) := by
  obtain ⟨k, rfl⟩ : ∃ m, k = m + 1 := ⟨k - 1, by omega⟩
  unfold topiaryref01_Apply.f ap
  rw [rfits_f s a n t (by omega), Option.bind_some]
  simp only [topiaryref01_Apply.j0]
  by_cases hf : Fit s a n
  · obtain ⟨h1, h2, h3, h4⟩ := id hf
    rw [if_pos (by simpa using hf), if_pos hf]
    by_cases h5 : (t.size : Int) > 4000
    · rw [if_pos h5, if_pos trivial, if_pos (Or.inl h5)]
    · rw [if_neg h5, wr (a := (s.size : Int) - n) (by omega) (by omega), wr (a := (s.size : Int) - n + t.size) (by omega) (by omega)]
      by_cases h6 : (s.size : Int) - n + t.size > 4000
      · rw [if_pos (by simpa using h6), if_pos (Or.inr h6)]
      · rw [if_neg (by simpa using h6), if_neg (by omega)]
        have := rl0 s hs a n t ht hf a.toNat k 0 [] (by omega) (by simp) (by omega)
        rw [put_str s a n t hf, Int.natCast_zero] at this
        exact this
  · rw [if_neg (by simpa using hf), if_neg hf]
theorem long_l0 (l : List S23) (d : Nat) : ∀ (k i : Nat), i + d = l.length → l.length ≤ 200 → d < k → ∃ b, topiaryref01_Long.l0 k l (i : Int) = some b ∧ (b = false → ∀ x ∈ l.drop i, x.f2.size ≤ 5000) := by
  induction d with
  | zero =>
    intro k i h1 h2 h3
    obtain ⟨k, rfl⟩ : ∃ m, k = m + 1 := ⟨k - 1, by omega⟩
    refine ⟨false, ?_, ?_⟩
    · simp only [topiaryref01_Long.l0]; rw [if_neg (by omega)]
    · rw [List.drop_of_length_le (by omega)]; simp
  | succ d ih =>
    intro k i h1 h2 h3
    obtain ⟨k, rfl⟩ : ∃ m, k = m + 1 := ⟨k - 1, by omega⟩
    have hw : wrap64 ((i : Int) + 1) = ((i + 1 : Nat) : Int) := by rw [wr (by omega) (by omega)]; omega
    have hd : l.drop i = rd_T23 l i :: l.drop (i + 1) := by
      rw [List.drop_eq_getElem_cons (by omega)]
      simp [rd_T23, List.getD, List.getElem?_eq_getElem (show i < l.length by omega)]
    simp only [topiaryref01_Long.l0]
    rw [if_pos (by omega), if_pos (by omega), hw]
    by_cases h : ((rd_T23 l (i : Int)).f2.size : Int) > 5000
    · exact ⟨true, by rw [if_pos h], by simp⟩
    · obtain ⟨b, hb, hall⟩ := ih k (i + 1) (by omega) h2 (by omega)
      refine ⟨b, by rw [if_neg h, hb], fun hbf => ?_⟩
      rw [hd]
      intro x hx
      rcases List.mem_cons.1 hx with rfl | h'
      · omega
      · exact hall hbf x h'
theorem long_f (s : ByteArray) (l : List S23) (k : Nat) (hk : 210 < k) : ∃ b, topiaryref01_Long.f k s l = some b ∧ (b = false → s.size ≤ 5000 ∧ l.length ≤ 100 ∧ ∀ x ∈ l, x.f2.size ≤ 5000) := by
  obtain ⟨k, rfl⟩ : ∃ m, k = m + 1 := ⟨k - 1, by omega⟩
  unfold topiaryref01_Long.f
  simp only [topiaryref01_Long.j0]
  by_cases h : (s.size : Int) > 5000
  · exact ⟨true, by rw [if_pos h, if_pos trivial], by simp⟩
  · rw [if_neg h]
    by_cases h2 : (l.length : Int) > 100
    · exact ⟨true, by rw [if_pos (by simpa using h2)], by simp⟩
    · rw [if_neg (by simpa using h2)]
      obtain ⟨b, hb, hall⟩ := long_l0 l l.length k 0 (by omega) (by omega) (by omega)
      exact ⟨b, hb, fun hbf => ⟨by omega, by omega, by simpa using hall hbf⟩⟩
theorem ext_bt {a b : ByteArray} (hs : a.size = b.size) (h : ∀ j : Nat, j < a.size → bt a (j : Int) = bt b (j : Int)) : a = b := by
  apply bytes_ext
  rw [ByteArray.toList_eq, ByteArray.toList_eq]
  apply List.ext_getElem
  · rw [Array.length_toList, Array.length_toList]; exact hs
  · intro i h1 h2
    have hi : i < a.size := by rw [Array.length_toList] at h1; exact h1
    have := h i hi
    unfold bt at this
    rw [dif_pos (by simpa using hi), dif_pos (by simpa using hs ▸ hi)] at this
    simp only [Int.toNat_natCast] at this
    have h3 := UInt8.toNat_inj.1 (by exact_mod_cast this)
    exact h3
theorem bt_append (s t : ByteArray) (j : Nat) : bt (s ++ t) (j : Int) = if j < s.size then bt s j else bt t ((j - s.size : Nat) : Int) := by
  unfold bt
  by_cases h : j < s.size
  · rw [if_pos h, dif_pos (by simp [ByteArray.size_append]; omega), dif_pos (by simpa using h)]
    simp [ByteArray.getElem_append_left, h]
  · rw [if_neg h]
    by_cases h2 : j < s.size + t.size
    · rw [dif_pos (by simp [ByteArray.size_append]; omega), dif_pos (by simp; omega)]
      simp only [Int.toNat_natCast]
      rw [ByteArray.getElem_append_right (by omega)]
    · rw [dif_neg (by simp [ByteArray.size_append]; omega), dif_neg (by simp; omega)]
theorem bt_extract (s : ByteArray) (i j m : Nat) (h : m < j - i) (hj : j ≤ s.size) : bt (s.extract i j) (m : Int) = bt s ((i + m : Nat) : Int) := by
  unfold bt
  rw [dif_pos (by simp; omega), dif_pos (by simp; omega)]
  simp only [Int.toNat_natCast]
  rw [ByteArray.getElem_extract]
theorem diff_law (a b : ByteArray) : Fit a (diff a b).1 (diff a b).2.1 ∧ put a (diff a b).1 (diff a b).2.1 (diff a b).2.2 = b ∧ (diff a b).2.2.size ≤ b.size := by
  have hp := common_is (bt a) (bt b) a.size b.size
  have hq := common_is (fun j => bt (a.extract (head a b) a.size) (((a.extract (head a b) a.size).size : Int) - 1 - j)) (fun j => bt (b.extract (head a b) b.size) (((b.extract (head a b) b.size).size : Int) - 1 - j)) (a.extract (head a b) a.size).size (b.extract (head a b) b.size).size
  unfold diff
  simp only
  have e1 : common (bt a) (bt b) a.size b.size = head a b := rfl
  rw [e1] at hp
  have e2 : common (fun j => bt (a.extract (head a b) a.size) (((a.extract (head a b) a.size).size : Int) - 1 - j)) (fun j => bt (b.extract (head a b) b.size) (((b.extract (head a b) b.size).size : Int) - 1 - j)) (a.extract (head a b) a.size).size (b.extract (head a b) b.size).size = tail (a.extract (head a b) a.size) (b.extract (head a b) b.size) := rfl
  rw [e2] at hq
  generalize head a b = p at *
  generalize tail (a.extract p a.size) (b.extract p b.size) = q at *
  have p1 := hp.le1
  have p2 := hp.le2
  have s1 : (a.extract p a.size).size = a.size - p := by rw [ByteArray.size_extract]; omega
  have s2 : (b.extract p b.size).size = b.size - p := by rw [ByteArray.size_extract]; omega
  have q1 := hq.le1
  have q2 := hq.le2
  have hfit : Fit a (p : Int) (((a.extract p a.size).size : Int) - (q : Int)) := ⟨by omega, by omega, by omega, by omega⟩
  have ht : (((b.extract p b.size).size : Int) - (q : Int)).toNat = b.size - p - q := by omega
  have hts : ((b.extract p b.size).extract 0 (b.size - p - q)).size = b.size - p - q := by rw [ByteArray.size_extract]; omega
  refine ⟨hfit, ?_, by rw [ht, hts]; omega⟩
  have hsz := put_size (t := (b.extract p b.size).extract 0 (b.size - p - q)) hfit
  rw [ht]
  apply ext_bt
  · omega
  · intro j hj
    have hj2 : j < b.size := by omega
    unfold put
    have z1 : (a.extract 0 (p : Int).toNat).size = p := by rw [ByteArray.size_extract]; omega
    have z2 : (a.extract 0 (p : Int).toNat ++ (b.extract p b.size).extract 0 (b.size - p - q)).size = b.size - q := by rw [ByteArray.size_append, z1, hts]; omega
    rw [bt_append, z2]
    by_cases g1 : j < b.size - q
    · rw [if_pos g1, bt_append, z1]
      by_cases g2 : j < p
      · rw [if_pos g2, bt_extract _ _ _ _ (by omega) (by omega), Nat.zero_add]
        exact hp.same j (by omega) (by omega)
      · rw [if_neg g2, bt_extract _ _ _ _ (by omega) (by omega), bt_extract _ _ _ _ (by omega) (by omega)]
        congr 2
        omega
    · rw [if_neg g1, bt_extract _ _ _ _ (by omega) (by omega)]
      have h := hq.same ((b.size : Int) - 1 - j) (by omega) (by omega)
      rw [show ((a.extract p a.size).size : Int) - 1 - ((b.size : Int) - 1 - j) = ((j + a.size - b.size - p : Nat) : Int) from by omega, show ((b.extract p b.size).size : Int) - 1 - ((b.size : Int) - 1 - j) = ((j - p : Nat) : Int) from by omega] at h
      rw [bt_extract _ _ _ _ (by omega) (by omega), bt_extract _ _ _ _ (by omega) (by omega)] at h
      rw [show p + (j - p) = j from by omega] at h
      rw [← h]
      congr 2
      omega
theorem both_all (l : List S23) (hl : ∀ x ∈ l, x.f2.size ≤ 5000) (hlen : l.length ≤ 100) (d : Nat) : ∀ (i : Nat) (s : ByteArray), i + d = l.length → s.size ≤ 5000 →
    ∃ r : ByteArray × Int × Int, (∀ k, d + 14000 < k → edit_All.l0 k s l l (l.length : Int) (i : Int) = some r) ∧ (∀ k', 20000 + d < k' → topiaryref01_Play.l0 k' s l (i : Int) = some r) ∧ (r.2.2 = 0 → r.1.size ≤ 4000 ∨ (d = 0 ∧ r.1 = s)) := by
  induction d with
  | zero =>
    intro i s h1 h2
    refine ⟨(s, (l.length : Int), 0), fun k hk => ?_, fun k' hk' => ?_, fun _ => .inr ⟨rfl, rfl⟩⟩
    · obtain ⟨k, rfl⟩ : ∃ m, k = m + 1 := ⟨k - 1, by omega⟩
      simp only [edit_All.l0]; rw [if_neg (by omega)]
    · obtain ⟨k', rfl⟩ : ∃ m, k' = m + 1 := ⟨k' - 1, by omega⟩
      simp only [topiaryref01_Play.l0]; rw [if_neg (by omega)]
  | succ d ih =>
    intro i s h1 h2
    have hw : wrap64 ((i : Int) + 1) = ((i + 1 : Nat) : Int) := by rw [wr (by omega) (by omega)]; omega
    have ht : (rd_T23 l (i : Int)).f2.size ≤ 5000 := by
      apply hl
      unfold rd_T23
      rw [List.getD_eq_getElem?_getD, List.getElem?_eq_getElem (by omega)]
      exact List.getElem_mem ..
    by_cases h0 : (ap s (rd_T23 l (i : Int)).f0 (rd_T23 l (i : Int)).f1 (rd_T23 l (i : Int)).f2).2 = 0
    · have hsz : (ap s (rd_T23 l (i : Int)).f0 (rd_T23 l (i : Int)).f1 (rd_T23 l (i : Int)).f2).1.size ≤ 4000 := by
        revert h0
        unfold ap
        split
        · rename_i hf
          split
          · simp
          · intro _
            have := put_size (t := (rd_T23 l (i : Int)).f2) hf
            simp only
            omega
        · simp
      obtain ⟨r, hr, hr', hr''⟩ := ih (i + 1) _ (by omega) (by omega : (ap s (rd_T23 l (i : Int)).f0 (rd_T23 l (i : Int)).f1 (rd_T23 l (i : Int)).f2).1.size ≤ 5000)
      refine ⟨r, fun k hk => ?_, fun k' hk' => ?_, fun he => ?_⟩
      · obtain ⟨k, rfl⟩ : ∃ m, k = m + 1 := ⟨k - 1, by omega⟩
        simp only [edit_All.l0]
        rw [if_pos (by omega), if_pos (by omega), if_pos (by omega), apply_f s _ _ _ (by omega) (by omega), Option.bind_some, if_pos h0, hw]
        exact hr k (by omega)
      · obtain ⟨k', rfl⟩ : ∃ m, k' = m + 1 := ⟨k' - 1, by omega⟩
        simp only [topiaryref01_Play.l0]
        rw [if_pos (by omega), if_pos (by omega), rapply_f s _ _ _ (by omega) (by omega) _ (by omega), Option.bind_some, if_pos h0, hw]
        exact hr' k' (by omega)
      · rcases hr'' he with h | ⟨_, h⟩
        · exact .inl h
        · rw [h]; exact .inl hsz
    · refine ⟨(s, (i : Int), (ap s (rd_T23 l (i : Int)).f0 (rd_T23 l (i : Int)).f1 (rd_T23 l (i : Int)).f2).2), fun k hk => ?_, fun k' hk' => ?_, fun he => absurd he h0⟩
      · obtain ⟨k, rfl⟩ : ∃ m, k = m + 1 := ⟨k - 1, by omega⟩
        simp only [edit_All.l0]
        rw [if_pos (by omega), if_pos (by omega), if_pos (by omega), apply_f s _ _ _ (by omega) (by omega), Option.bind_some, if_neg h0]
      · obtain ⟨k', rfl⟩ : ∃ m, k' = m + 1 := ⟨k' - 1, by omega⟩
        simp only [topiaryref01_Play.l0]
        rw [if_pos (by omega), if_pos (by omega), rapply_f s _ _ _ (by omega) (by omega) _ (by omega), Option.bind_some, if_neg h0]
theorem law (s : ByteArray) (a0 a1 : Int) (a2 : ByteArray) (b0 b1 : Int) (b2 : ByteArray) (hs : s.size ≤ 140737488351232) (w : World) :
    Calls Try.prog 11 #[.string s, .agg #[.int .i64 a0, .int .i64 a1, .string a2, .int .i64 b0, .int .i64 b1, .string b2]] w fun e w' => e = .returned (.bool true) ∧ Below w.heap.size w w' := by
  obtain ⟨b, hb, hall⟩ := long_f s [⟨a0, a1, a2⟩, ⟨b0, b1, b2⟩] 30000 (by omega)
  cases b with
  | true => exact law_long 30000 s a0 a1 a2 b0 b1 b2 w wakes_f hb
  | false =>
    by_cases h4 : s.size ≤ 4000
    · obtain ⟨g1, g2, g3⟩ := hall rfl
      obtain ⟨⟨ps, pn, pe⟩, hr, hr', hsz⟩ := both_all [⟨a0, a1, a2⟩, ⟨b0, b1, b2⟩] g3 g2 2 0 s rfl g1
      have hr := hr 30000 (by omega)
      have hr' := hr' 30000 (by omega)
      rw [Int.natCast_zero] at hr hr'
      have hA : edit_All.f 30000 s [⟨a0, a1, a2⟩, ⟨b0, b1, b2⟩] = some (ps, pn, pe) := hr
      have hP : topiaryref01_Play.f 30000 s [⟨a0, a1, a2⟩, ⟨b0, b1, b2⟩] = some (ps, pn, pe) := hr'
      by_cases he : pe = 0
      · subst he
        have hps : ps.size ≤ 4000 := by
          rcases hsz rfl with h | ⟨h, _⟩
          · exact h
          · omega
        obtain ⟨h1, h2, h3⟩ := diff_law s ps
        have h4' := put_size (t := (diff s ps).2.2) h1
        rw [h2] at h4'
        have e1 : edit_Diff.f 30000 s ps = some (diff s ps) := by unfold edit_Diff.f; rw [if_pos ⟨hs, by omega⟩]
        have e2 : topiaryref01_Diff.f 30000 s ps = some (diff s ps) := by unfold topiaryref01_Diff.f; rw [if_pos ⟨hs, by omega⟩]
        have e3 : ap s (diff s ps).1 (diff s ps).2.1 (diff s ps).2.2 = (ps, 0) := by
          unfold ap
          rw [if_pos h1, if_neg (by omega), h2]
        refine law_done 30000 s a0 a1 a2 b0 b1 b2 w (diff s ps).1 (diff s ps).2.1 (diff s ps).2.2 ps pn wakes_f hb h4 ?_ hP ?_ e2
        · unfold edit_Both.f
          rw [hA, Option.bind_some, if_pos rfl, e1, Option.bind_some]
        · rw [apply_f _ _ _ _ hs (by omega), e3]
      · refine law_refused 30000 s a0 a1 a2 b0 b1 b2 w ps pn pe wakes_f hb h4 ?_ hP he
        unfold edit_Both.f
        rw [hA, Option.bind_some, if_neg he]
    · exact law_size 30000 s a0 a1 a2 b0 b1 b2 w wakes_f hb (by omega)

end Go.Proofs.Ytfdpaaacgakaaaa.Pure
