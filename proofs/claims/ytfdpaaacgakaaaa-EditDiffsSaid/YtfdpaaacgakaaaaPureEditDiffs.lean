/- Proved here: edit.Diff of any two texts up to 4000 bytes is the document's, makes the one of the other, and is idle just if they are alike; longer texts let go. -/
import Derived.Test.YtfdpaaacgakaaaaEDlaw0
namespace Go.Proofs.Ytfdpaaacgakaaaa.Pure
open Go.RowKit Go.Proofs.Ytfdpaaacgakaaaa.PEditDiffs Go.Proofs.YtfdpaaacgakaaaaW.PrintWords Go.Proofs.YtfdpaaacgakaaaaW.PrintLast
set_option linter.unusedVariables false
set_option linter.unusedSimpArgs false

/-! #### an edit, in plain words -/
theorem wr {a : Int} (h : -9223372036854775808 ≤ a) (h2 : a < 9223372036854775808) : wrap64 a = a := by unfold wrap64; omega
theorem int_wf {n : Int} (h : (Lit.int .i64 n).wf = true) : -9223372036854775808 ≤ n ∧ n < 9223372036854775808 := by
  simp [Lit.wf, IntKind.min, IntKind.max, IntKind.signed, IntKind.bits] at h
  omega
theorem bytes_ext {a b : ByteArray} (h : a.toList = b.toList) : a = b := by
  rw [ByteArray.toList_eq, ByteArray.toList_eq] at h
  cases a; cases b
  congr 1
  exact Array.toList_inj.1 h
def Fit (s : ByteArray) (a n : Int) : Prop := 0 ≤ a ∧ 0 ≤ n ∧ a ≤ (s.size : Int) ∧ n ≤ (s.size : Int) - a
instance (s : ByteArray) (a n : Int) : Decidable (Fit s a n) := by unfold Fit; infer_instance
/-- What an edit makes. -/
def put (s : ByteArray) (a n : Int) (t : ByteArray) : ByteArray := s.extract 0 a.toNat ++ t ++ s.extract (a + n).toNat s.size
/-- What Apply answers. -/
def ap (s : ByteArray) (a n : Int) (t : ByteArray) : ByteArray × Int :=
  if Fit s a n then (if (t.size : Int) > 4000 ∨ (s.size : Int) - n + t.size > 4000 then (⟨#[]⟩, 3) else (put s a n t, 0)) else (⟨#[]⟩, 2)
def Small (a n : Int) : Prop := (-9223372036854775808 ≤ a ∧ a < 9223372036854775808) ∧ (-9223372036854775808 ≤ n ∧ n < 9223372036854775808)
theorem put_size {s : ByteArray} {a n : Int} {t : ByteArray} (h : Fit s a n) : ((put s a n t).size : Int) = (s.size : Int) - n + t.size := by
  obtain ⟨h1, h2, h3, h4⟩ := h
  unfold put
  simp only [ByteArray.size_append, ByteArray.size_extract]
  omega
theorem fits_f (s : ByteArray) (a n : Int) (t : ByteArray) (hs : s.size ≤ 140737488351232) : edit_fits.f s a n t = some (decide (Fit s a n)) := by
  unfold edit_fits.f Fit
  by_cases h1 : 0 ≤ a
  · by_cases h2 : 0 ≤ n
    · by_cases h3 : a ≤ (s.size : Int)
      · rw [if_pos (by omega), if_pos (by omega), if_pos h3, wr (by omega) (by omega)]
        simp [h1, h2, h3]
      · rw [if_pos (by omega), if_pos (by omega), if_neg h3]; simp [h3]
    · rw [if_pos (by omega), if_neg (by omega)]; simp [h2]
  · rw [if_neg (by omega)]; simp [h1]
theorem apply_f (s : ByteArray) (a n : Int) (t : ByteArray) (hs : s.size ≤ 140737488351232) (ht : t.size ≤ 140737488351232) : edit_Apply.f s a n t = some (ap s a n t) := by
  unfold edit_Apply.f ap
  rw [fits_f s a n t hs, Option.bind_some]
  by_cases hf : Fit s a n
  · obtain ⟨h1, h2, h3, h4⟩ := id hf
    rw [if_pos (by simpa using hf), if_pos hf]
    by_cases h5 : (t.size : Int) > 4000
    · rw [if_pos h5, if_pos (Or.inl h5)]
    · rw [if_neg h5, wr (a := (s.size : Int) - n) (by omega) (by omega), wr (a := (s.size : Int) - n + t.size) (by omega) (by omega)]
      by_cases h6 : (s.size : Int) - n + t.size > 4000
      · rw [if_pos h6, if_pos (Or.inr h6)]
      · have e1 : (s.extract 0 a.toNat).size = a.toNat := by rw [ByteArray.size_extract]; omega
        have e2 : (s.extract 0 a.toNat ++ t).size = a.toNat + t.size := by rw [ByteArray.size_append, e1]
        have e3 : (s.extract (a + n).toNat s.size).size = s.size - (a + n).toNat := by rw [ByteArray.size_extract]; omega
        rw [if_neg h6, if_neg (show ¬ ((t.size : Int) > 4000 ∨ (s.size : Int) - n + t.size > 4000) by omega), wr (a := a + n) (by omega) (by omega), if_pos h1, if_pos h3, e1, if_pos (by omega), if_pos (by omega), if_pos (by omega), e2, e3, if_pos (by omega)]
        rfl
  · rw [if_neg (by simpa using hf), if_neg hf]
theorem wakes_f : topiarylaw01_wakes.f = some true := by
  unfold topiarylaw01_wakes.f
  rw [apply_f _ _ _ _ (by decide) (by decide), Option.bind_some]
  have h : ap ⟨#[97, 98, 99]⟩ 1 1 ⟨#[120, 121]⟩ = (⟨#[97, 120, 121, 99]⟩, 0) := by decide +kernel
  rw [h]
  rw [if_pos (by rw [ByteArray.toList_eq])]
  rfl
theorem beq_bytes (a b : ByteArray) : (a.toList == b.toList) = decide (a = b) := by
  by_cases h : a = b
  · simp [h]
  · have : ¬ a.toList = b.toList := fun e => h (bytes_ext e)
    simp [h, this]
theorem idle_f (s : ByteArray) (a n : Int) (t : ByteArray) (hs : s.size ≤ 140737488351232) : edit_Idle.f s a n t = some (decide (Fit s a n ∧ s.extract a.toNat (a + n).toNat = t)) := by
  unfold edit_Idle.f
  rw [fits_f s a n t hs, Option.bind_some]
  by_cases hf : Fit s a n
  · obtain ⟨h1, h2, h3, h4⟩ := id hf
    rw [if_pos (by simpa using hf), wr (by omega) (by omega), if_pos h1, if_pos (by omega), if_pos (by omega), beq_bytes]
    simp [hf]
  · rw [if_neg (by simpa using hf)]
    simp [hf]
theorem put_same_iff (s : ByteArray) (a n : Int) (t : ByteArray) (hf : Fit s a n) : put s a n t = s ↔ s.extract a.toNat (a + n).toNat = t := by
  obtain ⟨h1, h2, h3, h4⟩ := hf
  have hsplit : s = s.extract 0 a.toNat ++ s.extract a.toNat (a + n).toNat ++ s.extract (a + n).toNat s.size := by
    rw [ByteArray.extract_append_extract, show min 0 a.toNat = 0 from by omega, show max a.toNat (a + n).toNat = (a + n).toNat from by omega, ByteArray.extract_append_extract, show min 0 (a + n).toNat = 0 from by omega, show max (a + n).toNat s.size = s.size from by omega]
    simp
  constructor
  · intro h
    unfold put at h
    have h' : s.extract 0 a.toNat ++ t ++ s.extract (a + n).toNat s.size = s.extract 0 a.toNat ++ s.extract a.toNat (a + n).toNat ++ s.extract (a + n).toNat s.size := by
      rw [h]; exact hsplit
    have hl := congrArg (fun b : ByteArray => b.data.toList) h'
    simp only [ByteArray.data_append, Array.toList_append, List.append_assoc] at hl
    have hl2 := List.append_cancel_left hl
    have hl3 := List.append_cancel_right hl2
    apply bytes_ext
    rw [ByteArray.toList_eq, ByteArray.toList_eq, hl3]
  · intro h
    unfold put
    rw [← h]
    exact hsplit.symm
theorem ext_bt {a b : ByteArray} (hs : a.size = b.size) (h : ∀ j : Nat, j < a.size → bt a (j : Int) = bt b (j : Int)) : a = b := by
  apply bytes_ext
  rw [ByteArray.toList_eq, ByteArray.toList_eq]
  apply List.ext_getElem
  · rw [Array.length_toList, Array.length_toList]; exact hs
  · intro i h1 h2
    have hi : i < a.size := by rw [Array.length_toList] at h1; exact h1
    have := h i hi
    unfold bt at this
    rw [dif_pos (by simpa using hi), dif_pos (by simpa using hs ▸ hi)] at this
    simp only [Int.toNat_natCast] at this
    have h3 := UInt8.toNat_inj.1 (by exact_mod_cast this)
    exact h3
theorem bt_append (s t : ByteArray) (j : Nat) : bt (s ++ t) (j : Int) = if j < s.size then bt s j else bt t ((j - s.size : Nat) : Int) := by
  unfold bt
  by_cases h : j < s.size
  · rw [if_pos h, dif_pos (by simp [ByteArray.size_append]; omega), dif_pos (by simpa using h)]
    simp [ByteArray.getElem_append_left, h]
  · rw [if_neg h]
    by_cases h2 : j < s.size + t.size
    · rw [dif_pos (by simp [ByteArray.size_append]; omega), dif_pos (by simp; omega)]
      simp only [Int.toNat_natCast]
      rw [ByteArray.getElem_append_right (by omega)]
    · rw [dif_neg (by simp [ByteArray.size_append]; omega), dif_neg (by simp; omega)]
theorem bt_extract (s : ByteArray) (i j m : Nat) (h : m < j - i) (hj : j ≤ s.size) : bt (s.extract i j) (m : Int) = bt s ((i + m : Nat) : Int) := by
  unfold bt
  rw [dif_pos (by simp; omega), dif_pos (by simp; omega)]
  simp only [Int.toNat_natCast]
  rw [ByteArray.getElem_extract]
theorem diff_law (a b : ByteArray) : Fit a (diff a b).1 (diff a b).2.1 ∧ put a (diff a b).1 (diff a b).2.1 (diff a b).2.2 = b ∧ (diff a b).2.2.size ≤ b.size := by
  have hp := common_is (bt a) (bt b) a.size b.size
  have hq := common_is (fun j => bt (a.extract (head a b) a.size) (((a.extract (head a b) a.size).size : Int) - 1 - j)) (fun j => bt (b.extract (head a b) b.size) (((b.extract (head a b) b.size).size : Int) - 1 - j)) (a.extract (head a b) a.size).size (b.extract (head a b) b.size).size
  unfold diff
  simp only
  have e1 : common (bt a) (bt b) a.size b.size = head a b := rfl
  rw [e1] at hp
  have e2 : common (fun j => bt (a.extract (head a b) a.size) (((a.extract (head a b) a.size).size : Int) - 1 - j)) (fun j => bt (b.extract (head a b) b.size) (((b.extract (head a b) b.size).size : Int) - 1 - j)) (a.extract (head a b) a.size).size (b.extract (head a b) b.size).size = tail (a.extract (head a b) a.size) (b.extract (head a b) b.size) := rfl
  rw [e2] at hq
  generalize head a b = p at *
  generalize tail (a.extract p a.size) (b.extract p b.size) = q at *
  have p1 := hp.le1
  have p2 := hp.le2
  have s1 : (a.extract p a.size).size = a.size - p := by rw [ByteArray.size_extract]; omega
  have s2 : (b.extract p b.size).size = b.size - p := by rw [ByteArray.size_extract]; omega
  have q1 := hq.le1
  have q2 := hq.le2
  have hfit : Fit a (p : Int) (((a.extract p a.size).size : Int) - (q : Int)) := ⟨by omega, by omega, by omega, by omega⟩
  have ht : (((b.extract p b.size).size : Int) - (q : Int)).toNat = b.size - p - q := by omega
  have hts : ((b.extract p b.size).extract 0 (b.size - p - q)).size = b.size - p - q := by rw [ByteArray.size_extract]; omega
  refine ⟨hfit, ?_, by rw [ht, hts]; omega⟩
  have hsz := put_size (t := (b.extract p b.size).extract 0 (b.size - p - q)) hfit
  rw [ht]
  apply ext_bt
  · omega
  · intro j hj
    have hj2 : j < b.size := by omega
    unfold put
    have z1 : (a.extract 0 (p : Int).toNat).size = p := by rw [ByteArray.size_extract]; omega
    have z2 : (a.extract 0 (p : Int).toNat ++ (b.extract p b.size).extract 0 (b.size - p - q)).size = b.size - q := by rw [ByteArray.size_append, z1, hts]; omega
    rw [bt_append, z2]
    by_cases g1 : j < b.size - q
    · rw [if_pos g1, bt_append, z1]
      by_cases g2 : j < p
      · rw [if_pos g2, bt_extract _ _ _ _ (by omega) (by omega), Nat.zero_add]
        exact hp.same j (by omega) (by omega)
      · rw [if_neg g2, bt_extract _ _ _ _ (by omega) (by omega), bt_extract _ _ _ _ (by omega) (by omega)]
        congr 2
        omega
    · rw [if_neg g1, bt_extract _ _ _ _ (by omega) (by omega)]
      have h := hq.same ((b.size : Int) - 1 - j) (by omega) (by omega)
      rw [show ((a.extract p a.size).size : Int) - 1 - ((b.size : Int) - 1 - j) = ((j + a.size - b.size - p : Nat) : Int) from by omega, show ((b.extract p b.size).size : Int) - 1 - ((b.size : Int) - 1 - j) = ((j - p : Nat) : Int) from by omega] at h
      rw [bt_extract _ _ _ _ (by omega) (by omega), bt_extract _ _ _ _ (by omega) (by omega)] at h
      rw [show p + (j - p) = j from by omega] at h
      rw [← h]
      congr 2
      omega
theorem law (a b : ByteArray) (ha : a.size ≤ 140737488351232) (hb : b.size ≤ 140737488351232) : ∃ k, topiarylaw01_EditDiffs.f k a b = some true := by
  refine ⟨5 + 1, ?_⟩
  unfold topiarylaw01_EditDiffs.f
  rw [wakes_f]
  simp only [Option.bind_some, if_true, topiarylaw01_EditDiffs.j0]
  by_cases g1 : a.size ≤ 4000
  · rw [if_neg (by omega)]
    by_cases g2 : b.size ≤ 4000
    · rw [if_neg (by simp; omega)]
      have e1 : edit_Diff.f 5 a b = some (diff a b) := by unfold edit_Diff.f; rw [if_pos ⟨ha, hb⟩]
      have e2 : topiaryref01_Diff.f 5 a b = some (diff a b) := by unfold topiaryref01_Diff.f; rw [if_pos ⟨ha, hb⟩]
      obtain ⟨h1, h2, h3⟩ := diff_law a b
      have h4 := put_size (t := (diff a b).2.2) h1
      rw [h2] at h4
      have e3 : ap a (diff a b).1 (diff a b).2.1 (diff a b).2.2 = (b, 0) := by
        unfold ap
        rw [if_pos h1, if_neg (by omega), h2]
      rw [e1, e2, Option.bind_some, apply_f _ _ _ _ ha (by omega), e3, idle_f _ _ _ _ ha]
      have h5 := put_same_iff a _ _ (diff a b).2.2 h1
      rw [h2] at h5
      have h6 : decide (Fit a (diff a b).1 (diff a b).2.1 ∧ a.extract (diff a b).1.toNat ((diff a b).1 + (diff a b).2.1).toNat = (diff a b).2.2) = decide (a = b) := by
        apply decide_eq_decide.2
        constructor
        · intro h; exact (h5.2 h.2).symm
        · intro h; exact ⟨h1, h5.1 h.symm⟩
      rw [h6, beq_bytes]
      simp
    · rw [if_pos (by simp; omega)]
  · rw [if_pos (by omega)]

end Go.Proofs.Ytfdpaaacgakaaaa.Pure
