/- Proved here: of two texts up to 4000 bytes each, joined, lines begin where they do in the first, and moved in the second; longer ones are let go. -/
import Derived.Test.YtfdpaaacgakaaaaPLinesJoinsx1
namespace Go.Proofs.Ytfdpaaacgakaaaa.Pure
open Go.RowKit Go.Proofs.Ytfdpaaacgakaaaa.PLinesJoins Go.Proofs.YtfdpaaacgakaaaaW.PrintWords Go.Proofs.YtfdpaaacgakaaaaW.PrintLast

/-! #### where lines begin, as a list -/
theorem wr {a : Int} (h : -9223372036854775808 ≤ a) (h2 : a < 9223372036854775808) : wrap64 a = a := by unfold wrap64; omega
/-- Behind each byte 10 of the d bytes from i on. -/
def st (b : Int → Int) : Nat → Nat → List Int
  | _, 0 => []
  | i, d + 1 => if b (i : Int) = 10 then ((i : Int) + 1) :: st b (i + 1) d else st b (i + 1) d
theorem st_len (b : Int → Int) (d : Nat) : ∀ i, (st b i d).length ≤ d := by
  induction d with
  | zero => intro i; simp [st]
  | succ d ih =>
    intro i
    have := ih (i + 1)
    unfold st
    split <;> simp <;> omega
theorem starts_l0 (s : ByteArray) (hn : s.size ≤ 10000) (d : Nat) : ∀ (k i : Nat) (acc : List Int), i + d = s.size → acc.length ≤ i + 1 → d < k →
    lines_Starts.l0 k s acc (s.size : Int) (i : Int) = some (acc ++ st (bt s) i d) := by
  induction d with
  | zero =>
    intro k i acc h1 h2 h3
    obtain ⟨k, rfl⟩ : ∃ m, k = m + 1 := ⟨k - 1, by omega⟩
    simp only [lines_Starts.l0]
    rw [if_neg (by omega)]
    simp [st]
  | succ d ih =>
    intro k i acc h1 h2 h3
    obtain ⟨k, rfl⟩ : ∃ m, k = m + 1 := ⟨k - 1, by omega⟩
    have hw : wrap64 ((i : Int) + 1) = ((i + 1 : Nat) : Int) := by rw [wr (by omega) (by omega)]; omega
    simp only [lines_Starts.l0]
    rw [if_pos (by omega), if_pos (by omega), if_pos (by omega), hw]
    by_cases h10 : bt s (i : Int) = 10
    · rw [if_pos h10, if_pos (by omega), ih k (i + 1) _ (by omega) (by simp; omega) (by omega)]
      simp [st, h10]
    · rw [if_neg h10, ih k (i + 1) _ (by omega) (by omega) (by omega)]
      simp [st, h10]
theorem starts_f (s : ByteArray) (hn : s.size ≤ 10000) (k : Nat) (hk : s.size < k) : lines_Starts.f k s = some (0 :: st (bt s) 0 s.size) := by
  unfold lines_Starts.f
  have := starts_l0 s hn s.size k 0 [0] (by omega) (by simp) hk
  simpa using this
theorem same_l0 (a c : List Int) (d : Nat) : ∀ (k i : Nat), i + d = a.length → a.length = c.length → a.length ≤ 20000 → d < k →
    topiaryref03_Same.l0 k a c (i : Int) = some (decide (a.drop i = c.drop i)) := by
  induction d with
  | zero =>
    intro k i h1 h2 h3 h4
    obtain ⟨k, rfl⟩ : ∃ m, k = m + 1 := ⟨k - 1, by omega⟩
    simp only [topiaryref03_Same.l0]
    rw [if_neg (by omega), List.drop_of_length_le (by omega), List.drop_of_length_le (by omega)]
    simp
  | succ d ih =>
    intro k i h1 h2 h3 h4
    obtain ⟨k, rfl⟩ : ∃ m, k = m + 1 := ⟨k - 1, by omega⟩
    have hw : wrap64 ((i : Int) + 1) = ((i + 1 : Nat) : Int) := by rw [wr (by omega) (by omega)]; omega
    simp only [topiaryref03_Same.l0]
    rw [if_pos (by omega), if_pos (by omega), if_pos (by omega), hw, ih k (i + 1) (by omega) h2 h3 (by omega)]
    have ha : a.drop i = rd a i :: a.drop (i + 1) := by
      rw [List.drop_eq_getElem_cons (by omega)]
      simp [rd, List.getD, List.getElem?_eq_getElem (show i < a.length by omega)]
    have hc : c.drop i = rd c i :: c.drop (i + 1) := by
      rw [List.drop_eq_getElem_cons (by omega)]
      simp [rd, List.getD, List.getElem?_eq_getElem (show i < c.length by omega)]
    rw [ha, hc]
    by_cases h : rd a (i : Int) = rd c (i : Int)
    · rw [if_pos h]; simp [h]
    · rw [if_neg h]; simp [h]
theorem same_f (a c : List Int) (h : a.length ≤ 20000) (k : Nat) (hk : a.length < k) : topiaryref03_Same.f k a c = some (decide (a = c)) := by
  unfold topiaryref03_Same.f
  by_cases e : a.length = c.length
  · rw [if_pos (by omega)]
    have := same_l0 a c a.length k 0 (by omega) e h hk
    simpa using this
  · rw [if_neg (by omega)]
    have : a ≠ c := fun h => e (by rw [h])
    simp [this]
theorem wakes_f (k : Nat) (hk : 10 < k) : topiarylaw03_wakes.f k = some true := by
  unfold topiarylaw03_wakes.f
  rw [starts_f _ (by decide) k (by show 4 < k; omega)]
  have : (0 :: st (bt ⟨#[97, 10, 98, 10]⟩) 0 (ByteArray.size ⟨#[97, 10, 98, 10]⟩)) = [0, 2, 4] := by decide +kernel
  rw [this, Option.bind_some, same_f _ _ (by decide) k (by show 3 < k; omega)]
  rfl
theorem rstarts_l0 (s : ByteArray) (hn : s.size ≤ 10000) (d : Nat) : ∀ (k i : Nat) (acc : List Int), i + d = s.size → acc.length ≤ i + 1 → d + 1 < k →
    topiaryref03_Starts.l0 k s acc ((i : Int) + 1) = some (acc ++ st (bt s) i d) := by
  induction d with
  | zero =>
    intro k i acc h1 h2 h3
    obtain ⟨k, rfl⟩ : ∃ m, k = m + 1 := ⟨k - 1, by omega⟩
    simp only [topiaryref03_Starts.l0]
    rw [if_neg (by omega)]
    simp [st]
  | succ d ih =>
    intro k i acc h1 h2 h3
    obtain ⟨k, rfl⟩ : ∃ m, k = m + 1 := ⟨k - 1, by omega⟩
    have hw : wrap64 ((i : Int) + 1 + 1) = ((i + 1 : Nat) : Int) + 1 := by rw [wr (by omega) (by omega)]; omega
    have hw2 : wrap64 ((i : Int) + 1 - 1) = (i : Int) := by rw [wr (by omega) (by omega)]; omega
    simp only [topiaryref03_Starts.l0]
    rw [if_pos (by omega), if_neg (by omega), hw2, if_pos (by omega), if_pos (by omega), hw]
    by_cases h10 : bt s (i : Int) = 10
    · rw [if_pos h10, if_pos (by omega), ih k (i + 1) _ (by omega) (by simp; omega) (by omega)]
      simp [st, h10]
    · rw [if_neg h10, ih k (i + 1) _ (by omega) (by omega) (by omega)]
      simp [st, h10]
theorem rstarts_f (s : ByteArray) (hn : s.size ≤ 10000) (k : Nat) (hk : s.size + 2 < k) : topiaryref03_Starts.f k s = some (0 :: st (bt s) 0 s.size) := by
  unfold topiaryref03_Starts.f
  obtain ⟨k, rfl⟩ : ∃ m, k = m + 1 := ⟨k - 1, by omega⟩
  simp only [topiaryref03_Starts.l0]
  rw [if_pos (by omega), if_pos trivial, if_pos (by simp)]
  have := rstarts_l0 s hn s.size k 0 [0] (by omega) (by simp) (by omega)
  simpa [wrap64] using this
theorem st_pos (b : Int → Int) (d : Nat) : ∀ i, ∀ x ∈ st b i d, 0 < x ∧ x ≤ (i : Int) + d := by
  induction d with
  | zero => intro i; simp [st]
  | succ d ih =>
    intro i x hx
    unfold st at hx
    split at hx
    · rcases List.mem_cons.1 hx with h | h
      · omega
      · have := ih _ x h; omega
    · have := ih _ x hx; omega
theorem st_append (b : Int → Int) (d e : Nat) : ∀ i, st b i (d + e) = st b i d ++ st b (i + d) e := by
  induction d with
  | zero => intro i; simp [st]
  | succ d ih =>
    intro i
    rw [show d + 1 + e = (d + e) + 1 from by omega]
    simp only [st]
    have h := ih (i + 1)
    rw [show i + 1 + d = i + (d + 1) from by omega] at h
    split <;> simp [h]
theorem st_congr (b c : Int → Int) (d : Nat) : ∀ i, (∀ j : Nat, i ≤ j → j < i + d → b j = c j) → st b i d = st c i d := by
  induction d with
  | zero => intro i h; rfl
  | succ d ih =>
    intro i h
    simp only [st]
    rw [h i (by omega) (by omega), ih (i + 1) (fun j h1 h2 => h j (by omega) (by omega))]
theorem st_shift (b c : Int → Int) (n : Nat) (d : Nat) : ∀ i, (∀ j : Nat, i ≤ j → j < i + d → b ((n + j : Nat) : Int) = c j) → st b (n + i) d = (st c i d).map (fun x => (n : Int) + x) := by
  induction d with
  | zero => intro i h; rfl
  | succ d ih =>
    intro i h
    have h0 := h i (by omega) (by omega)
    have h1 := ih (i + 1) (fun j h1 h2 => h j (by omega) (by omega))
    rw [show n + (i + 1) = n + i + 1 from by omega] at h1
    simp only [st, h0, h1]
    split
    · simp; omega
    · rfl
theorem bt_append (s t : ByteArray) (j : Nat) : bt (s ++ t) (j : Int) = if j < s.size then bt s j else bt t ((j - s.size : Nat) : Int) := by
  unfold bt
  by_cases h : j < s.size
  · rw [if_pos h, dif_pos (by simp [ByteArray.size_append]; omega), dif_pos (by simpa using h)]
    simp [ByteArray.getElem_append_left, h]
  · rw [if_neg h]
    by_cases h2 : j < s.size + t.size
    · rw [dif_pos (by simp [ByteArray.size_append]; omega), dif_pos (by simp; omega)]
      simp only [Int.toNat_natCast]
      rw [ByteArray.getElem_append_right (by omega)]
    · rw [dif_neg (by simp [ByteArray.size_append]; omega), dif_neg (by simp; omega)]
theorem st_join (s t : ByteArray) : st (bt (s ++ t)) 0 (s ++ t).size = st (bt s) 0 s.size ++ (st (bt t) 0 t.size).map (fun x => (s.size : Int) + x) := by
  rw [ByteArray.size_append, st_append]
  congr 1
  · apply st_congr
    intro j h1 h2
    rw [bt_append, if_pos (by omega)]
  · have := st_shift (bt (s ++ t)) (bt t) s.size t.size 0 (fun j h1 h2 => by rw [bt_append, if_neg (by omega)]; congr 2; omega)
    simpa using this
theorem joins_l0 (s t : ByteArray) (hs : s.size ≤ 4000) (ht : t.size ≤ 4000) (l : List Int) (hl : ∀ x ∈ l, 0 ≤ x ∧ x ≤ 4000) (hll : l.length ≤ 5000) (d : Nat) : ∀ (k i : Nat) (acc : List Int), i + d = l.length → acc.length ≤ 5000 + i → d + 15000 < k →
    topiarylaw03_LinesJoins.l0 k s t acc l (l.length : Int) (i : Int) =
      some (decide (0 :: st (bt (s ++ t)) 0 (s ++ t).size = acc ++ ((l.drop i).filter (fun x => decide (x > 0))).map (fun x => (s.size : Int) + x))) := by
  induction d with
  | zero =>
    intro k i acc h1 h2 h3
    obtain ⟨k, rfl⟩ : ∃ m, k = m + 1 := ⟨k - 1, by omega⟩
    have h8 : (s ++ t).size ≤ 8000 := by rw [ByteArray.size_append]; omega
    have hl := st_len (bt (s ++ t)) (s ++ t).size 0
    simp only [topiarylaw03_LinesJoins.l0]
    rw [if_neg (by omega), if_pos (by omega), starts_f _ (by omega) _ (by omega)]
    simp only [Option.bind_some]
    rw [same_f _ _ (by rw [List.length_cons]; omega) _ (by rw [List.length_cons]; omega), List.drop_of_length_le (by omega)]
    simp
  | succ d ih =>
    intro k i acc h1 h2 h3
    obtain ⟨k, rfl⟩ : ∃ m, k = m + 1 := ⟨k - 1, by omega⟩
    have hw : wrap64 ((i : Int) + 1) = ((i + 1 : Nat) : Int) := by rw [wr (by omega) (by omega)]; omega
    have ha : l.drop i = rd l i :: l.drop (i + 1) := by
      rw [List.drop_eq_getElem_cons (by omega)]
      simp [rd, List.getD, List.getElem?_eq_getElem (show i < l.length by omega)]
    have hr : 0 ≤ rd l i ∧ rd l i ≤ 4000 := hl _ (List.mem_of_mem_drop (i := i) (by rw [ha]; exact List.mem_cons_self ..))
    simp only [topiarylaw03_LinesJoins.l0]
    rw [if_pos (by omega), if_pos (by omega), if_pos (by omega), hw, ha]
    by_cases h10 : rd l (i : Int) > 0
    · rw [if_pos h10, if_pos (by omega), ih k (i + 1) _ (by omega) (by simp; omega) (by omega), wr (by omega) (by omega)]
      simp [h10]
    · rw [if_neg h10, ih k (i + 1) _ (by omega) (by omega) (by omega)]
      simp [h10]
theorem LinesJoins : topiarylaw03_LinesJoins.Pure := by
  intro s t hs0 ht0
  refine ⟨39999 + 1, ?_⟩
  unfold topiarylaw03_LinesJoins.f
  rw [wakes_f _ (by omega)]
  simp only [Option.bind_some, if_true, topiarylaw03_long.f]
  by_cases hs : s.size ≤ 4000
  · rw [if_neg (by simp; omega)]
    by_cases ht : t.size ≤ 4000
    · rw [decide_eq_false (by omega)]
      have hl := st_len (bt s) s.size 0
      have hl2 := st_len (bt t) t.size 0
      have hp := st_pos (bt t) t.size 0
      simp only [topiarylaw03_LinesJoins.j0]
      rw [if_neg (by decide), rstarts_f s (by omega) _ (by omega), starts_f t (by omega) _ (by omega)]
      simp only [Option.bind_some]
      rw [if_pos (by simp; omega)]
      have := joins_l0 s t hs ht (0 :: st (bt t) 0 t.size) (by
        intro x hx
        rcases List.mem_cons.1 hx with h | h
        · omega
        · have := hp x h; omega) (by simp; omega) (0 :: st (bt t) 0 t.size).length 39999 0 ([] ++ 0 :: st (bt s) 0 s.size) (by omega) (by simp; omega) (by simp; omega)
      rw [Int.natCast_zero] at this
      rw [this, st_join]
      have hf : (st (bt t) 0 t.size).filter (fun x => decide (x > 0)) = st (bt t) 0 t.size := by
        rw [List.filter_eq_self]
        intro x hx
        have := hp x hx
        simp; omega
      simp [hf]
    · rw [decide_eq_true (by omega)]
      unfold topiarylaw03_LinesJoins.j0
      simp
  · rw [if_pos (by simp; omega)]
    unfold topiarylaw03_LinesJoins.j0
    simp

end Go.Proofs.Ytfdpaaacgakaaaa.Pure
