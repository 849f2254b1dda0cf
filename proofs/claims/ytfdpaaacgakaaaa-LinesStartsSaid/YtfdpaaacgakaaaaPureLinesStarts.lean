/- Proved here: for every text up to 4000 bytes lines.Starts tells where lines begin; longer texts are let go. -/
import Derived.Test.YtfdpaaacgakaaaaPLinesStartsx1
namespace Go.Proofs.Ytfdpaaacgakaaaa.Pure
open Go.RowKit Go.Proofs.Ytfdpaaacgakaaaa.PLinesStarts Go.Proofs.YtfdpaaacgakaaaaW.PrintWords Go.Proofs.YtfdpaaacgakaaaaW.PrintLast

/-! #### where lines begin, as a list -/
theorem wr {a : Int} (h : -9223372036854775808 ≤ a) (h2 : a < 9223372036854775808) : wrap64 a = a := by unfold wrap64; omega
/-- Behind each byte 10 of the d bytes from i on. -/
def st (b : Int → Int) : Nat → Nat → List Int
  | _, 0 => []
  | i, d + 1 => if b (i : Int) = 10 then ((i : Int) + 1) :: st b (i + 1) d else st b (i + 1) d
theorem st_len (b : Int → Int) (d : Nat) : ∀ i, (st b i d).length ≤ d := by
  induction d with
  | zero => intro i; simp [st]
  | succ d ih =>
    intro i
    have := ih (i + 1)
    unfold st
    split <;> simp <;> omega
theorem starts_l0 (s : ByteArray) (hn : s.size ≤ 10000) (d : Nat) : ∀ (k i : Nat) (acc : List Int), i + d = s.size → acc.length ≤ i + 1 → d < k →
    lines_Starts.l0 k s acc (s.size : Int) (i : Int) = some (acc ++ st (bt s) i d) := by
  induction d with
  | zero =>
    intro k i acc h1 h2 h3
    obtain ⟨k, rfl⟩ : ∃ m, k = m + 1 := ⟨k - 1, by omega⟩
    simp only [lines_Starts.l0]
    rw [if_neg (by omega)]
    simp [st]
  | succ d ih =>
    intro k i acc h1 h2 h3
    obtain ⟨k, rfl⟩ : ∃ m, k = m + 1 := ⟨k - 1, by omega⟩
    have hw : wrap64 ((i : Int) + 1) = ((i + 1 : Nat) : Int) := by rw [wr (by omega) (by omega)]; omega
    simp only [lines_Starts.l0]
    rw [if_pos (by omega), if_pos (by omega), if_pos (by omega), hw]
    by_cases h10 : bt s (i : Int) = 10
    · rw [if_pos h10, if_pos (by omega), ih k (i + 1) _ (by omega) (by simp; omega) (by omega)]
      simp [st, h10]
    · rw [if_neg h10, ih k (i + 1) _ (by omega) (by omega) (by omega)]
      simp [st, h10]
theorem starts_f (s : ByteArray) (hn : s.size ≤ 10000) (k : Nat) (hk : s.size < k) : lines_Starts.f k s = some (0 :: st (bt s) 0 s.size) := by
  unfold lines_Starts.f
  have := starts_l0 s hn s.size k 0 [0] (by omega) (by simp) hk
  simpa using this
theorem same_l0 (a c : List Int) (d : Nat) : ∀ (k i : Nat), i + d = a.length → a.length = c.length → a.length ≤ 20000 → d < k →
    topiaryref03_Same.l0 k a c (i : Int) = some (decide (a.drop i = c.drop i)) := by
  induction d with
  | zero =>
    intro k i h1 h2 h3 h4
    obtain ⟨k, rfl⟩ : ∃ m, k = m + 1 := ⟨k - 1, by omega⟩
    simp only [topiaryref03_Same.l0]
    rw [if_neg (by omega), List.drop_of_length_le (by omega), List.drop_of_length_le (by omega)]
    simp
  | succ d ih =>
    intro k i h1 h2 h3 h4
    obtain ⟨k, rfl⟩ : ∃ m, k = m + 1 := ⟨k - 1, by omega⟩
    have hw : wrap64 ((i : Int) + 1) = ((i + 1 : Nat) : Int) := by rw [wr (by omega) (by omega)]; omega
    simp only [topiaryref03_Same.l0]
    rw [if_pos (by omega), if_pos (by omega), if_pos (by omega), hw, ih k (i + 1) (by omega) h2 h3 (by omega)]
    have ha : a.drop i = rd a i :: a.drop (i + 1) := by
      rw [List.drop_eq_getElem_cons (by omega)]
      simp [rd, List.getD, List.getElem?_eq_getElem (show i < a.length by omega)]
    have hc : c.drop i = rd c i :: c.drop (i + 1) := by
      rw [List.drop_eq_getElem_cons (by omega)]
      simp [rd, List.getD, List.getElem?_eq_getElem (show i < c.length by omega)]
    rw [ha, hc]
    by_cases h : rd a (i : Int) = rd c (i : Int)
    · rw [if_pos h]; simp [h]
    · rw [if_neg h]; simp [h]
theorem same_f (a c : List Int) (h : a.length ≤ 20000) (k : Nat) (hk : a.length < k) : topiaryref03_Same.f k a c = some (decide (a = c)) := by
  unfold topiaryref03_Same.f
  by_cases e : a.length = c.length
  · rw [if_pos (by omega)]
    have := same_l0 a c a.length k 0 (by omega) e h hk
    simpa using this
  · rw [if_neg (by omega)]
    have : a ≠ c := fun h => e (by rw [h])
    simp [this]
theorem wakes_f (k : Nat) (hk : 10 < k) : topiarylaw03_wakes.f k = some true := by
  unfold topiarylaw03_wakes.f
  rw [starts_f _ (by decide) k (by show 4 < k; omega)]
  have : (0 :: st (bt ⟨#[97, 10, 98, 10]⟩) 0 (ByteArray.size ⟨#[97, 10, 98, 10]⟩)) = [0, 2, 4] := by decide +kernel
  rw [this, Option.bind_some, same_f _ _ (by decide) k (by show 3 < k; omega)]
  rfl
theorem rstarts_l0 (s : ByteArray) (hn : s.size ≤ 10000) (d : Nat) : ∀ (k i : Nat) (acc : List Int), i + d = s.size → acc.length ≤ i + 1 → d + 1 < k →
    topiaryref03_Starts.l0 k s acc ((i : Int) + 1) = some (acc ++ st (bt s) i d) := by
  induction d with
  | zero =>
    intro k i acc h1 h2 h3
    obtain ⟨k, rfl⟩ : ∃ m, k = m + 1 := ⟨k - 1, by omega⟩
    simp only [topiaryref03_Starts.l0]
    rw [if_neg (by omega)]
    simp [st]
  | succ d ih =>
    intro k i acc h1 h2 h3
    obtain ⟨k, rfl⟩ : ∃ m, k = m + 1 := ⟨k - 1, by omega⟩
    have hw : wrap64 ((i : Int) + 1 + 1) = ((i + 1 : Nat) : Int) + 1 := by rw [wr (by omega) (by omega)]; omega
    have hw2 : wrap64 ((i : Int) + 1 - 1) = (i : Int) := by rw [wr (by omega) (by omega)]; omega
    simp only [topiaryref03_Starts.l0]
    rw [if_pos (by omega), if_neg (by omega), hw2, if_pos (by omega), if_pos (by omega), hw]
    by_cases h10 : bt s (i : Int) = 10
    · rw [if_pos h10, if_pos (by omega), ih k (i + 1) _ (by omega) (by simp; omega) (by omega)]
      simp [st, h10]
    · rw [if_neg h10, ih k (i + 1) _ (by omega) (by omega) (by omega)]
      simp [st, h10]
theorem rstarts_f (s : ByteArray) (hn : s.size ≤ 10000) (k : Nat) (hk : s.size + 2 < k) : topiaryref03_Starts.f k s = some (0 :: st (bt s) 0 s.size) := by
  unfold topiaryref03_Starts.f
  obtain ⟨k, rfl⟩ : ∃ m, k = m + 1 := ⟨k - 1, by omega⟩
  simp only [topiaryref03_Starts.l0]
  rw [if_pos (by omega), if_pos trivial, if_pos (by simp)]
  have := rstarts_l0 s hn s.size k 0 [0] (by omega) (by simp) (by omega)
  simpa [wrap64] using this
theorem LinesStarts : topiarylaw03_LinesStarts.Pure := by
  intro s hs
  by_cases hn : s.size ≤ 4000
  · refine ⟨s.size + 20, ?_⟩
    have hl := st_len (bt s) s.size 0
    unfold topiarylaw03_LinesStarts.f
    rw [wakes_f _ (by omega)]
    simp only [Option.bind_some, if_true, topiarylaw03_long.f]
    rw [starts_f s (by omega) _ (by omega), rstarts_f s (by omega) _ (by omega)]
    simp only [Option.bind_some]
    rw [same_f _ _ (by simp; omega) _ (by simp; omega)]
    simp
  · refine ⟨20, ?_⟩
    unfold topiarylaw03_LinesStarts.f
    rw [wakes_f _ (by omega)]
    simp only [Option.bind_some, if_true, topiarylaw03_long.f]
    rw [decide_eq_true (by omega)]
    simp

end Go.Proofs.Ytfdpaaacgakaaaa.Pure
