/- Proved here: how what is told of a set is read back. No condition but those each theorem names. -/
import Derived.Test.YtkabcjchgaokoaaDoorPureBack0
import Derived.Test.YtkabcjchgaokoaaDoorGSjx8
import Derived.Laws.Bits64b
import Derived.Laws.Bits64
namespace Go.Proofs.YtkabcjchgaokoaaDoor.Pure
open Go.RowKit Go.Proofs.YtkabcjchgaokoaaDoor.PSj Go.Proofs.YtkabcjchgaokoaaDoorW.PrintWords Go.Proofs.YtkabcjchgaokoaaDoorW.PrintLast
set_option linter.unusedVariables false
set_option linter.unusedSimpArgs false

theorem runL_in (p : Nat → Bool) : ∀ d b i, i < runL p b d → p (b + i) = true
  | 0, _, i, h => by simp only [runL] at h; omega
  | d + 1, b, i, h => by
    simp only [runL] at h
    by_cases c : p b = true
    · rw [if_pos c] at h
      by_cases e : i = 0
      · subst e; exact c
      · have := runL_in p d (b + 1) (i - 1) (by omega)
        rw [show b + 1 + (i - 1) = b + i by omega] at this
        exact this
    · rw [if_neg c] at h; omega
/-! #### what sets come to -/
theorem or_bits {x y : Int} (hx : u64ok x) (hy : u64ok y) (j : Nat) : (bits .or .u64 x y).toNat.testBit j = (x.toNat.testBit j || y.toNat.testBit j) := by
  obtain ⟨n, rfl⟩ := Int.eq_ofNat_of_zero_le hx.1
  obtain ⟨m, rfl⟩ := Int.eq_ofNat_of_zero_le hy.1
  rw [bits_or_u64_nat n m (by have := hx.2; omega) (by have := hy.2; omega)]
  simp
theorem hasB_or {x0 x1 x2 x3 y0 y1 y2 y3 : Int} (hx : Words x0 x1 x2 x3) (hy : Words y0 y1 y2 y3) (j : Nat) : hasB (bits .or .u64 x0 y0) (bits .or .u64 x1 y1) (bits .or .u64 x2 y2) (bits .or .u64 x3 y3) j = (hasB x0 x1 x2 x3 j || hasB y0 y1 y2 y3 j) := by
  unfold hasB word4
  split
  · exact or_bits hx.w0 hy.w0 _
  · split
    · exact or_bits hx.w1 hy.w1 _
    · split
      · exact or_bits hx.w2 hy.w2 _
      · exact or_bits hx.w3 hy.w3 _
theorem hasB_ext {x0 x1 x2 x3 y0 y1 y2 y3 : Int} (hx : Words x0 x1 x2 x3) (hy : Words y0 y1 y2 y3) (h : ∀ j, j < 256 → hasB x0 x1 x2 x3 j = hasB y0 y1 y2 y3 j) : x0 = y0 ∧ x1 = y1 ∧ x2 = y2 ∧ x3 = y3 := by
  have H := @hasB_at x0 x1 x2 x3
  have G := @hasB_at y0 y1 y2 y3
  have key : ∀ a b : Int, u64ok a → u64ok b → (∀ j, j < 64 → a.toNat.testBit j = b.toNat.testBit j) → a = b := by
    intro a b ha hb hj
    have := nat_of_bits a.toNat b.toNat (by have := ha.2; have := ha.1; omega) (by have := hb.2; have := hb.1; omega) hj
    have := ha.1; have := hb.1; omega
  refine ⟨key _ _ hx.w0 hy.w0 fun j hj => ?_, key _ _ hx.w1 hy.w1 fun j hj => ?_, key _ _ hx.w2 hy.w2 fun j hj => ?_, key _ _ hx.w3 hy.w3 fun j hj => ?_⟩
  · rw [← (H j).1 hj, ← (G j).1 hj]; exact h j (by omega)
  · rw [← (H j).2.1 hj, ← (G j).2.1 hj]; exact h _ (by omega)
  · rw [← (H j).2.2.1 hj, ← (G j).2.2.1 hj]; exact h _ (by omega)
  · rw [← (H j).2.2.2 hj, ← (G j).2.2.2 hj]; exact h _ (by omega)
theorem hasB_none (j : Nat) : hasB 0 0 0 0 j = false := by
  unfold hasB word4
  split
  · exact Nat.zero_testBit _
  · split
    · exact Nat.zero_testBit _
    · split
      · exact Nat.zero_testBit _
      · exact Nat.zero_testBit _
def oneBits (n b : Nat) : Bool := match bytes_One.f (b : Int) with
  | some x => (List.range n).all fun j => hasB x.1 x.2.1 x.2.2.1 x.2.2.2 j == (j == b)
  | none => false
theorem one_bits : ∀ b : Fin 256, oneBits 256 b.val = true := by decide +kernel
theorem oneBits_of {n b : Nat} {x : Int × Int × Int × Int} (h : oneBits n b = true) (hx : bytes_One.f (b : Int) = some x) : ∀ j, j < n → hasB x.1 x.2.1 x.2.2.1 x.2.2.2 j = decide (j = b) := by
  unfold oneBits at h
  rw [hx] at h
  simp only [List.all_eq_true, List.mem_range, beq_iff_eq] at h
  intro j hj
  rw [h j hj]
  by_cases e : j = b <;> simp [e]
theorem one_is (b : Nat) (hb : b < 256) : ∃ x, bytes_One.f (b : Int) = some x ∧ WordsQ x ∧ ∀ j, j < 256 → hasB x.1 x.2.1 x.2.2.1 x.2.2.2 j = decide (j = b) := by
  obtain ⟨x, hx, hw, _⟩ := one_f (b : Int) (by omega) (by omega)
  exact ⟨x, hx, hw, oneBits_of (one_bits ⟨b, hb⟩) hx⟩
set_option maxRecDepth 100000 in
theorem span_l0 (d : Nat) : ∀ (b e : Nat) (x0 x1 x2 x3 : Int), Words x0 x1 x2 x3 → e < 256 → e + 1 = b + d → ∃ r, Ev (fun k => bytes_Span.l0 k x0 x1 x2 x3 (b : Int) (e : Int)) r ∧ WordsQ r ∧ ∀ j, j < 256 → hasB r.1 r.2.1 r.2.2.1 r.2.2.2 j = (hasB x0 x1 x2 x3 j || (decide (b ≤ j) && decide (j ≤ e))) := by
  induction d with
  | zero =>
    intro b e x0 x1 x2 x3 hx he hd
    refine ⟨(x0, x1, x2, x3), .step (f := fun _ => some (x0, x1, x2, x3)) (fun k => ?_) (.now _), hx, fun j hj => ?_⟩
    · rw [bytes_Span.l0, if_neg (by omega)]
    · by_cases c : b ≤ j
      · simp [show ¬ j ≤ e by omega]
      · simp [c]
  | succ d ih =>
    intro b e x0 x1 x2 x3 hx he hd
    obtain ⟨o, ho, hw, hb⟩ := one_is b (by omega)
    obtain ⟨r, hr, hrw, hrb⟩ := ih (b + 1) e (bits .or .u64 x0 o.1) (bits .or .u64 x1 o.2.1) (bits .or .u64 x2 o.2.2.1) (bits .or .u64 x3 o.2.2.2) words_or he (by omega)
    refine ⟨r, .step (fun k => ?_) hr, hrw, fun j hj => ?_⟩
    · rw [bytes_Span.l0, if_pos (by omega), ho, Option.bind_some, bytes_Or.f, Option.bind_some]
      rfl
    · rw [hrb j hj, hasB_or hx hw, hb j hj, Bool.or_assoc]
      congr 1
      by_cases c : j = b
      · subst c; simp [show j ≤ e by omega]
      · by_cases c2 : b + 1 ≤ j
        · simp [c, c2, show b ≤ j by omega]
        · simp [c, c2, show ¬ b ≤ j by omega]
set_option maxRecDepth 100000 in
theorem span_is (a b : Nat) (hab : a ≤ b) (hb : b < 256) : ∃ r, Ev (fun k => bytes_Span.f k (a : Int) (b : Int)) r ∧ WordsQ r ∧ ∀ j, j < 256 → hasB r.1 r.2.1 r.2.2.1 r.2.2.2 j = (decide (a ≤ j) && decide (j ≤ b)) := by
  obtain ⟨r, hr, hw, h⟩ := span_l0 (b + 1 - a) a b 0 0 0 0 words0 hb (by omega)
  refine ⟨r, .congr (fun k => ?_) hr, hw, fun j hj => ?_⟩
  · rw [bytes_Span.f, if_pos (by omega)]
  · rw [h j hj, hasB_none, Bool.false_or]
/-! #### a class, read back -/
/-- What reads in a class. -/
structure InClass (t : ByteArray) : Prop where
  full : 1 ≤ t.size
  first : bt t 0 ≠ 45 ∧ bt t 0 ≠ 94
set_option maxRecDepth 100000 in
theorem cls_step {y0 y1 y2 y3 : Int} {T : ByteArray} {n : Int} {first : Bool} {a b : Nat} {s1 : ByteArray} (hy : Words y0 y1 y2 y3) (hab : a ≤ b) (hb : b < 256) (hs : ¬ (first = false ∧ bt s1 0 = 93)) (h1 : 1 ≤ s1.size) (ha : At s1 T n)
    (hn : regex_reader_sign.f T n NTC BYA = some (.ok ((a : Int), n + (s1.size : Int))))
    (p : Int) (c2 : Int) (hc2 : regex_reader_next.f T (n + (s1.size : Int)) = some c2) (hq : (if c2 = 45 then regex_reader_sign.f T (n + (s1.size : Int) + 1) NTC BYA else some (.ok ((a : Int), n + (s1.size : Int)))) = some (.ok ((b : Int), p)))
    (R : Except Int ((Int × Int × Int × Int) × Int))
    (hR : ∀ r : Int × Int × Int × Int, WordsQ r → (∀ j, j < 256 → hasB r.1 r.2.1 r.2.2.1 r.2.2.2 j = (hasB y0 y1 y2 y3 j || (decide (a ≤ j) && decide (j ≤ b)))) → Ev (fun k => regex_reader_class.l0 k T r.1 r.2.1 r.2.2.1 r.2.2.2 false p) R) :
    Ev (fun k => regex_reader_class.l0 k T y0 y1 y2 y3 first n) R := by
  obtain ⟨o, ho, hw, hob⟩ := span_is a b hab hb
  have hh := hR (bits .or .u64 y0 o.1, bits .or .u64 y1 o.2.1, bits .or .u64 y2 o.2.2.1, bits .or .u64 y3 o.2.2.2) words_or (fun j hj => by rw [hasB_or hy hw, hob j hj])
  refine .step (f := fun k => (bytes_Span.f k (a : Int) (b : Int)).bind fun o => (bytes_Or.f y0 y1 y2 y3 o.1 o.2.1 o.2.2.1 o.2.2.2).bind fun r => regex_reader_class.l0 k T r.1 r.2.1 r.2.2.1 r.2.2.2 false p) (fun k => ?_) (Ev.bind ho ?_)
  · have hn' : regex_reader_sign.f T n ⟨#[91, 93, 94, 45, 47]⟩ ⟨#[46, 42, 43, 63, 40, 41, 91, 93, 124, 92, 47, 45, 94]⟩ = some (.ok ((a : Int), n + (s1.size : Int))) := hn
    have hq' : (if c2 = 45 then regex_reader_sign.f T (n + (s1.size : Int) + 1) ⟨#[91, 93, 94, 45, 47]⟩ ⟨#[46, 42, 43, 63, 40, 41, 91, 93, 124, 92, 47, 45, 94]⟩ else some (.ok ((a : Int), n + (s1.size : Int)))) = some (.ok ((b : Int), p)) := hq
    have h0 := ha.n0
    have hz := ha.size
    have hb0 := bt_range s1 0
    rw [regex_reader_class.l0, nx_f h0 (by omega), Option.bind_some, nx_head ha (by omega), if_neg hs, if_neg (by omega), hn']
    simp only [Ex, Option.bind_some, hc2, hq']
    rw [if_neg (by omega)]
  · exact hh
set_option maxRecDepth 100000 in
/-- The runs of a set from b on, read back. -/
theorem loops_back {x0 x1 x2 x3 : Int} (h : Words x0 x1 x2 x3) (d : Nat) : ∀ (b : Nat) (acc : ByteArray), b + d = 257 → acc.size + 10 * d ≤ 100000 → ∃ t : ByteArray, Ev (fun k => regex_set.l0 k acc (b : Int) x0 x1 x2 x3) (acc ++ t) ∧ t.size ≤ 10 * d + 1 ∧ InClass t ∧
    ∀ T n y0 y1 y2 y3 first, At t T n → Words y0 y1 y2 y3 → (∀ j, j < 256 → hasB y0 y1 y2 y3 j = (decide (j < b) && hasB x0 x1 x2 x3 j)) → (first = false ∨ ∃ j, b ≤ j ∧ j < 256 ∧ hasB x0 x1 x2 x3 j = true) →
      Ev (fun k => regex_reader_class.l0 k T y0 y1 y2 y3 first n) (.ok ((x0, x1, x2, x3), n + (t.size : Int) - 1)) := by
  induction d using Nat.strongRecOn with
  | _ d ih =>
    intro b acc hb ha
    have z1 : (⟨#[93]⟩ : ByteArray).size = 1 := rfl
    have z2 : (⟨#[45]⟩ : ByteArray).size = 1 := rfl
    by_cases hlt' : ¬ b < 256
    · refine ⟨(⟨#[93]⟩ : ByteArray), ?_, by omega, ⟨by decide, by decide, by decide⟩, fun T n y0 y1 y2 y3 first hAt hy hj hf => ?_⟩
      · refine .step (f := fun _ => some (acc ++ (⟨#[93]⟩ : ByteArray))) (fun k => ?_) (.now _)
        rw [regex_set.l0, if_neg (by omega), if_pos (by omega)]
      · have hfirst : first = false := by
          rcases hf with h | ⟨j, _, _, _⟩
          · exact h
          · omega
        obtain ⟨e0, e1, e2, e3⟩ := hasB_ext hy h (fun j hjj => by rw [hj j hjj, decide_eq_true (by omega : j < b), Bool.true_and])
        subst e0 e1 e2 e3
        have h0 := hAt.n0
        have hz := hAt.size
        refine .step (f := fun _ => some (.ok ((y0, y1, y2, y3), n))) (fun k => ?_) ?_
        · rw [regex_reader_class.l0, nx_f h0 (by omega), Option.bind_some, nx_head hAt (by omega), if_pos ⟨hfirst, rfl⟩]
        · rw [z1, show n + ((1 : Nat) : Int) - 1 = n by omega]
          exact .now _
    have hlt : b < 256 := by omega
    have hh : bytes_Has.f x0 x1 x2 x3 ((b : Int) % 256) = some (hasB x0 x1 x2 x3 b) := by
      have := has_f h b hlt
      rw [← this]; congr 1; omega
    by_cases c' : ¬ hasB x0 x1 x2 x3 b = true
    · have c0 : hasB x0 x1 x2 x3 b = false := by simpa using c'
      obtain ⟨t, h1, h2, h3, h4⟩ := ih (d - 1) (by omega) (b + 1) acc (by omega) (by omega)
      refine ⟨t, ?_, by omega, h3, fun T n y0 y1 y2 y3 first hAt hy hj hf => h4 T n y0 y1 y2 y3 first hAt hy (fun j hjj => ?_) ?_⟩
      · refine .step (fun k => ?_) h1
        rw [regex_set.l0, if_pos (by omega), hh, Option.bind_some, if_neg c', wr64 _ (by omega) (by omega)]
        rfl
      · rw [hj j hjj]
        by_cases e : j = b
        · subst e; rw [c0]; simp
        · by_cases e2 : j < b
          · rw [decide_eq_true e2, decide_eq_true (by omega : j < b + 1)]
          · rw [decide_eq_false e2, decide_eq_false (by omega : ¬ j < b + 1)]
      · rcases hf with h | ⟨j, g1, g2, g3⟩
        · exact .inl h
        · refine .inr ⟨j, ?_, g2, g3⟩
          rcases Nat.lt_or_eq_of_le g1 with q | q
          · omega
          · subst q; rw [c0] at g3; cases g3
    · have c : hasB x0 x1 x2 x3 b = true := by simpa using c'
      obtain ⟨n, hn⟩ : ∃ n, n = runL (hasB x0 x1 x2 x3) (b + 1) (255 - b) + 1 := ⟨_, rfl⟩
      have hle : n ≤ 256 - b := by have := runL_le (hasB x0 x1 x2 x3) (255 - b) (b + 1); omega
      have hin : ∀ i, i < n → hasB x0 x1 x2 x3 (b + i) = true := by
        intro i hi
        by_cases e : i = 0
        · subst e; exact c
        · have := runL_in (hasB x0 x1 x2 x3) (255 - b) (b + 1) (i - 1) (by omega)
          rw [show b + 1 + (i - 1) = b + i by omega] at this
          exact this
      -- what the run is told by
      obtain ⟨acc', hacc⟩ : ∃ acc', acc' = (if n = 1 then t1 b else if n = 2 then t1 b ++ t1 (b + n - 1) else t1 b ++ (⟨#[45]⟩ : ByteArray) ++ t1 (b + n - 1)) := ⟨_, rfl⟩
      obtain ⟨p1, p2, p3⟩ := t1_head b hlt
      obtain ⟨q1, q2, q3⟩ := t1_head (b + n - 1) (by omega)
      have o1 := t1_f b hlt
      have o2 := t1_f (b + n - 1) (by omega)
      have hsz : acc'.size ≤ 9 := by
        rw [hacc]
        split
        · omega
        · split
          · rw [ByteArray.size_append]; omega
          · simp only [ByteArray.size_append]; omega
      obtain ⟨t, h1, h2, h3, h4⟩ := ih (d - n) (by omega) (b + n) (acc ++ acc') (by omega) (by rw [ByteArray.size_append]; omega)
      have hcode : Ev (fun k => regex_set.l0 k acc (b : Int) x0 x1 x2 x3) (acc ++ acc' ++ t) := by
        have j2 : Ev (fun k => regex_set.j2 k acc (b : Int) ((b + n - 1 : Nat) : Int) x0 x1 x2 x3) (acc ++ acc' ++ t) := by
          refine .step (fun k => ?_) h1
          have m1 : (b : Int) % 256 = (b : Int) := by omega
          have m2 : ((b + n - 1 : Nat) : Int) % 256 = ((b + n - 1 : Nat) : Int) := by omega
          have o1' : regex_one.f (b : Int) (⟨#[91, 93, 94, 45, 92, 47]⟩ : ByteArray) = some (t1 b) := o1
          have o2' : regex_one.f ((b + n - 1 : Nat) : Int) (⟨#[91, 93, 94, 45, 92, 47]⟩ : ByteArray) = some (t1 (b + n - 1)) := o2
          rw [regex_set.j2, m1, m2, o1', o2', Option.bind_some, if_pos (by omega), wr64 ((b : Int) + 1) (by omega) (by omega), Option.bind_some, Option.bind_some, wr64 _ (by omega) (by omega), show ((b + n - 1 : Nat) : Int) + 1 = ((b + n : Nat) : Int) by omega]
          by_cases n1 : n = 1
          · rw [if_neg (by omega), if_neg (by omega), hacc, if_pos n1]
          · by_cases n2 : n = 2
            · rw [if_neg (by omega), if_pos (by omega), if_pos (by rw [ByteArray.size_append]; omega), hacc, if_neg n1, if_pos n2, ByteArray.append_assoc]
            · rw [if_pos (by omega), if_pos (by rw [ByteArray.size_append]; omega), if_pos (by omega), if_pos (by simp only [ByteArray.size_append]; omega), hacc, if_neg n1, if_neg n2, ByteArray.append_assoc, ByteArray.append_assoc, ByteArray.append_assoc]
        have := set_l1 h (255 - b) b b acc (acc ++ acc' ++ t) (by omega) (by rw [show b + runL (hasB x0 x1 x2 x3) (b + 1) (255 - b) = b + n - 1 by omega]; exact j2)
        refine .step (fun k => ?_) this
        rw [regex_set.l0, if_pos (by omega), hh, Option.bind_some, if_pos c]
      have hhead : ∀ i, 0 ≤ i → i < ((t1 b).size : Int) → bt (acc' ++ t) i = bt (t1 b) i := by
        intro i i0 i1
        rw [hacc]
        by_cases n1 : n = 1
        · rw [if_pos n1, byte_left _ _ _ i0 i1]
        · by_cases n2 : n = 2
          · rw [if_neg n1, if_pos n2, byte_left _ _ _ i0 (by rw [ByteArray.size_append]; omega), byte_left _ _ _ i0 i1]
          · rw [if_neg n1, if_neg n2, byte_left _ _ _ i0 (by simp only [ByteArray.size_append]; omega), byte_left _ _ _ i0 (by rw [ByteArray.size_append]; omega), byte_left _ _ _ i0 i1]
      have hsz1 : (t1 b).size ≤ acc'.size := by
        rw [hacc]
        split
        · omega
        · split
          · rw [ByteArray.size_append]; omega
          · simp only [ByteArray.size_append]; omega
      refine ⟨acc' ++ t, by rw [← ByteArray.append_assoc]; exact hcode, by rw [ByteArray.size_append]; omega, ⟨by rw [ByteArray.size_append]; omega, ?_⟩, fun T nn y0 y1 y2 y3 first hAt hy hj hf => ?_⟩
      · rw [hhead 0 (by omega) (by omega)]
        exact ⟨p3 45 (by simp), p3 94 (by simp)⟩
      · -- it reads back
        have hAtL := hAt.left
        have hAtR := hAt.right
        have f93 : ¬ (first = false ∧ bt (t1 b) 0 = 93) := fun hx => p3 93 (by simp) hx.2
        have f93' : ¬ (false = false ∧ bt (t1 (b + n - 1)) 0 = 93) := fun hx => q3 93 (by simp) hx.2
        have tnx : ∀ p, At t T p → ∃ c2, regex_reader_next.f T p = some c2 ∧ c2 ≠ 45 := by
          intro p hp
          have := hp.size; have := h3.full
          exact ⟨_, by rw [nx_f hp.n0 (by omega), nx_head hp (by omega)], h3.first.1⟩
        have last : ∀ (r : Int × Int × Int × Int) p, At t T p → p = nn + (acc'.size : Int) → WordsQ r → (∀ j, j < 256 → hasB r.1 r.2.1 r.2.2.1 r.2.2.2 j = (decide (j < b + n) && hasB x0 x1 x2 x3 j)) → Ev (fun k => regex_reader_class.l0 k T r.1 r.2.1 r.2.2.1 r.2.2.2 false p) (.ok ((x0, x1, x2, x3), nn + ((acc' ++ t).size : Int) - 1)) := by
          intro r p hp hpe hw hb
          have := h4 T p r.1 r.2.1 r.2.2.1 r.2.2.2 false hp hw hb (.inl rfl)
          rw [show nn + ((acc' ++ t).size : Int) - 1 = p + (t.size : Int) - 1 by rw [ByteArray.size_append]; omega]
          exact this
        by_cases n1 : n = 1
        · have ea : acc' = t1 b := by rw [hacc, if_pos n1]
          rw [ea] at hAtL hAtR
          obtain ⟨c2, hc2, hne⟩ := tnx _ hAtR
          refine cls_step (a := b) (b := b) hy (Nat.le_refl _) hlt f93 p1 hAtL (sign_ok (t1_ok b hlt) hAtL) _ c2 hc2 (by rw [if_neg hne]) _ (fun r hw hb => last r _ hAtR (by rw [ea]) hw (fun j hjj => ?_))
          rw [hb j hjj, hj j hjj]
          by_cases e : j = b
          · subst e; simp [c, n1]
          · by_cases e2 : j < b
            · simp [e2, show j < b + n by omega, show ¬ b ≤ j by omega]
            · simp [e2, show ¬ j < b + n by omega, show ¬ j ≤ b by omega]
        · by_cases n2 : n = 2
          · have ea : acc' = t1 b ++ t1 (b + n - 1) := by rw [hacc, if_neg n1, if_pos n2]
            rw [ea] at hAtL hAtR
            have hL := hAtL.left
            have hM := hAtL.right
            rw [ByteArray.size_append] at hAtR
            have hAtR' : At t T (nn + ((t1 b).size : Int) + ((t1 (b + n - 1)).size : Int)) := by rw [show nn + ((t1 b).size : Int) + ((t1 (b + n - 1)).size : Int) = nn + (((t1 b).size + (t1 (b + n - 1)).size : Nat) : Int) by omega]; exact hAtR
            have c2 := nx_head hM (by omega)
            have sM := hM.size
            refine cls_step (a := b) (b := b) hy (Nat.le_refl _) hlt f93 p1 hL (sign_ok (t1_ok b hlt) hL) _ _ (by rw [nx_f hM.n0 (by omega), c2]) (by rw [if_neg (q3 45 (by simp))]) _ (fun r hw hb => ?_)
            obtain ⟨c3, hc3, hne⟩ := tnx _ hAtR'
            refine cls_step (a := b + n - 1) (b := b + n - 1) hw (Nat.le_refl _) (by omega) f93' q1 hM (sign_ok (t1_ok _ (by omega)) hM) _ c3 hc3 (by rw [if_neg hne]) _ (fun r' hw' hb' => last r' _ hAtR' (by rw [ea, ByteArray.size_append]; omega) hw' (fun j hjj => ?_))
            have c1 := hin 1 (by omega)
            rw [hb' j hjj, hb j hjj, hj j hjj]
            by_cases e : j = b
            · subst e; simp [c, n2]
            · by_cases e1 : j = b + 1
              · subst e1; simp [c1, n2]
              · by_cases e2 : j < b
                · simp [e2, show j < b + n by omega, show ¬ b ≤ j by omega, show ¬ b + n - 1 ≤ j by omega]
                · simp [e2, show ¬ j < b + n by omega, show ¬ j ≤ b by omega, show ¬ j ≤ b + n - 1 by omega]
          · have ea : acc' = t1 b ++ (⟨#[45]⟩ : ByteArray) ++ t1 (b + n - 1) := by rw [hacc, if_neg n1, if_neg n2]
            rw [ea] at hAtL hAtR
            have hL := hAtL.left.left
            have hD := hAtL.left.right
            have hM := hAtL.right
            simp only [ByteArray.size_append] at hAtR hM
            have hM' : At (t1 (b + n - 1)) T (nn + ((t1 b).size : Int) + 1) := by rw [show nn + ((t1 b).size : Int) + 1 = nn + (((t1 b).size + (⟨#[45]⟩ : ByteArray).size : Nat) : Int) by omega]; exact hM
            have hAtR' : At t T (nn + ((t1 b).size : Int) + 1 + ((t1 (b + n - 1)).size : Int)) := by rw [show nn + ((t1 b).size : Int) + 1 + ((t1 (b + n - 1)).size : Int) = nn + (((t1 b).size + (⟨#[45]⟩ : ByteArray).size + (t1 (b + n - 1)).size : Nat) : Int) by omega]; exact hAtR
            have c2 := nx_head hD (by omega)
            have sD := hD.size
            refine cls_step (a := b) (b := b + n - 1) hy (by omega) (by omega) f93 p1 hL (sign_ok (t1_ok b hlt) hL) _ _ (by rw [nx_f hD.n0 (by omega), c2]) (by rw [if_pos (by decide)]; exact sign_ok (t1_ok _ (by omega)) hM') _ (fun r hw hb => last r _ hAtR' (by rw [ea]; simp only [ByteArray.size_append]; omega) hw (fun j hjj => ?_))
            rw [hb j hjj, hj j hjj]
            by_cases e2 : j < b
            · simp [e2, show j < b + n by omega, show ¬ b ≤ j by omega]
            · by_cases e3 : j < b + n
              · have := hin (j - b) (by omega)
                rw [show b + (j - b) = j by omega] at this
                simp [e2, e3, show b ≤ j by omega, show j ≤ b + n - 1 by omega, this]
              · simp [e2, e3, show ¬ j ≤ b + n - 1 by omega]
theorem cntB_zero (p : Nat → Bool) : ∀ n, cntB p n = 0 → ∀ j, j < n → p j = false
  | 0, _, j, hj => by omega
  | n + 1, h, j, hj => by
    simp only [cntB] at h
    by_cases e : j = n
    · subst e
      cases q : p j with
      | false => rfl
      | true => rw [q] at h; simp at h
    · exact cntB_zero p n (by omega) j (by omega)
theorem leastB_mem (p : Nat → Bool) : ∀ (d b e : Nat), leastB p b d = (e : Int) → e < b + d ∧ p e = true
  | 0, b, e, h => by simp only [leastB] at h; omega
  | d + 1, b, e, h => by
    simp only [leastB] at h
    by_cases c : p b = true
    · rw [if_pos c] at h
      have : b = e := by omega
      subst this
      exact ⟨by omega, c⟩
    · rw [if_neg c] at h
      have := leastB_mem p d (b + 1) e h
      exact ⟨by omega, this.2⟩
/-! #### what is shown, read back -/
structure Head (s : ByteArray) : Prop where
  full : 1 ≤ s.size
  first : bt s 0 ≠ 41 ∧ bt s 0 ≠ 42 ∧ bt s 0 ≠ 43 ∧ bt s 0 ≠ 63 ∧ bt s 0 ≠ 124
def AtomR (s : ByteArray) (c : List S40) : Prop := ∀ T n (out : List S40), At s T n → out.length + c.length ≤ 1000 → Ev (fun k => regex_reader_atom.f k T n out) (.ok (n + (s.size : Int), out ++ c))
def PieceR (s : ByteArray) (c : List S40) : Prop := ∀ T n (out : List S40) R, At s T n → out.length + c.length ≤ 1000 → Ev (fun k => regex_reader_piece.l0 k T (n + (s.size : Int)) (out ++ c)) R → Ev (fun k => regex_reader_piece.f k T n out) R
def NoStar (c : Int) : Prop := c ≠ 42 ∧ c ≠ 43 ∧ c ≠ 63
def RowR (s : ByteArray) (c : List S40) : Prop := ∀ T n (out : List S40) R, At s T n → out.length + c.length ≤ 1000 → NoStar (nx T (n + (s.size : Int))) → Ev (fun k => regex_reader_row.l0 k T (n + (s.size : Int)) (out ++ c)) R → Ev (fun k => regex_reader_row.f k T n out) R
def RowsR (s : ByteArray) (c : List S40) : Prop := ∀ T n (out : List S40) R, At s T n → out.length + c.length ≤ 1000 → (nx T (n + (s.size : Int)) = -1 ∨ nx T (n + (s.size : Int)) = 124 ∨ nx T (n + (s.size : Int)) = 41) → Ev (fun k => regex_reader_rows.l0 k T (n + (s.size : Int)) (out ++ c)) R → Ev (fun k => regex_reader_rows.f k T n out) R
theorem At.nxf {s T : ByteArray} {p : Int} (h : At s T p) : regex_reader_next.f T (p + (s.size : Int)) = some (nx T (p + (s.size : Int))) := nx_f (by have := h.n0; omega) h.size
theorem nx_range (T : ByteArray) (p : Int) : nx T p = -1 ∨ (0 ≤ nx T p ∧ nx T p ≤ 255) := by
  unfold nx
  split
  · exact .inl rfl
  · exact .inr (bt_range _ _)
theorem ix_none : ∀ c : Fin 257, (c.val = 42 ∨ c.val = 43 ∨ c.val = 63) ∨ strings_IndexByte.f ⟨#[42, 43, 63]⟩ (c.val : Int) = some (-1) := by decide +kernel
theorem piece_stop {T : ByteArray} {p : Int} (hp : 0 ≤ p) (hl : p ≤ (T.size : Int)) (hc : NoStar (nx T p)) (out : List S40) : Ev (fun k => regex_reader_piece.l0 k T p out) (.ok (p, out)) := by
  refine Ev.one fun k => ?_
  have : strings_IndexByte.f ⟨#[42, 43, 63]⟩ (if nx T p < 0 then 0 else nx T p) = some (-1) := by
    rcases nx_range T p with h | ⟨h0, h1⟩
    · rw [h]; decide +kernel
    · rw [if_neg (by omega)]
      rcases ix_none ⟨(nx T p).toNat, by omega⟩ with h | h
      · simp only at h
        unfold NoStar at hc
        omega
      · simp only [show (((nx T p).toNat : Nat) : Int) = nx T p by omega] at h
        exact h
  rw [regex_reader_piece.l0, nx_f hp hl, Option.bind_some, this, Option.bind_some, if_pos (by omega)]
theorem row_stop {T : ByteArray} {p : Int} (hp : 0 ≤ p) (hl : p ≤ (T.size : Int)) (hc : nx T p = -1 ∨ nx T p = 124 ∨ nx T p = 41) (out : List S40) : Ev (fun k => regex_reader_row.l0 k T p out) (.ok (p, out)) := by
  refine Ev.one fun k => ?_
  rw [regex_reader_row.l0, nx_f hp hl, Option.bind_some, if_neg (fun h => by omega)]
theorem AtomR.piece {s : ByteArray} {c : List S40} (h : AtomR s c) : PieceR s c := fun T n out R ha hl hR =>
  .step (f := fun k => Ex (regex_reader_atom.f k T n out) fun r => regex_reader_piece.l0 k T r.1 r.2) (fun k => by rw [regex_reader_piece.f]) (Ev.ex_ok (h T n out ha hl) hR)
theorem PieceR.row {s : ByteArray} {c : List S40} (h : PieceR s c) : RowR s c := fun T n out R ha hl hn hR =>
  .step (f := fun k => Ex (regex_reader_piece.f k T n out) fun r => regex_reader_row.l0 k T r.1 r.2) (fun k => by rw [regex_reader_row.f]) (Ev.ex_ok (h T n out _ ha hl (piece_stop (by have := ha.n0; omega) ha.size hn _)) hR)
theorem nostar_of {c : Int} (h : c = -1 ∨ c = 124 ∨ c = 41) : NoStar c := by unfold NoStar; omega
theorem RowR.rows {s : ByteArray} {c : List S40} (h : RowR s c) : RowsR s c := fun T n out R ha hl hn hR =>
  .step (f := fun k => Ex (regex_reader_row.f k T n out) fun r => regex_reader_rows.l0 k T r.1 r.2) (fun k => by rw [regex_reader_rows.f]) (Ev.ex_ok (h T n out _ ha hl (nostar_of hn) (row_stop (by have := ha.n0; omega) ha.size hn _)) hR)
def symOf (o : Int) : ByteArray := if o = 5 then ⟨#[42]⟩ else if o = 6 then ⟨#[43]⟩ else ⟨#[63]⟩
theorem sym_ok (o : Int) (ho : o = 5 ∨ o = 6 ∨ o = 7) : (symOf o).size = 1 ∧ bt (symOf o) 0 ≠ -1 ∧ 0 ≤ bt (symOf o) 0 ∧ strings_IndexByte.f ⟨#[42, 43, 63]⟩ (bt (symOf o) 0) = some (o - 5) := by
  rcases ho with rfl | rfl | rfl <;> decide +kernel
theorem PieceR.star {s : ByteArray} {c : List S40} {o : Int} (ho : o = 5 ∨ o = 6 ∨ o = 7) (h : PieceR s c) : PieceR (s ++ symOf o) (c ++ [(⟨o, ⟨0, 0, 0, 0⟩⟩ : S40)]) := by
  intro T n out R ha hl hR
  obtain ⟨z1, _, z0, hi⟩ := sym_ok o ho
  rw [List.length_append, List.length_singleton] at hl
  have hr := ha.right
  have := hr.size
  refine h T n out R ha.left (by omega) (.step (fun k => ?_) hR)
  rw [regex_reader_piece.l0, nx_f hr.n0 (by omega), nx_head hr (by omega), Option.bind_some, if_neg (by omega), hi, Option.bind_some, if_neg (by omega), if_pos (by omega), put_f _ _ _ _ _ _ (by rw [List.length_append]; omega), Option.bind_some]
  rw [ByteArray.size_append, z1, show o - 5 + 5 = o by omega, List.append_assoc, show n + (s.size : Int) + 1 = n + ((s.size + 1 : Nat) : Int) by omega]
theorem Head.nostar {s T : ByteArray} {p : Int} (h : Head s) (ha : At s T p) : nx T p = bt s 0 ∧ NoStar (nx T p) ∧ 0 ≤ nx T p ∧ nx T p ≠ 124 ∧ nx T p ≠ 41 := by
  have e := nx_head ha (by have := h.full; omega)
  rw [e]
  have := h.first
  have := bt_range s 0
  exact ⟨rfl, ⟨by omega, by omega, by omega⟩, by omega, by omega, by omega⟩
theorem RowR.cat {x y : ByteArray} {cx cy : List S40} (hx : RowR x cx) (hy : PieceR y cy) (hh : Head y) : RowR (x ++ y) (cx ++ cy ++ [(⟨3, ⟨0, 0, 0, 0⟩⟩ : S40)]) := by
  intro T n out R ha hl hn hR
  simp only [List.length_append, List.length_singleton] at hl
  have hr := ha.right
  have hz := hr.size
  have h0 := hr.n0
  rw [ByteArray.size_append, show n + ((x.size + y.size : Nat) : Int) = n + (x.size : Int) + (y.size : Int) by omega] at hn hR
  obtain ⟨e, g1, g2, g3, g4⟩ := hh.nostar hr
  refine hx T n out R ha.left (by omega) g1 (.step (f := fun k => Ex (regex_reader_piece.f k T (n + (x.size : Int)) (out ++ cx)) fun r => (regex_reader_put.f r.2 3 0 0 0 0).bind fun o => regex_reader_row.l0 k T r.1 o) (fun k => ?_) (Ev.ex_ok (hy T _ (out ++ cx) _ hr (by rw [List.length_append]; omega) (piece_stop (by omega) hz hn _)) ?_))
  · rw [regex_reader_row.l0, nx_f h0 (by omega), Option.bind_some, if_pos ⟨g2, g3, g4⟩]
  · refine .congr (fun k => ?_) hR
    simp only
    rw [put_f _ _ _ _ _ _ (by simp only [List.length_append]; omega), Option.bind_some]
    simp only [List.append_assoc]
theorem RowsR.or {x y : ByteArray} {cx cy : List S40} (hx : RowsR x cx) (hy : RowR y cy) (hh : Head y) : RowsR (x ++ (⟨#[124]⟩ : ByteArray) ++ y) (cx ++ cy ++ [(⟨4, ⟨0, 0, 0, 0⟩⟩ : S40)]) := by
  intro T n out R ha hl hn hR
  simp only [List.length_append, List.length_singleton] at hl
  have z1 : (⟨#[124]⟩ : ByteArray).size = 1 := rfl
  have hb := ha.left.right
  have hr := ha.right
  have hr' : At y T (n + (x.size : Int) + 1) := by rw [ByteArray.size_append, z1] at hr; rw [show n + (x.size : Int) + 1 = n + ((x.size + 1 : Nat) : Int) by omega]; exact hr
  have hz := hr'.size
  have h0 := hb.n0
  simp only [ByteArray.size_append, z1] at hn hR
  rw [show n + ((x.size + 1 + y.size : Nat) : Int) = n + (x.size : Int) + 1 + (y.size : Int) by omega] at hn hR
  have eb : nx T (n + (x.size : Int)) = 124 := nx_head hb (by omega)
  refine hx T n out R ha.left.left (by omega) (.inr (.inl eb)) (.step (f := fun k => Ex (regex_reader_row.f k T (n + (x.size : Int) + 1) (out ++ cx)) fun r => (regex_reader_put.f r.2 4 0 0 0 0).bind fun o => regex_reader_rows.l0 k T r.1 o) (fun k => ?_) (Ev.ex_ok (hy T _ (out ++ cx) _ hr' (by rw [List.length_append]; omega) (nostar_of hn) (row_stop (by omega) hz hn _)) ?_))
  · rw [regex_reader_rows.l0, nx_f h0 (by omega), Option.bind_some, if_pos eb]
  · refine .congr (fun k => ?_) hR
    simp only
    rw [put_f _ _ _ _ _ _ (by simp only [List.length_append]; omega), Option.bind_some]
    simp only [List.append_assoc]
theorem RowsR.paren {s : ByteArray} {c : List S40} (h : RowsR s c) (hh : Head s) : AtomR ((⟨#[40]⟩ : ByteArray) ++ s ++ (⟨#[41]⟩ : ByteArray)) c := by
  intro T n out ha hl
  have z1 : (⟨#[40]⟩ : ByteArray).size = 1 := rfl
  have z2 : (⟨#[41]⟩ : ByteArray).size = 1 := rfl
  have hp := ha.left.left
  have hs : At s T (n + 1) := ha.left.right
  have hq := ha.right
  rw [ByteArray.size_append, z1, show n + ((1 + s.size : Nat) : Int) = n + 1 + (s.size : Int) by omega] at hq
  have h0 := hp.n0
  have hz := hq.size
  have hsm := hq.small
  have e40 : nx T n = 40 := nx_head hp (by omega)
  have e41 : nx T (n + 1 + (s.size : Int)) = 41 := nx_head hq (by omega)
  obtain ⟨e, g1, g2, g3, g4⟩ := hh.nostar hs
  have hrows := h T (n + 1) out (.ok (n + 1 + (s.size : Int), out ++ c)) hs hl (.inr (.inr e41)) (Ev.one fun k => by rw [regex_reader_rows.l0, nx_f (by omega) (by omega), Option.bind_some, if_neg (by omega)])
  refine .step (fun k => ?_) (Ev.ex_ok (g := fun k => regex_reader_rows.f k T (n + 1) out) (f := fun k r => Ex (regex_reader_must.f T r.1 41) fun a2 => some (.ok (a2, r.2))) hrows (Ev.const ?_))
  · rw [regex_reader_atom.f, nx_f h0 (by omega), Option.bind_some, if_pos e40, nx_f (by omega) (by omega), Option.bind_some, if_neg g4]
  · have hm := must_f T (n + 1 + (s.size : Int)) _ (by omega) (nx_f (by omega) (by omega))
    rw [if_pos e41] at hm
    simp only [Ex, hm, Option.bind_some]
    simp only [ByteArray.size_append, z1, z2]
    rw [show n + 1 + (s.size : Int) + 1 = n + ((1 + s.size + 1 : Nat) : Int) by omega]
theorem empty_atom : AtomR (⟨#[40, 41]⟩ : ByteArray) [(⟨2, ⟨0, 0, 0, 0⟩⟩ : S40)] := by
  intro T n out ha hl
  have z : (⟨#[40, 41]⟩ : ByteArray).size = 2 := rfl
  have h0 := ha.n0
  have hz := ha.size
  have hsm := ha.small
  have e40 : nx T n = 40 := nx_head ha (by omega)
  have e41 : nx T (n + 1) = 41 := nx_at ha (i := 1) (by omega) (by omega)
  refine .step (f := fun _ => some (.ok (n + 2, out ++ [(⟨2, ⟨0, 0, 0, 0⟩⟩ : S40)]))) (fun k => ?_) (.now _)
  have hm := must_f T (n + 1) _ (by omega) (nx_f (by omega) (by omega))
  rw [if_pos e41] at hm
  rw [regex_reader_atom.f, nx_f h0 (by omega), Option.bind_some, if_pos e40, nx_f (by omega) (by omega), Option.bind_some, if_pos e41, put_f _ _ _ _ _ _ (by omega)]
  simp only [Ex, Option.bind_some, hm]
  rw [show n + 1 + 1 = n + 2 by omega]
/-! #### a set's cell, read back -/
theorem cntB_one (p : Nat → Bool) : ∀ n, cntB p n = 1 → ∀ i j, i < n → j < n → p i = true → p j = true → i = j
  | 0, _, i, j, hi, _, _, _ => by omega
  | n + 1, h, i, j, hi, hj, pi, pj => by
    simp only [cntB] at h
    by_cases q : p n = true
    · have h0 : cntB p n = 0 := by rw [q] at h; simp at h; exact h
      have : ∀ m, m < n → p m = true → False := fun m hm hp => by
        have := cntB_zero p n h0 m hm
        rw [hp] at this; cases this
      have a : i = n := by
        by_cases e : i = n
        · exact e
        · exact absurd (this i (by omega) pi) id
      have b : j = n := by
        by_cases e : j = n
        · exact e
        · exact absurd (this j (by omega) pj) id
      omega
    · have q0 : p n = false := by simpa using q
      rw [q0] at h
      simp at h
      have a : i ≠ n := fun e => by subst e; exact q pi
      have b : j ≠ n := fun e => by subst e; exact q pj
      exact cntB_one p n h i j (by omega) (by omega) pi pj
theorem set_back {x0 x1 x2 x3 : Int} (h : Words x0 x1 x2 x3) (hne : ¬ (x0 = 0 ∧ x1 = 0 ∧ x2 = 0 ∧ x3 = 0)) : ∃ s, s.size ≤ 3000 ∧ Ev (fun k => regex_set.f k x0 x1 x2 x3) s ∧ Head s ∧ AtomR s [(⟨1, ⟨x0, x1, x2, x3⟩⟩ : S40)] := by
  have hcf := count_f h
  obtain ⟨j0, hj0, hj1⟩ : ∃ j, j < 256 ∧ hasB x0 x1 x2 x3 j = true := by
    apply Classical.byContradiction
    intro hn
    refine hne (hasB_ext h words0 fun j hj => ?_)
    rw [hasB_none]
    cases e : hasB x0 x1 x2 x3 j with
    | false => rfl
    | true => exact absurd ⟨j, hj, e⟩ hn
  by_cases c1 : cntS x0 x1 x2 x3 = 1
  · -- one byte
    obtain ⟨e, he, _⟩ := leastB_found (hasB x0 x1 x2 x3) 256 0 ⟨j0, by omega, by omega, hj1⟩
    obtain ⟨he2, he3⟩ := leastB_mem (hasB x0 x1 x2 x3) 256 0 e he
    rw [Nat.zero_add] at he2
    obtain ⟨p1, p2, p3⟩ := ts_head e he2
    have o1 : regex_one.f (e : Int) (⟨#[46, 42, 43, 63, 40, 41, 91, 93, 124, 92, 47]⟩ : ByteArray) = some (ts e) := ts_f e he2
    refine ⟨ts e, by omega, ⟨0, fun k _ => ?_⟩, ⟨p1, p3 41 (by simp), p3 42 (by simp), p3 43 (by simp), p3 63 (by simp), p3 124 (by simp)⟩, fun T n out ha hl => ?_⟩
    · show regex_set.f k x0 x1 x2 x3 = _
      unfold regex_set.f
      rw [hcf, Option.bind_some, if_pos (by omega), least_f h, Option.bind_some, he, show (e : Int) % 256 = (e : Int) by omega, o1]
      rfl
    · obtain ⟨q, hq, hw, hb⟩ := one_is e he2
      obtain ⟨e0, e1, e2, e3⟩ := hasB_ext hw h (fun j hj => by
        rw [hb j hj]
        by_cases c : j = e
        · subst c; rw [he3]; simp
        · cases g : hasB x0 x1 x2 x3 j with
          | false => simp [c]
          | true => exact absurd (cntB_one _ 256 c1 j e hj he2 g he3) c)
      have hs := sign_ok (ts_ok e he2) ha
      have hs' : regex_reader_sign.f T n ⟨#[46, 42, 43, 63, 40, 41, 91, 93, 124, 92, 47]⟩ ⟨#[46, 42, 43, 63, 40, 41, 91, 93, 124, 92, 47, 45, 94]⟩ = some (.ok ((e : Int), n + ((ts e).size : Int))) := hs
      have h0 := ha.n0
      have hz := ha.size
      have ex := nx_head ha (by omega)
      refine Ev.one fun k => ?_
      simp only [List.length_singleton] at hl
      rw [regex_reader_atom.f, nx_f h0 (by omega), Option.bind_some, ex, if_neg (p3 40 (by simp)), if_neg (p3 46 (by simp)), if_neg (p3 91 (by simp)), hs']
      simp only [Ex, Option.bind_some, hq]
      rw [put_f _ _ _ _ _ _ (by omega), Option.bind_some, e0, e1, e2, e3]
  · have setf : ∀ k, regex_set.f k x0 x1 x2 x3 = if (x0 == (N10 : Int) && (x1 == (NM : Int) && (x2 == (NM : Int) && (x3 == (NM : Int))))) = true then some (⟨#[46]⟩ : ByteArray) else regex_set.l0 k (⟨#[91]⟩ : ByteArray) 0 x0 x1 x2 x3 := by
      intro k
      unfold regex_set.f
      rw [hcf, Option.bind_some, if_neg (by omega)]
      have no := not_one
      obtain ⟨q, hq, hn⟩ := Option.bind_eq_some_iff.mp no
      rw [hq, Option.bind_some, hn, Option.bind_some]
    by_cases c2 : (x0 == (N10 : Int) && (x1 == (NM : Int) && (x2 == (NM : Int) && (x3 == (NM : Int))))) = true
    · refine ⟨(⟨#[46]⟩ : ByteArray), by decide, ⟨0, fun k _ => ?_⟩, ⟨by decide, by decide⟩, fun T n out ha hl => ?_⟩
      · show regex_set.f k x0 x1 x2 x3 = _
        rw [setf, if_pos c2]
      · simp only [Bool.and_eq_true, beq_iff_eq] at c2
        obtain ⟨e0, e1, e2, e3⟩ := c2
        subst e0 e1 e2 e3
        have z : (⟨#[46]⟩ : ByteArray).size = 1 := rfl
        have h0 := ha.n0
        have hz := ha.size
        have ex : nx T n = 46 := nx_head ha (by omega)
        obtain ⟨q, hq, hn⟩ := Option.bind_eq_some_iff.mp not_one
        simp only [List.length_singleton] at hl
        refine Ev.one fun k => ?_
        rw [regex_reader_atom.f, nx_f h0 (by omega), Option.bind_some, if_neg (by omega), if_pos ex, hq, Option.bind_some, hn, Option.bind_some, put_f _ _ _ _ _ _ (by omega), Option.bind_some, z]
        rfl
    · obtain ⟨t, h1, h2, h3, h4⟩ := loops_back h 257 0 (⟨#[91]⟩ : ByteArray) rfl (by decide)
      have z : (⟨#[91]⟩ : ByteArray).size = 1 := rfl
      refine ⟨(⟨#[91]⟩ : ByteArray) ++ t, by rw [ByteArray.size_append]; omega, .congr (fun k => by rw [setf, if_neg c2]; rfl) h1, ⟨by rw [ByteArray.size_append]; omega, ?_⟩, fun T n out ha hl => ?_⟩
      · rw [byte_left _ _ 0 (by omega) (by omega)]
        decide
      · have hb := ha.left
        have hr : At t T (n + 1) := ha.right
        have h0 := ha.n0
        have hz := hr.size
        have hsm := hr.small
        have hf := h3.full
        have ex : nx T n = 91 := nx_head hb (by omega)
        have ex2 : nx T (n + 1) = bt t 0 := nx_head hr (by omega)
        simp only [List.length_singleton] at hl
        have hc := h4 T (n + 1) 0 0 0 0 true hr words0 (fun j hj => by rw [hasB_none]; simp) (.inr ⟨j0, by omega, hj0, hj1⟩)
        have hcls : Ev (fun k => regex_reader_class.f k T n) (.ok ((x0, x1, x2, x3), n + (((⟨#[91]⟩ : ByteArray) ++ t).size : Int))) := by
          refine .congr (f := fun k => Ex (regex_reader_class.l0 k T 0 0 0 0 true (n + 1)) fun x => regex_reader_class.fin n false x) (fun k => ?_) (Ev.ex_ok hc (Ev.const ?_))
          · unfold regex_reader_class.f
            rw [if_pos (by omega), nx_f (by omega) (by omega), Option.bind_some, ex2, if_neg h3.first.2, decide_eq_false h3.first.2]
          · unfold regex_reader_class.fin
            rw [if_neg (by decide), Option.bind_some, if_neg hne, ByteArray.size_append, z]
            simp only [Option.some.injEq, Except.ok.injEq, Prod.mk.injEq, true_and]
            omega
        refine .step (fun k => ?_) (Ev.ex_ok (g := fun k => regex_reader_class.f k T n) (f := fun _ q => (regex_reader_put.f out 1 q.1.1 q.1.2.1 q.1.2.2.1 q.1.2.2.2).bind fun o => some (.ok (q.2, o))) hcls (Ev.const ?_))
        · rw [regex_reader_atom.f, nx_f h0 (by omega), Option.bind_some, if_neg (by omega), if_neg (by omega), if_pos ex]
        · simp only [put_f _ _ _ _ _ _ (show (out.length : Int) ≤ 100000 by omega), Option.bind_some]

end Go.Proofs.YtkabcjchgaokoaaDoor.Pure
