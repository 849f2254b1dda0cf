/- Proved here: what RegexGroups computes is true of any two texts. No condition but that they are no longer than a machine can hold. -/
import Derived.Test.YtkabcjchgaokoaaGRxx20
import Derived.Test.YtkabcjchgaokoaaGRxx10
import Derived.Test.YtkabcjchgaokoaaGRxx11
import Derived.Test.YtkabcjchgaokoaaGRxx21
namespace Go.Proofs.Ytkabcjchgaokoaa.Pure
open Go.RowKit Go.Proofs.Ytkabcjchgaokoaa.PRx Go.Proofs.YtkabcjchgaokoaaW.PrintWords Go.Proofs.YtkabcjchgaokoaaW.PrintLast
set_option linter.unusedVariables false
set_option linter.unusedSimpArgs false

/-! #### how a text's reading lies in a greater text's -/
def BYA : ByteArray := ⟨#[46, 42, 43, 63, 40, 41, 91, 93, 124, 92, 47, 45, 94]⟩
/-- T holds s from n on; behind it T ends, or a ) stands. -/
structure Emb (s T : ByteArray) (n : Int) : Prop where
  n0 : 0 ≤ n
  size : n + (s.size : Int) ≤ (T.size : Int)
  small : (T.size : Int) < 1000
  byte : ∀ i, 0 ≤ i → i < (s.size : Int) → bt T (n + i) = bt s i
  fin : n + (s.size : Int) < (T.size : Int) → bt T (n + (s.size : Int)) = 41
theorem Emb.refl {s : ByteArray} (h : (s.size : Int) < 1000) : Emb s s 0 :=
  ⟨by omega, by omega, h, fun i _ _ => by rw [Int.zero_add], fun h => by omega⟩
theorem nx_in {s T : ByteArray} {n i : Int} (h : Emb s T n) (h0 : 0 ≤ i) (h1 : i < (s.size : Int)) : regex_reader_next.f T (n + i) = some (bt s i) := by
  have a1 := h.n0
  have a2 := h.size
  unfold regex_reader_next.f
  rw [if_neg (by omega), if_pos (by omega), if_pos (by omega), h.byte i h0 h1]
theorem nx_self {s : ByteArray} {i : Int} (h0 : 0 ≤ i) (h1 : i < (s.size : Int)) : regex_reader_next.f s i = some (bt s i) := by
  unfold regex_reader_next.f
  rw [if_neg (by omega), if_pos (by omega), if_pos (by omega)]
theorem nx_end {s : ByteArray} {i : Int} (h : i = (s.size : Int)) : regex_reader_next.f s i = some (-1) := by
  unfold regex_reader_next.f
  rw [if_pos h]
theorem nx_out {s T : ByteArray} {n i : Int} (h : Emb s T n) (hi : i = (s.size : Int)) : ∃ c, (c = -1 ∨ c = 41) ∧ regex_reader_next.f T (n + i) = some c := by
  subst hi
  have a1 := h.n0
  have a2 := h.size
  by_cases e : n + (s.size : Int) = (T.size : Int)
  · exact ⟨-1, .inl rfl, nx_end e⟩
  · refine ⟨41, .inr rfl, ?_⟩
    rw [nx_self (by omega) (by omega), h.fin (by omega)]
theorem ix_lt (c : UInt8) : ∀ l : List UInt8, Lib.indexByte l c < (l.length : Int)
  | [] => by simp [Lib.indexByte]
  | b :: l => by
    have := ix_lt c l
    simp only [Lib.indexByte, List.length_cons]
    split
    · omega
    · split <;> omega
theorem ix3 (x y z : UInt8) (c i : Int) (h : strings_IndexByte.f ⟨#[x, y, z]⟩ c = some i) : i < 3 := by
  unfold strings_IndexByte.f at h
  obtain rfl := Option.some.inj h
  exact ix_lt _ _
theorem ix_some (s : ByteArray) (c : Int) : ∃ i, strings_IndexByte.f s c = some i := ⟨_, rfl⟩
theorem digit_some (c : Int) (h0 : 0 ≤ c) (h1 : c ≤ 255) : ∃ d, regex_digit.f c = some d := by
  unfold regex_digit.f
  rw [if_pos ⟨h0, by omega⟩]
  obtain ⟨i, hi⟩ := ix_some ⟨#[48, 49, 50, 51, 52, 53, 54, 55, 56, 57, 97, 98, 99, 100, 101, 102, 65, 66, 67, 68, 69, 70]⟩ c
  rw [hi, Option.bind_some]
  by_cases h : i > 15
  · rw [if_pos h]; exact ⟨_, rfl⟩
  · rw [if_neg h]; exact ⟨_, rfl⟩
/-- What \\ and a sign behind it come to. -/
theorem esc_spec (e : Int) (h0 : 0 ≤ e) (h1 : e ≤ 255) : (∃ v, 0 ≤ v ∧ v < 256 ∧ ∀ s a, regex_reader_sign.esc s a e BYA = some (.ok (v, a + 2))) ∨ (∀ s a, regex_reader_sign.esc s a e BYA = some (.error a)) := by
  obtain ⟨i, hi⟩ := ix_some ⟨#[110, 116, 114]⟩ e
  obtain ⟨j, hj⟩ := ix_some BYA e
  have h3 := ix3 _ _ _ _ _ hi
  by_cases ci : i ≥ 0
  · refine .inl ⟨bt ⟨#[10, 9, 13]⟩ i, (bt_range _ _).1, by have := (bt_range ⟨#[10, 9, 13]⟩ i).2; omega, fun s a => ?_⟩
    unfold regex_reader_sign.esc
    rw [if_pos (by omega), hi, Option.bind_some, if_pos ci, if_pos h3]
  · by_cases cj : j ≥ 0
    · refine .inl ⟨e, h0, by omega, fun s a => ?_⟩
      unfold regex_reader_sign.esc
      rw [if_pos (by omega), hi, Option.bind_some, if_neg ci, hj, Option.bind_some, if_pos cj]
    · refine .inr fun s a => ?_
      unfold regex_reader_sign.esc
      rw [if_pos (by omega), hi, Option.bind_some, if_neg ci, hj, Option.bind_some, if_neg cj]
theorem esc_x (s : ByteArray) (a : Int) : regex_reader_sign.esc s a 120 BYA = some (.error a) := by
  rcases esc_spec 120 (by omega) (by omega) with ⟨v, _, _, h⟩ | h
  · have hh : regex_reader_sign.esc ⟨#[]⟩ 0 120 BYA = some (.error 0) := by rfl
    rw [h ⟨#[]⟩ 0] at hh
    cases hh
  · exact h s a
theorem esc_neg (s : ByteArray) (a : Int) : regex_reader_sign.esc s a (-1) BYA = some (.error a) := by
  unfold regex_reader_sign.esc
  rw [if_neg (by omega)]
theorem hex_spec (s : ByteArray) (a : Int) (ha : 0 ≤ a) : (regex_reader_sign.hex s a = some none) ∨ (∃ v, 0 ≤ v ∧ v < 256 ∧ a + 3 < (s.size : Int) ∧ ∀ T n, Emb s T n → regex_reader_sign.hex T (n + a) = some (some v)) := by
  by_cases h : a + 3 < (s.size : Int)
  · obtain ⟨d, hd⟩ := digit_some (bt s (a + 2)) (bt_range _ _).1 (bt_range _ _).2
    obtain ⟨d2, hd2⟩ := digit_some (bt s (a + 3)) (bt_range _ _).1 (bt_range _ _).2
    by_cases c1 : d ≥ 0
    · by_cases c2 : d2 ≥ 0
      · refine .inr ⟨(16 * d + d2) % 256, by omega, by omega, h, fun T n e => ?_⟩
        have a1 := e.n0
        have a2 := e.size
        unfold regex_reader_sign.hex
        rw [if_pos (by omega), show n + a + 2 = n + (a + 2) by omega, show n + a + 3 = n + (a + 3) by omega, e.byte _ (by omega) (by omega), e.byte _ (by omega) (by omega), hd, Option.bind_some, if_pos c1, hd2, Option.bind_some, if_pos c2]
      · left
        unfold regex_reader_sign.hex
        rw [if_pos h, hd, Option.bind_some, if_pos c1, hd2, Option.bind_some, if_neg c2]
    · left
      unfold regex_reader_sign.hex
      rw [if_pos h, hd, Option.bind_some, if_neg c1]
  · left
    unfold regex_reader_sign.hex
    rw [if_neg h]
theorem sign_spec (s : ByteArray) (a : Int) (nt : ByteArray) (hs : (s.size : Int) < 1000) (h0 : 0 ≤ a) (h1 : a ≤ (s.size : Int)) :
    (∃ v a', a < a' ∧ a' ≤ (s.size : Int) ∧ 0 ≤ v ∧ v < 256 ∧ ∀ T n, Emb s T n → regex_reader_sign.f T (n + a) nt BYA = some (.ok (v, n + a'))) ∨ (∃ e, regex_reader_sign.f s a nt BYA = some (.error e)) := by
  by_cases ha : a = (s.size : Int)
  · refine .inr ⟨a, ?_⟩
    unfold regex_reader_sign.f
    rw [if_pos (by omega), nx_end ha, Option.bind_some, if_pos (by omega)]
  · have ha : a < (s.size : Int) := by omega
    have hb := bt_range s a
    by_cases c1 : bt s a < 32
    · refine .inr ⟨a, ?_⟩
      unfold regex_reader_sign.f
      rw [if_pos (by omega), nx_self h0 ha, Option.bind_some, if_pos c1]
    by_cases c2 : bt s a > 126
    · refine .inr ⟨a, ?_⟩
      unfold regex_reader_sign.f
      rw [if_pos (by omega), nx_self h0 ha, Option.bind_some, if_neg c1, if_pos c2]
    by_cases c3 : bt s a ≠ 92
    · obtain ⟨i, hi⟩ := ix_some nt (bt s a)
      by_cases ci : i ≥ 0
      · refine .inr ⟨a, ?_⟩
        unfold regex_reader_sign.f
        rw [if_pos (by omega), nx_self h0 ha, Option.bind_some, if_neg c1, if_neg c2, if_pos c3, hi, Option.bind_some, if_pos ci]
      · refine .inl ⟨bt s a, a + 1, by omega, by omega, hb.1, by omega, fun T n e => ?_⟩
        have a3 := e.small
        unfold regex_reader_sign.f
        rw [if_pos (by omega), nx_in e h0 ha, Option.bind_some, if_neg c1, if_neg c2, if_pos c3, hi, Option.bind_some, if_neg ci, Int.add_assoc]
    · by_cases ha1 : a + 1 = (s.size : Int)
      · refine .inr ⟨a, ?_⟩
        unfold regex_reader_sign.f
        rw [if_pos (by omega), nx_self h0 ha, Option.bind_some, if_neg c1, if_neg c2, if_neg c3, nx_end ha1, Option.bind_some, if_neg (by omega), esc_neg]
      · have ha1 : a + 1 < (s.size : Int) := by omega
        have hb1 := bt_range s (a + 1)
        by_cases c4 : bt s (a + 1) = 120
        · rcases hex_spec s a h0 with hx | ⟨v, v0, v1, v2, hx⟩
          · refine .inr ⟨a, ?_⟩
            unfold regex_reader_sign.f
            rw [if_pos (by omega), nx_self h0 ha, Option.bind_some, if_neg c1, if_neg c2, if_neg c3, nx_self (by omega) ha1, Option.bind_some, if_pos c4, hx, Option.bind_some, c4]
            exact esc_x s a
          · refine .inl ⟨v, a + 4, by omega, by omega, v0, v1, fun T n e => ?_⟩
            have a3 := e.small
            unfold regex_reader_sign.f
            rw [if_pos (by omega), nx_in e h0 ha, Option.bind_some, if_neg c1, if_neg c2, if_neg c3, show n + a + 1 = n + (a + 1) by omega, nx_in e (by omega) ha1, Option.bind_some, if_pos c4, hx T n e, Option.bind_some]
            simp only
            rw [Int.add_assoc]
        · rcases esc_spec (bt s (a + 1)) hb1.1 hb1.2 with ⟨v, v0, v1, hx⟩ | hx
          · refine .inl ⟨v, a + 2, by omega, by omega, v0, v1, fun T n e => ?_⟩
            have a3 := e.small
            unfold regex_reader_sign.f
            rw [if_pos (by omega), nx_in e h0 ha, Option.bind_some, if_neg c1, if_neg c2, if_neg c3, show n + a + 1 = n + (a + 1) by omega, nx_in e (by omega) ha1, Option.bind_some, if_neg c4, hx, Int.add_assoc]
          · refine .inr ⟨a, ?_⟩
            unfold regex_reader_sign.f
            rw [if_pos (by omega), nx_self h0 ha, Option.bind_some, if_neg c1, if_neg c2, if_neg c3, nx_self (by omega) ha1, Option.bind_some, if_neg c4, hx]
/-! #### steps that may throw, from some number of rounds on -/
theorem Ev.ex_ok {α β : Type} {g : Nat → Option (Except Int α)} {f : Nat → α → Option (Except Int β)} {q : α} {r : Except Int β} (h : Ev g (.ok q)) (hf : Ev (fun k => f k q) r) : Ev (fun k => Ex (g k) (f k)) r := by
  obtain ⟨K, h⟩ := h
  obtain ⟨L, hf⟩ := hf
  refine ⟨K + L, fun k hk => ?_⟩
  have h1 := h k (by omega)
  have h2 := hf k (by omega)
  simp only [Ex, h1, Option.bind_some]
  exact h2
theorem Ev.ex_err {α β : Type} {g : Nat → Option (Except Int α)} {f : Nat → α → Option (Except Int β)} {e : Int} (h : Ev g (.error e)) : Ev (fun k => Ex (g k) (f k)) (.error e) := by
  obtain ⟨K, h⟩ := h
  refine ⟨K, fun k hk => ?_⟩
  have h1 := h k hk
  simp only [Ex, h1, Option.bind_some]
theorem Ev.const {α : Type} {o : Option α} {r : α} (h : o = some r) : Ev (fun _ => o) r := ⟨0, fun _ _ => h⟩
theorem Ev.uniq {α : Type} {g : Nat → Option α} {r r' : α} (h : Ev g r) (h' : Ev g r') : r = r' := by
  obtain ⟨K, h⟩ := h
  obtain ⟨L, h'⟩ := h'
  exact Option.some.inj ((h (K + L) (by omega)).symm.trans (h' (K + L) (by omega)))
theorem span_ev (d : Nat) : ∀ (b e x0 x1 x2 x3 : Int), 0 ≤ b → e < 256 → (e + 1 - b) ≤ (d : Int) → ∃ r, Ev (fun k => bytes_Span.l0 k x0 x1 x2 x3 b e) r := by
  induction d with
  | zero =>
    intro b e x0 x1 x2 x3 h0 h1 h2
    refine ⟨(x0, x1, x2, x3), .step (f := fun _ => some (x0, x1, x2, x3)) (fun k => ?_) (.now _)⟩
    rw [bytes_Span.l0, if_neg (by omega)]
  | succ d ih =>
    intro b e x0 x1 x2 x3 h0 h1 h2
    by_cases h : b ≤ e
    · obtain ⟨r, hr⟩ := ih (b + 1) e (bits .or .u64 x0 (bytes_One.word b 0)) (bits .or .u64 x1 (bytes_One.word b 1)) (bits .or .u64 x2 (bytes_One.word b 2)) (bits .or .u64 x3 (bytes_One.word b 3)) (by omega) h1 (by omega)
      refine ⟨r, .step (fun k => ?_) hr⟩
      rw [bytes_Span.l0, if_pos h, bytes_One.f, if_pos ⟨h0, by omega⟩]
      rfl
    · refine ⟨(x0, x1, x2, x3), .step (f := fun _ => some (x0, x1, x2, x3)) (fun k => ?_) (.now _)⟩
      rw [bytes_Span.l0, if_neg h]
theorem span_f (a b : Int) (h0 : 0 ≤ a) (h1 : a < 256) (h2 : 0 ≤ b) (h3 : b < 256) : ∃ r, Ev (fun k => bytes_Span.f k a b) r := by
  obtain ⟨r, hr⟩ := span_ev 256 a b 0 0 0 0 h0 h3 (by omega)
  refine ⟨r, .congr (fun k => ?_) hr⟩
  rw [bytes_Span.f, if_pos ⟨h0, h1, h2, h3⟩]
/-! #### a class -/
set_option maxRecDepth 100000 in
theorem class_l0 (s : ByteArray) (hs : (s.size : Int) < 1000) (d : Nat) : ∀ (a x0 x1 x2 x3 : Int) (first : Bool), 0 ≤ a → a ≤ (s.size : Int) → (s.size : Int) - a ≤ d →
    (∃ y a', a ≤ a' ∧ a' < (s.size : Int) ∧ ∀ T n, Emb s T n → Ev (fun k => regex_reader_class.l0 k T x0 x1 x2 x3 first (n + a)) (.ok (y, n + a'))) ∨ (∃ e, Ev (fun k => regex_reader_class.l0 k s x0 x1 x2 x3 first a) (.error e)) := by
  induction d with
  | zero =>
    intro a x0 x1 x2 x3 first h0 h1 h2
    refine .inr ⟨a, .step (f := fun _ => some (.error a)) (fun k => ?_) (.now _)⟩
    rw [regex_reader_class.l0, nx_end (by omega), Option.bind_some, if_neg (fun h => by omega), if_pos (by omega)]
  | succ d ih =>
    intro a x0 x1 x2 x3 first h0 h1 h2
    by_cases ha : a = (s.size : Int)
    · refine .inr ⟨a, .step (f := fun _ => some (.error a)) (fun k => ?_) (.now _)⟩
      rw [regex_reader_class.l0, nx_end ha, Option.bind_some, if_neg (fun h => by omega), if_pos (by omega)]
    have ha : a < (s.size : Int) := by omega
    have hb := bt_range s a
    by_cases c1 : first = false ∧ bt s a = 93
    · refine .inl ⟨(x0, x1, x2, x3), a, by omega, ha, fun T n e => .step (f := fun _ => some (.ok ((x0, x1, x2, x3), n + a))) (fun k => ?_) (.now _)⟩
      rw [regex_reader_class.l0, nx_in e h0 ha, Option.bind_some, if_pos c1]
    -- the first byte
    rcases (sign_spec s a ⟨#[91, 93, 94, 45, 47]⟩ hs h0 h1).symm with ⟨e, he⟩ | ⟨v, a1, l1, l2, v0, v1, hv⟩
    · refine .inr ⟨e, .step (f := fun _ => some (.error e)) (fun k => ?_) (.now _)⟩
      rw [regex_reader_class.l0, nx_self h0 ha, Option.bind_some, if_neg c1, if_neg (by omega)]
      have he' : regex_reader_sign.f s a ⟨#[91, 93, 94, 45, 47]⟩ ⟨#[46, 42, 43, 63, 40, 41, 91, 93, 124, 92, 47, 45, 94]⟩ = some (.error e) := he
      simp only [he', Ex, Option.bind_some]
    -- how it goes on behind the first byte, in any text
    have open1 : ∀ T n, Emb s T n → ∀ c2, regex_reader_next.f T (n + a1) = some c2 → ∀ k, regex_reader_class.l0 (k + 1) T x0 x1 x2 x3 first (n + a) =
        Ex (if c2 = 45 then regex_reader_sign.f T (n + a1 + 1) ⟨#[91, 93, 94, 45, 47]⟩ BYA else some (.ok (v, n + a1))) fun q2 =>
          if v > q2.1 then some (.error (n + a)) else ((bytes_Span.f k v q2.1).bind fun o => (bytes_Or.f x0 x1 x2 x3 o.1 o.2.1 o.2.2.1 o.2.2.2).bind fun r => regex_reader_class.l0 k T r.1 r.2.1 r.2.2.1 r.2.2.2 false q2.2) := by
      intro T n e c2 hc2 k
      have hv' : regex_reader_sign.f T (n + a) ⟨#[91, 93, 94, 45, 47]⟩ ⟨#[46, 42, 43, 63, 40, 41, 91, 93, 124, 92, 47, 45, 94]⟩ = some (.ok (v, n + a1)) := hv T n e
      rw [regex_reader_class.l0, nx_in e h0 ha, Option.bind_some, if_neg c1, if_neg (by omega), hv']
      simp only [Ex, Option.bind_some, hc2]
      rfl
    -- behind the second
    have goon : ∀ v2 a2, a < a2 → a2 ≤ (s.size : Int) → 0 ≤ v2 → v2 < 256 → ∀ c2 : Int → Int → Prop, (∀ T n, Emb s T n → ∀ k, regex_reader_class.l0 (k + 1) T x0 x1 x2 x3 first (n + a) =
          if v > v2 then some (.error (n + a)) else ((bytes_Span.f k v v2).bind fun o => (bytes_Or.f x0 x1 x2 x3 o.1 o.2.1 o.2.2.1 o.2.2.2).bind fun r => regex_reader_class.l0 k T r.1 r.2.1 r.2.2.1 r.2.2.2 false (n + a2))) →
        (∃ y a', a ≤ a' ∧ a' < (s.size : Int) ∧ ∀ T n, Emb s T n → Ev (fun k => regex_reader_class.l0 k T x0 x1 x2 x3 first (n + a)) (.ok (y, n + a'))) ∨ (∃ e, Ev (fun k => regex_reader_class.l0 k s x0 x1 x2 x3 first a) (.error e)) := by
      intro v2 a2 l3 l4 w0 w1 _ hgo
      by_cases c5 : v > v2
      · refine .inr ⟨0 + a, .step (f := fun _ => some (.error (0 + a))) (fun k => ?_) (.now _)⟩
        have := hgo s 0 (Emb.refl hs) k
        rw [if_pos c5, Int.zero_add] at this
        rw [this, Int.zero_add]
      · obtain ⟨o, ho⟩ := span_f v v2 v0 v1 w0 w1
        rcases ih a2 (bits .or .u64 x0 o.1) (bits .or .u64 x1 o.2.1) (bits .or .u64 x2 o.2.2.1) (bits .or .u64 x3 o.2.2.2) false (by omega) l4 (by omega) with ⟨y, a', m1, m2, hy⟩ | ⟨e, he⟩
        · refine .inl ⟨y, a', by omega, m2, fun T n e => .step (fun k => hgo T n e k) ?_⟩
          refine Ev.congr (fun k => if_neg c5) (Ev.bind ho ?_)
          exact hy T n e
        · refine .inr ⟨e, .step (f := fun k => if v > v2 then some (.error (0 + a)) else ((bytes_Span.f k v v2).bind fun o => (bytes_Or.f x0 x1 x2 x3 o.1 o.2.1 o.2.2.1 o.2.2.2).bind fun r => regex_reader_class.l0 k s r.1 r.2.1 r.2.2.1 r.2.2.2 false (0 + a2))) (fun k => ?_) ?_⟩
          · have := hgo s 0 (Emb.refl hs) k
            rw [Int.zero_add] at this
            simp only [Int.zero_add] at this ⊢
            exact this
          · refine Ev.congr (fun k => if_neg c5) (Ev.bind ho ?_)
            rw [Int.zero_add]
            exact he
    by_cases c3 : a1 < (s.size : Int) ∧ bt s a1 = 45
    · rcases sign_spec s (a1 + 1) ⟨#[91, 93, 94, 45, 47]⟩ hs (by omega) (by omega) with ⟨v2, a2, m1, m2, w0, w1, hv2⟩ | ⟨e, he⟩
      · refine goon v2 a2 (by omega) m2 w0 w1 (fun _ _ => True) (fun T n e k => ?_)
        rw [open1 T n e 45 (by rw [nx_in e (by omega) c3.1, c3.2]) k, if_pos rfl, show n + a1 + 1 = n + (a1 + 1) by omega, hv2 T n e]
        rfl
      · refine .inr ⟨e, .step (f := fun _ => some (.error e)) (fun k => ?_) (.now _)⟩
        have := open1 s 0 (Emb.refl hs) 45 (by rw [nx_in (Emb.refl hs) (by omega) c3.1, c3.2]) k
        rw [if_pos rfl, Int.zero_add, Int.zero_add, he] at this
        rw [this]
        rfl
    · refine goon v a1 l1 l2 v0 v1 (fun _ _ => True) (fun T n e k => ?_)
      obtain ⟨c2, hc2, hne⟩ : ∃ c2, regex_reader_next.f T (n + a1) = some c2 ∧ c2 ≠ 45 := by
        by_cases hl : a1 < (s.size : Int)
        · exact ⟨_, nx_in e (by omega) hl, fun h => c3 ⟨hl, h⟩⟩
        · obtain ⟨c, hc, h⟩ := nx_out e (i := a1) (by omega)
          exact ⟨c, h, by omega⟩
      rw [open1 T n e c2 hc2 k, if_neg hne]
      rfl
set_option maxRecDepth 100000 in
theorem class_spec (s : ByteArray) (hs : (s.size : Int) < 1000) (a : Int) (h0 : 0 ≤ a) (h1 : a < (s.size : Int)) :
    (∃ y a', a < a' ∧ a' ≤ (s.size : Int) ∧ ∀ T n, Emb s T n → Ev (fun k => regex_reader_class.f k T (n + a)) (.ok (y, n + a'))) ∨ (∃ e, Ev (fun k => regex_reader_class.f k s a) (.error e)) := by
  by_cases ha : a + 1 = (s.size : Int)
  · refine .inr ⟨a + 1, .congr (f := fun k => Ex (regex_reader_class.l0 k s 0 0 0 0 true (a + 1)) fun x => regex_reader_class.fin a false x) (fun k => ?_) (Ev.ex_err ?_)⟩
    · unfold regex_reader_class.f
      rw [if_pos (by omega), nx_end ha, Option.bind_some, if_neg (by omega), decide_eq_false (by omega)]
    · rcases class_l0 s hs 0 (a + 1) 0 0 0 0 true (by omega) (by omega) (by omega) with ⟨_, a', m1, m2, _⟩ | ⟨e, he⟩
      · omega
      · refine .step (f := fun _ => some (.error (a + 1))) (fun k => ?_) (.now _)
        rw [regex_reader_class.l0, nx_end ha, Option.bind_some, if_neg (fun h => by omega), if_pos (by omega)]
  have ha : a + 1 < (s.size : Int) := by omega
  have key : ∀ (st : Int) (nt : Bool), a < st → st ≤ (s.size : Int) → (∀ T n, Emb s T n → ∀ k, regex_reader_class.f k T (n + a) = Ex (regex_reader_class.l0 k T 0 0 0 0 true (n + st)) fun x => regex_reader_class.fin (n + a) nt x) →
      (∃ y a', a < a' ∧ a' ≤ (s.size : Int) ∧ ∀ T n, Emb s T n → Ev (fun k => regex_reader_class.f k T (n + a)) (.ok (y, n + a'))) ∨ (∃ e, Ev (fun k => regex_reader_class.f k s a) (.error e)) := by
    intro st nt l1 l2 hgo
    have hgo0 : ∀ k, regex_reader_class.f k s a = Ex (regex_reader_class.l0 k s 0 0 0 0 true st) fun x => regex_reader_class.fin a nt x := by
      intro k
      have := hgo s 0 (Emb.refl hs) k
      simp only [Int.zero_add] at this
      exact this
    rcases class_l0 s hs (s.size) st 0 0 0 0 true (by omega) l2 (by omega) with ⟨y, a', m1, m2, hy⟩ | ⟨e, he⟩
    · -- what the end makes of it
      obtain ⟨z, hz⟩ : ∃ z, (if nt = true then bytes_Not.f y.1 y.2.1 y.2.2.1 y.2.2.2 else some y) = some z := by
        cases nt
        · exact ⟨y, by rw [if_neg (by decide)]⟩
        · exact ⟨_, by rw [if_pos rfl]; rfl⟩
      by_cases c : z.1 = 0 ∧ z.2.1 = 0 ∧ z.2.2.1 = 0 ∧ z.2.2.2 = 0
      · refine .inr ⟨a, .congr hgo0 ?_⟩
        have := hy s 0 (Emb.refl hs)
        simp only [Int.zero_add] at this
        refine Ev.ex_ok this (Ev.const ?_)
        show (if nt = true then bytes_Not.f y.1 y.2.1 y.2.2.1 y.2.2.2 else some y).bind _ = _
        rw [hz, Option.bind_some, if_pos c]
      · refine .inl ⟨z, a' + 1, by omega, by omega, fun T n e => .congr (hgo T n e) (Ev.ex_ok (hy T n e) (Ev.const ?_))⟩
        show (if nt = true then bytes_Not.f y.1 y.2.1 y.2.2.1 y.2.2.2 else some y).bind _ = _
        rw [hz, Option.bind_some, if_neg c, Int.add_assoc]
    · exact .inr ⟨e, .congr hgo0 (Ev.ex_err he)⟩
  by_cases c : bt s (a + 1) = 94
  · refine key (a + 2) true (by omega) (by omega) (fun T n e k => ?_)
    have a3 := e.small
    unfold regex_reader_class.f
    rw [if_pos (by omega), show n + a + 1 = n + (a + 1) by omega, nx_in e (by omega) ha, Option.bind_some, if_pos c, show n + a + 2 = n + (a + 2) by omega, decide_eq_true c]
  · refine key (a + 1) false (by omega) (by omega) (fun T n e k => ?_)
    have a3 := e.small
    unfold regex_reader_class.f
    rw [if_pos (by omega), show n + a + 1 = n + (a + 1) by omega, nx_in e (by omega) ha, Option.bind_some, if_neg c, decide_eq_false c]
/-! #### a reader's step -/
abbrev RF := Nat → ByteArray → Int → List S32 → Option (Except Int (Int × List S32))
/-- From a on F reads s to its end or to a place, where it has put d behind what there was, and so in any text that holds s; or it throws. -/
def Spec (F : RF) (lo : Int) (s : ByteArray) (a : Int) : Prop :=
  (∃ a' d, a + lo ≤ a' ∧ a' ≤ (s.size : Int) ∧ ((d : List S32).length : Int) + lo ≤ 3 * (a' - a) ∧ ∀ T n, Emb s T n → ∀ out : List S32, (out.length : Int) + 3 * ((s.size : Int) - a) ≤ 100000 → Ev (fun k => F k T (n + a) out) (.ok (n + a', out ++ d)))
  ∨ (∃ e, ∀ out : List S32, (out.length : Int) + 3 * ((s.size : Int) - a) ≤ 100000 → Ev (fun k => F k s a out) (.error e))
theorem put_f (out : List S32) (op x0 x1 x2 x3 : Int) (h : (out.length : Int) ≤ 100000) : regex_reader_put.f out op x0 x1 x2 x3 = some (out ++ [(⟨op, ⟨x0, x1, x2, x3⟩⟩ : S32)]) := by
  unfold regex_reader_put.f
  rw [if_pos (by omega)]
theorem Ev.one {α : Type} {g : Nat → Option α} {r : α} (h : ∀ k, g (k + 1) = some r) : Ev g r := .step (f := fun _ => some r) h (.now _)
/-- One behind the other. -/
theorem spec_seq {F G H : RF} {s : ByteArray} {a : Int} (hs : (s.size : Int) < 1000) (hF : ∀ k T p out, F (k + 1) T p out = Ex (G k T p out) fun r => H k T r.1 r.2) (h1 : Spec G 1 s a)
    (h2 : ∀ a', a < a' → a' ≤ (s.size : Int) → Spec H 0 s a') : Spec F 1 s a := by
  rcases h1 with ⟨a1, d1, l1, l2, l3, hG⟩ | ⟨e, he⟩
  · rcases h2 a1 (by omega) l2 with ⟨a2, d2, m1, m2, m3, hH⟩ | ⟨e, he⟩
    · refine .inl ⟨a2, d1 ++ d2, by omega, m2, by rw [List.length_append]; omega, fun T n em out ho => .step (fun k => hF k T (n + a) out) (Ev.ex_ok (hG T n em out ho) ?_)⟩
      have := hH T n em (out ++ d1) (by rw [List.length_append]; omega)
      rw [List.append_assoc] at this
      exact this
    · refine .inr ⟨e, fun out ho => .step (fun k => hF k s a out) (Ev.ex_ok (q := (a1, out ++ d1)) ?_ (he (out ++ d1) (by rw [List.length_append]; omega)))⟩
      have := hG s 0 (Emb.refl hs) out ho
      simp only [Int.zero_add] at this
      exact this
  · exact .inr ⟨e, fun out ho => .step (fun k => hF k s a out) (Ev.ex_err (he out ho))⟩
/-- One, a cell, and what is behind it. -/
theorem spec_cell {G H : RF} {s : ByteArray} {a op : Int} (hs : (s.size : Int) < 1000) (h1 : Spec G 1 s a) (h2 : ∀ a', a < a' → a' ≤ (s.size : Int) → Spec H 0 s a') :
    Spec (fun k T p out => Ex (G k T p out) fun r => (regex_reader_put.f r.2 op 0 0 0 0).bind fun o => H k T r.1 o) 0 s a := by
  rcases h1 with ⟨a1, d1, l1, l2, l3, hG⟩ | ⟨e, he⟩
  · rcases h2 a1 (by omega) l2 with ⟨a2, d2, m1, m2, m3, hH⟩ | ⟨e, he⟩
    · refine .inl ⟨a2, d1 ++ (⟨op, ⟨0, 0, 0, 0⟩⟩ : S32) :: d2, by omega, m2, by simp only [List.length_append, List.length_cons]; omega, fun T n em out ho => Ev.ex_ok (hG T n em out ho) ?_⟩
      have := hH T n em (out ++ d1 ++ [(⟨op, ⟨0, 0, 0, 0⟩⟩ : S32)]) (by simp only [List.length_append, List.length_singleton]; omega)
      refine .congr (fun k => ?_) (by simpa using this)
      show (regex_reader_put.f (out ++ d1) op 0 0 0 0).bind _ = _
      rw [put_f _ _ _ _ _ _ (by rw [List.length_append]; omega), Option.bind_some, List.append_assoc]
    · refine .inr ⟨e, fun out ho => Ev.ex_ok (q := (a1, out ++ d1)) ?_ ?_⟩
      · have := hG s 0 (Emb.refl hs) out ho
        simp only [Int.zero_add] at this
        exact this
      · refine .congr (fun k => ?_) (he (out ++ d1 ++ [(⟨op, ⟨0, 0, 0, 0⟩⟩ : S32)]) (by simp only [List.length_append, List.length_singleton]; omega))
        show (regex_reader_put.f (out ++ d1) op 0 0 0 0).bind _ = _
        rw [put_f _ _ _ _ _ _ (by rw [List.length_append]; omega), Option.bind_some]
  · exact .inr ⟨e, fun out ho => Ev.ex_err (he out ho)⟩
/-- It stops where it stands. -/
theorem spec_stop {F : RF} {s : ByteArray} {a : Int} (h0 : 0 ≤ a) (ha : a ≤ (s.size : Int)) (hF : ∀ T n, Emb s T n → ∀ k out, F (k + 1) T (n + a) out = some (.ok (n + a, out))) : Spec F 0 s a :=
  .inl ⟨a, [], by omega, ha, by simp, fun T n em out _ => .step (f := fun _ => some (.ok (n + a, out ++ []))) (fun k => by rw [List.append_nil]; exact hF T n em k out) (.now _)⟩
theorem spec_err {F : RF} {lo : Int} {s : ByteArray} {a e : Int} (hF : ∀ k out, F (k + 1) s a out = some (.error e)) : Spec F lo s a :=
  .inr ⟨e, fun out _ => .step (f := fun _ => some (.error e)) (fun k => hF k out) (.now _)⟩
theorem ix_stop (c : Int) (h : c = -1 ∨ c = 41) : strings_IndexByte.f ⟨#[42, 43, 63]⟩ (if c < 0 then 0 else c) = some (-1) := by
  rcases h with rfl | rfl <;> decide +kernel
theorem piece_l0 (s : ByteArray) (hs : (s.size : Int) < 1000) (d : Nat) : ∀ a, 0 ≤ a → a ≤ (s.size : Int) → (s.size : Int) - a ≤ d → Spec regex_reader_piece.l0 0 s a := by
  induction d with
  | zero =>
    intro a h0 h1 h2
    refine spec_stop h0 h1 (fun T n em k out => ?_)
    obtain ⟨c, hc, hx⟩ := nx_out em (i := a) (by omega)
    rw [regex_reader_piece.l0, hx, Option.bind_some, ix_stop c hc, Option.bind_some, if_pos (by omega)]
  | succ d ih =>
    intro a h0 h1 h2
    by_cases ha : a = (s.size : Int)
    · refine spec_stop h0 h1 (fun T n em k out => ?_)
      obtain ⟨c, hc, hx⟩ := nx_out em (i := a) ha
      rw [regex_reader_piece.l0, hx, Option.bind_some, ix_stop c hc, Option.bind_some, if_pos (by omega)]
    have ha : a < (s.size : Int) := by omega
    have hb := bt_range s a
    obtain ⟨i, hi⟩ := ix_some ⟨#[42, 43, 63]⟩ (if bt s a < 0 then 0 else bt s a)
    have i3 : i < 3 := by
      rw [if_neg (by omega)] at hi
      exact ix3 _ _ _ _ _ hi
    by_cases c : i < 0
    · refine spec_stop h0 h1 (fun T n em k out => ?_)
      rw [regex_reader_piece.l0, nx_in em h0 ha, Option.bind_some, hi, Option.bind_some, if_pos c]
    · rcases ih (a + 1) (by omega) (by omega) (by omega) with ⟨a2, d2, m1, m2, m3, hH⟩ | ⟨e, he⟩
      · refine .inl ⟨a2, (⟨i + 5, ⟨0, 0, 0, 0⟩⟩ : S32) :: d2, by omega, m2, by simp only [List.length_cons]; omega, fun T n em out ho => ?_⟩
        have := hH T n em (out ++ [(⟨i + 5, ⟨0, 0, 0, 0⟩⟩ : S32)]) (by simp only [List.length_append, List.length_singleton]; omega)
        rw [List.append_assoc, List.singleton_append] at this
        refine .step (fun k => ?_) this
        rw [regex_reader_piece.l0, nx_in em h0 ha, Option.bind_some, hi, Option.bind_some, if_neg c, if_pos i3, put_f _ _ _ _ _ _ (by omega), Option.bind_some, Int.add_assoc]
      · refine .inr ⟨e, fun out ho => .step (fun k => ?_) (he (out ++ [(⟨i + 5, ⟨0, 0, 0, 0⟩⟩ : S32)]) (by simp only [List.length_append, List.length_singleton]; omega))⟩
        rw [regex_reader_piece.l0, nx_self h0 ha, Option.bind_some, hi, Option.bind_some, if_neg c, if_pos i3, put_f _ _ _ _ _ _ (by omega), Option.bind_some]
/-- A cell of a set. -/
theorem spec_set {s : ByteArray} {a a1 : Int} {x : Int × Int × Int × Int} (l1 : a < a1) (l2 : a1 ≤ (s.size : Int)) (F : RF)
    (hF : ∀ T n, Emb s T n → ∀ out, Ev (fun k => F k T (n + a) out) (.ok (n + a1, out ++ [(⟨1, ⟨x.1, x.2.1, x.2.2.1, x.2.2.2⟩⟩ : S32)])) ∨ 100000 < (out.length : Int)) : Spec F 1 s a := by
  refine .inl ⟨a1, [(⟨1, ⟨x.1, x.2.1, x.2.2.1, x.2.2.2⟩⟩ : S32)], by omega, l2, by simp only [List.length_singleton]; omega, fun T n em out ho => ?_⟩
  rcases hF T n em out with h | h
  · exact h
  · exfalso; omega
theorem one_f (b : Int) (h0 : 0 ≤ b) (h1 : b < 256) : ∃ x, bytes_One.f b = some x := ⟨_, by unfold bytes_One.f; rw [if_pos ⟨h0, h1⟩]⟩
theorem must_f (T : ByteArray) (p : Int) (c : Int) (hp : p < 1000) (h : regex_reader_next.f T p = some c) : regex_reader_must.f T p 41 = some (if c = 41 then .ok (p + 1) else .error p) := by
  unfold regex_reader_must.f
  rw [if_pos ⟨by omega, by omega, by omega⟩, h, Option.bind_some]
  by_cases e : c = 41
  · rw [if_pos e, if_pos e]
  · rw [if_neg e, if_neg e]
set_option maxRecDepth 100000 in
theorem atom_spec (s : ByteArray) (hs : (s.size : Int) < 1000) (a : Int) (h0 : 0 ≤ a) (h1 : a ≤ (s.size : Int)) (hr : a < (s.size : Int) → Spec regex_reader_rows.f 1 s (a + 1)) : Spec regex_reader_atom.f 1 s a := by
  have sgn : ∀ e, regex_reader_sign.f s a ⟨#[46, 42, 43, 63, 40, 41, 91, 93, 124, 92, 47]⟩ BYA = some (.error e) → ∀ c, regex_reader_next.f s a = some c → c ≠ 40 → c ≠ 46 → c ≠ 91 → Spec regex_reader_atom.f 1 s a := by
    intro e he c hc c1 c2 c3
    refine spec_err (e := e) (fun k out => ?_)
    have he' : regex_reader_sign.f s a ⟨#[46, 42, 43, 63, 40, 41, 91, 93, 124, 92, 47]⟩ ⟨#[46, 42, 43, 63, 40, 41, 91, 93, 124, 92, 47, 45, 94]⟩ = some (.error e) := he
    rw [regex_reader_atom.f, hc, Option.bind_some, if_neg c1, if_neg c2, if_neg c3, he']
    rfl
  by_cases ha : a = (s.size : Int)
  · rcases sign_spec s a ⟨#[46, 42, 43, 63, 40, 41, 91, 93, 124, 92, 47]⟩ hs h0 h1 with ⟨v, a1, l1, l2, _⟩ | ⟨e, he⟩
    · omega
    · exact sgn e he (-1) (nx_end ha) (by omega) (by omega) (by omega)
  have ha : a < (s.size : Int) := by omega
  have hb := bt_range s a
  by_cases c1 : bt s a = 40
  · -- a group
    by_cases g : a + 1 < (s.size : Int) ∧ bt s (a + 1) = 41
    · refine .inl ⟨a + 2, [(⟨2, ⟨0, 0, 0, 0⟩⟩ : S32)], by omega, by omega, by simp only [List.length_singleton]; omega, fun T n em out ho => ?_⟩
      have a2 := em.size
      have a3 := em.small
      refine .step (f := fun _ => some (.ok (n + (a + 2), out ++ [(⟨2, ⟨0, 0, 0, 0⟩⟩ : S32)]))) (fun k => ?_) (.now _)
      rw [regex_reader_atom.f, nx_in em h0 ha, Option.bind_some, if_pos c1, show n + a + 1 = n + (a + 1) by omega, nx_in em (by omega) g.1, Option.bind_some, if_pos g.2, put_f _ _ _ _ _ _ (by omega)]
      have hm := must_f T (n + (a + 1)) _ (by omega) (nx_in em (by omega) g.1)
      rw [if_pos g.2] at hm
      simp only [Ex, Option.bind_some, hm]
      rw [show n + (a + 1) + 1 = n + (a + 2) by omega]
    · rcases hr ha with ⟨a1, d1, l1, l2, l3, hG⟩ | ⟨e, he⟩
      · have go : ∀ T n, Emb s T n → ∀ k out, regex_reader_atom.f (k + 1) T (n + a) out = Ex (regex_reader_rows.f k T (n + (a + 1)) out) fun r => Ex (regex_reader_must.f T r.1 41) fun a2 => some (.ok (a2, r.2)) := by
          intro T n em k out
          have g1 : a + 1 < (s.size : Int) := by omega
          rw [regex_reader_atom.f, nx_in em h0 ha, Option.bind_some, if_pos c1, show n + a + 1 = n + (a + 1) by omega, nx_in em (by omega) g1, Option.bind_some, if_neg (fun h => g ⟨g1, h⟩)]
        by_cases m : a1 < (s.size : Int) ∧ bt s a1 = 41
        · refine .inl ⟨a1 + 1, d1, by omega, by omega, by omega, fun T n em out ho => .step (fun k => go T n em k out) (Ev.ex_ok (hG T n em out (by omega)) (Ev.const ?_))⟩
          have a2 := em.size
          have a3 := em.small
          have hm := must_f T (n + a1) _ (by omega) (nx_in em (by omega) m.1)
          rw [if_pos m.2] at hm
          simp only [Ex, hm, Option.bind_some]
          rw [Int.add_assoc]
        · obtain ⟨c, hc, hne⟩ : ∃ c, regex_reader_next.f s a1 = some c ∧ c ≠ 41 := by
            by_cases hl : a1 < (s.size : Int)
            · exact ⟨_, nx_self (by omega) hl, fun h => m ⟨hl, h⟩⟩
            · exact ⟨-1, nx_end (by omega), by omega⟩
          refine .inr ⟨a1, fun out ho => .step (fun k => ?_) (Ev.ex_ok (q := (a1, out ++ d1)) (g := fun k => regex_reader_rows.f k s (a + 1) out) (f := fun k r => Ex (regex_reader_must.f s r.1 41) fun a2 => some (.ok (a2, r.2))) ?_ (Ev.const ?_))⟩
          · have := go s 0 (Emb.refl hs) k out
            simp only [Int.zero_add] at this
            exact this
          · have := hG s 0 (Emb.refl hs) out (by omega)
            simp only [Int.zero_add] at this
            exact this
          · have hm := must_f s a1 _ (by omega) hc
            rw [if_neg hne] at hm
            simp only [Ex, hm, Option.bind_some]
      · refine .inr ⟨e, fun out ho => .step (fun k => ?_) (Ev.ex_err (g := fun k => regex_reader_rows.f k s (a + 1) out) (f := fun k r => Ex (regex_reader_must.f s r.1 41) fun a2 => some (.ok (a2, r.2))) (he out (by omega)))⟩
        obtain ⟨c, hc, hne⟩ : ∃ c, regex_reader_next.f s (a + 1) = some c ∧ c ≠ 41 := by
          by_cases hl : a + 1 < (s.size : Int)
          · exact ⟨_, nx_self (by omega) hl, fun h => g ⟨hl, h⟩⟩
          · exact ⟨-1, nx_end (by omega), by omega⟩
        rw [regex_reader_atom.f, nx_self h0 ha, Option.bind_some, if_pos c1, hc, Option.bind_some, if_neg hne]
  by_cases c2 : bt s a = 46
  · obtain ⟨q, hq⟩ := one_f 10 (by omega) (by omega)
    refine spec_set (x := (bits .xor .u64 IntKind.u64.max q.1, bits .xor .u64 IntKind.u64.max q.2.1, bits .xor .u64 IntKind.u64.max q.2.2.1, bits .xor .u64 IntKind.u64.max q.2.2.2)) (a1 := a + 1) (by omega) (by omega) _ (fun T n em out => ?_)
    by_cases hl : (out.length : Int) ≤ 100000
    · refine .inl (Ev.one fun k => ?_)
      rw [regex_reader_atom.f, nx_in em h0 ha, Option.bind_some, if_neg c1, if_pos c2, hq, Option.bind_some, bytes_Not.f, Option.bind_some, put_f _ _ _ _ _ _ hl, Option.bind_some, Int.add_assoc]
    · exact .inr (by omega)
  by_cases c3 : bt s a = 91
  · rcases class_spec s hs a h0 ha with ⟨y, a1, l1, l2, hy⟩ | ⟨e, he⟩
    · refine spec_set (x := y) (a1 := a1) l1 l2 _ (fun T n em out => ?_)
      by_cases hl : (out.length : Int) ≤ 100000
      · refine .inl (.step (fun k => ?_) (Ev.ex_ok (g := fun k => regex_reader_class.f k T (n + a)) (f := fun _ q => (regex_reader_put.f out 1 q.1.1 q.1.2.1 q.1.2.2.1 q.1.2.2.2).bind fun o => some (.ok (q.2, o))) (hy T n em) (Ev.const ?_)))
        · rw [regex_reader_atom.f, nx_in em h0 ha, Option.bind_some, if_neg c1, if_neg c2, if_pos c3]
        · simp only [put_f _ _ _ _ _ _ hl, Option.bind_some]
      · exact .inr (by omega)
    · refine .inr ⟨e, fun out ho => .step (fun k => ?_) (Ev.ex_err (g := fun k => regex_reader_class.f k s a) (f := fun _ q => (regex_reader_put.f out 1 q.1.1 q.1.2.1 q.1.2.2.1 q.1.2.2.2).bind fun o => some (.ok (q.2, o))) he)⟩
      rw [regex_reader_atom.f, nx_self h0 ha, Option.bind_some, if_neg c1, if_neg c2, if_pos c3]
  rcases sign_spec s a ⟨#[46, 42, 43, 63, 40, 41, 91, 93, 124, 92, 47]⟩ hs h0 h1 with ⟨v, a1, l1, l2, v0, v1, hv⟩ | ⟨e, he⟩
  · obtain ⟨q, hq⟩ := one_f v v0 v1
    refine spec_set (x := q) (a1 := a1) l1 l2 _ (fun T n em out => ?_)
    by_cases hl : (out.length : Int) ≤ 100000
    · refine .inl (Ev.one fun k => ?_)
      have hv' : regex_reader_sign.f T (n + a) ⟨#[46, 42, 43, 63, 40, 41, 91, 93, 124, 92, 47]⟩ ⟨#[46, 42, 43, 63, 40, 41, 91, 93, 124, 92, 47, 45, 94]⟩ = some (.ok (v, n + a1)) := hv T n em
      rw [regex_reader_atom.f, nx_in em h0 ha, Option.bind_some, if_neg c1, if_neg c2, if_neg c3, hv']
      simp only [Ex, Option.bind_some, hq, put_f _ _ _ _ _ _ hl]
    · exact .inr (by omega)
  · exact sgn e he _ (nx_self h0 ha) c1 c2 c3
/-- All of them. -/
theorem all_spec (s : ByteArray) (hs : (s.size : Int) < 1000) (d : Nat) : ∀ a, 0 ≤ a → a ≤ (s.size : Int) → (s.size : Int) - a ≤ d →
    Spec regex_reader_atom.f 1 s a ∧ Spec regex_reader_piece.f 1 s a ∧ Spec regex_reader_row.l0 0 s a ∧ Spec regex_reader_row.f 1 s a ∧ Spec regex_reader_rows.l0 0 s a ∧ Spec regex_reader_rows.f 1 s a := by
  induction d using Nat.strongRecOn with
  | _ d ih =>
    intro a h0 h1 h2
    have IH : ∀ a', a < a' → a' ≤ (s.size : Int) → Spec regex_reader_atom.f 1 s a' ∧ Spec regex_reader_piece.f 1 s a' ∧ Spec regex_reader_row.l0 0 s a' ∧ Spec regex_reader_row.f 1 s a' ∧ Spec regex_reader_rows.l0 0 s a' ∧ Spec regex_reader_rows.f 1 s a' := by
      intro a' l1 l2
      exact ih ((s.size : Int) - a').toNat (by omega) a' (by omega) l2 (by omega)
    have A := atom_spec s hs a h0 h1 (fun h => (IH (a + 1) (by omega) (by omega)).2.2.2.2.2)
    have P : Spec regex_reader_piece.f 1 s a := spec_seq hs (fun k T p out => by rw [regex_reader_piece.f]) A (fun a' l1 l2 => piece_l0 s hs s.size a' (by omega) l2 (by omega))
    have RL : Spec regex_reader_row.l0 0 s a := by
      by_cases ha : a = (s.size : Int)
      · refine spec_stop h0 h1 (fun T n em k out => ?_)
        obtain ⟨c, hc, hx⟩ := nx_out em (i := a) ha
        rw [regex_reader_row.l0, hx, Option.bind_some, if_neg (fun h => by omega)]
      have ha : a < (s.size : Int) := by omega
      by_cases c : bt s a ≥ 0 ∧ bt s a ≠ 124 ∧ bt s a ≠ 41
      · rcases spec_cell (op := 3) hs P (fun a' l1 l2 => (IH a' l1 l2).2.2.1) with ⟨a1, d1, l1, l2, l3, hG⟩ | ⟨e, he⟩
        · refine .inl ⟨a1, d1, l1, l2, l3, fun T n em out ho => .step (fun k => ?_) (hG T n em out ho)⟩
          rw [regex_reader_row.l0, nx_in em h0 ha, Option.bind_some, if_pos c]
        · refine .inr ⟨e, fun out ho => .step (fun k => ?_) (he out ho)⟩
          rw [regex_reader_row.l0, nx_self h0 ha, Option.bind_some, if_pos c]
      · refine spec_stop h0 h1 (fun T n em k out => ?_)
        rw [regex_reader_row.l0, nx_in em h0 ha, Option.bind_some, if_neg c]
    have R : Spec regex_reader_row.f 1 s a := spec_seq hs (fun k T p out => by rw [regex_reader_row.f]) P (fun a' l1 l2 => (IH a' l1 l2).2.2.1)
    have RSL : Spec regex_reader_rows.l0 0 s a := by
      by_cases ha : a = (s.size : Int)
      · refine spec_stop h0 h1 (fun T n em k out => ?_)
        obtain ⟨c, hc, hx⟩ := nx_out em (i := a) ha
        rw [regex_reader_rows.l0, hx, Option.bind_some, if_neg (fun h => by omega)]
      have ha : a < (s.size : Int) := by omega
      by_cases c : bt s a = 124
      · rcases spec_cell (op := 4) hs (IH (a + 1) (by omega) (by omega)).2.2.2.1 (fun a' l1 l2 => (IH a' (by omega) l2).2.2.2.2.1) with ⟨a1, d1, l1, l2, l3, hG⟩ | ⟨e, he⟩
        · refine .inl ⟨a1, d1, by omega, l2, by omega, fun T n em out ho => .step (fun k => ?_) (hG T n em out (by omega))⟩
          rw [regex_reader_rows.l0, nx_in em h0 ha, Option.bind_some, if_pos c, Int.add_assoc]
        · refine .inr ⟨e, fun out ho => .step (fun k => ?_) (he out (by omega))⟩
          rw [regex_reader_rows.l0, nx_self h0 ha, Option.bind_some, if_pos c]
      · refine spec_stop h0 h1 (fun T n em k out => ?_)
        rw [regex_reader_rows.l0, nx_in em h0 ha, Option.bind_some, if_neg c]
    exact ⟨A, P, RL, R, RSL, spec_seq hs (fun k T p out => by rw [regex_reader_rows.f]) R (fun a' l1 l2 => (IH a' l1 l2).2.2.2.2.1)⟩
/-- A text that is a rule's. -/
structure Rule (s : ByteArray) (l : List S32) : Prop where
  short : (s.size : Int) ≤ 200
  full : 0 < (s.size : Int)
  few : (l.length : Int) ≤ 60
  go : ∀ T n, Emb s T n → ∀ out : List S32, (out.length : Int) ≤ 1000 → Ev (fun k => regex_reader_rows.f k T n out) (.ok (n + (s.size : Int), out ++ l))
  first : bt s 0 ≠ 41
theorem rows_41 (s : ByteArray) (hs : (s.size : Int) < 1000) (h : 0 < (s.size : Int)) (h1 : bt s 0 = 41) : ∃ e, Ev (fun k => regex_reader_rows.f k s 0 []) (.error e) := by
  refine ⟨0, 10, fun k hk => ?_⟩
  obtain ⟨k, rfl⟩ : ∃ m, k = m + 4 := ⟨k - 4, by omega⟩
  have sg : regex_reader_sign.f s 0 ⟨#[46, 42, 43, 63, 40, 41, 91, 93, 124, 92, 47]⟩ ⟨#[46, 42, 43, 63, 40, 41, 91, 93, 124, 92, 47, 45, 94]⟩ = some (.error 0) := by
    unfold regex_reader_sign.f
    rw [if_pos (by omega), nx_self (by omega) h, h1, Option.bind_some, if_neg (by omega), if_neg (by omega), if_pos (by omega), show strings_IndexByte.f ⟨#[46, 42, 43, 63, 40, 41, 91, 93, 124, 92, 47]⟩ 41 = some 5 by decide +kernel, Option.bind_some, if_pos (by omega)]
  have at_ : regex_reader_atom.f (k + 1) s 0 [] = some (.error 0) := by
    rw [regex_reader_atom.f, nx_self (by omega) h, h1, Option.bind_some, if_neg (by omega), if_neg (by omega), if_neg (by omega), sg]
    rfl
  show regex_reader_rows.f (k + 1 + 1 + 1 + 1) s 0 [] = _
  rw [regex_reader_rows.f, regex_reader_row.f, regex_reader_piece.f, at_]
  rfl
/-- Any text is a rule's, or is refused. -/
theorem parse_all (s : ByteArray) : (∃ l, Rule s l ∧ Ev (fun k => regex_Parse.f k s) (l, 0, 0)) ∨ (∃ r, Ev (fun k => regex_Parse.f k s) r ∧ r.2.2 ≠ 0) := by
  by_cases h200 : (s.size : Int) > 200
  · exact .inr ⟨([], 0, 3), ⟨0, fun k _ => by show regex_Parse.f k s = _; unfold regex_Parse.f; rw [if_pos h200]⟩, by decide⟩
  have hs : (s.size : Int) < 1000 := by omega
  have un : ∀ R r, Ev (fun k => regex_reader_rows.f k s 0 []) R → (match R with | .error n => some (([] : List S32), n, (1 : Int)) | .ok q => if q.1 < (s.size : Int) then some ([], q.1, 1) else if (q.2.length : Int) > 60 then some ([], 0, 3) else some (q.2, 0, 0)) = some r → Ev (fun k => regex_Parse.f k s) r := by
    rintro R r ⟨K, hK⟩ hr
    refine ⟨K, fun k hk => ?_⟩
    have := hK k hk
    show regex_Parse.f k s = some r
    simp only at this
    unfold regex_Parse.f
    rw [if_neg h200, this, Option.bind_some]
    cases R <;> exact hr
  rcases (all_spec s hs s.size 0 (by omega) (by omega) (by omega)).2.2.2.2.2 with ⟨a', d, l1, l2, l3, hG⟩ | ⟨e, he⟩
  · have h := hG s 0 (Emb.refl hs) [] (by simp; omega)
    simp only [Int.zero_add, List.nil_append] at h
    by_cases c1 : a' < (s.size : Int)
    · exact .inr ⟨_, un _ _ h (by simp only; rw [if_pos c1]), by simp⟩
    · by_cases c2 : (d.length : Int) > 60
      · exact .inr ⟨_, un _ _ h (by simp only; rw [if_neg c1, if_pos c2]), by simp⟩
      · have ea : a' = (s.size : Int) := by omega
        subst ea
        refine .inl ⟨d, ⟨by omega, by omega, by omega, fun T n em out ho => ?_, fun h41 => ?_⟩, un _ _ h (by simp only; rw [if_neg c1, if_neg c2])⟩
        · have := hG T n em out (by omega)
          rw [Int.add_zero] at this
          exact this
        · obtain ⟨e, he⟩ := rows_41 s hs (by omega) h41
          cases Ev.uniq he h
  · have := he [] (by simp; omega)
    exact .inr ⟨_, un _ _ this rfl, by simp⟩
/-! #### groups -/
theorem byte_left (x y : ByteArray) (i : Int) (h0 : 0 ≤ i) (h1 : i < (x.size : Int)) : bt (x ++ y) i = bt x i := by
  unfold bt
  rw [dif_pos (by rw [ByteArray.size_append]; omega), dif_pos (by omega)]
  rw [ByteArray.getElem_append_left (by omega)]
theorem byte_right (x y : ByteArray) (i : Int) (h0 : (x.size : Int) ≤ i) (h1 : i < (x.size : Int) + (y.size : Int)) : bt (x ++ y) i = bt y (i - (x.size : Int)) := by
  unfold bt
  rw [dif_pos (by rw [ByteArray.size_append]; omega), dif_pos (by omega)]
  rw [ByteArray.getElem_append_right (by omega)]
  congr 3
  omega
theorem Rule.atom {s : ByteArray} {l : List S32} (h : Rule s l) {T : ByteArray} {p : Int} (em : Emb s T (p + 1)) (hp : 0 ≤ p) (h40 : bt T p = 40) (h41 : bt T (p + 1 + (s.size : Int)) = 41) (hl : p + 1 + (s.size : Int) < (T.size : Int))
    (out : List S32) (ho : (out.length : Int) ≤ 1000) : Ev (fun k => regex_reader_atom.f k T p out) (.ok (p + 2 + (s.size : Int), out ++ l)) := by
  have a1 := h.full
  have a2 := em.small
  have b0 := em.byte 0 (by omega) a1
  rw [Int.add_zero] at b0
  refine .step (fun k => ?_) (Ev.ex_ok (g := fun k => regex_reader_rows.f k T (p + 1) out) (f := fun k r => Ex (regex_reader_must.f T r.1 41) fun a2 => some (.ok (a2, r.2))) (h.go T (p + 1) em out ho) (Ev.const ?_))
  · rw [regex_reader_atom.f, nx_self hp (by omega), Option.bind_some, if_pos h40, nx_self (by omega) (by omega), Option.bind_some, if_neg (by rw [b0]; exact h.first)]
  · have hm := must_f T (p + 1 + (s.size : Int)) _ (by omega) (nx_self (by omega) hl)
    rw [if_pos h41] at hm
    simp only [Ex, hm, Option.bind_some]
    rw [show p + 1 + (s.size : Int) + 1 = p + 2 + (s.size : Int) by omega]
theorem stop_piece {T : ByteArray} {p c : Int} (hn : regex_reader_next.f T p = some c) (hc : c = -1 ∨ c = 40 ∨ c = 124) (out : List S32) : Ev (fun k => regex_reader_piece.l0 k T p out) (.ok (p, out)) := by
  refine Ev.one fun k => ?_
  have : strings_IndexByte.f ⟨#[42, 43, 63]⟩ (if c < 0 then 0 else c) = some (-1) := by rcases hc with rfl | rfl | rfl <;> decide +kernel
  rw [regex_reader_piece.l0, hn, Option.bind_some, this, Option.bind_some, if_pos (by omega)]
theorem Rule.piece {s : ByteArray} {l : List S32} (h : Rule s l) {T : ByteArray} {p c : Int} (em : Emb s T (p + 1)) (hp : 0 ≤ p) (h40 : bt T p = 40) (h41 : bt T (p + 1 + (s.size : Int)) = 41) (hl : p + 1 + (s.size : Int) < (T.size : Int))
    (out : List S32) (ho : (out.length : Int) ≤ 1000) (hn : regex_reader_next.f T (p + 2 + (s.size : Int)) = some c) (hc : c = -1 ∨ c = 40 ∨ c = 124) : Ev (fun k => regex_reader_piece.f k T p out) (.ok (p + 2 + (s.size : Int), out ++ l)) :=
  .step (fun k => by rw [regex_reader_piece.f]) (Ev.ex_ok (h.atom em hp h40 h41 hl out ho) (stop_piece hn hc _))
theorem stop_row {T : ByteArray} {p c : Int} (hn : regex_reader_next.f T p = some c) (hc : c = -1 ∨ c = 124) (out : List S32) : Ev (fun k => regex_reader_row.l0 k T p out) (.ok (p, out)) := by
  refine Ev.one fun k => ?_
  rw [regex_reader_row.l0, hn, Option.bind_some, if_neg (fun h => by omega)]
theorem stop_rows {T : ByteArray} {p c : Int} (hn : regex_reader_next.f T p = some c) (hc : c ≠ 124) (out : List S32) : Ev (fun k => regex_reader_rows.l0 k T p out) (.ok (p, out)) := by
  refine Ev.one fun k => ?_
  rw [regex_reader_rows.l0, hn, Option.bind_some, if_neg hc]
theorem parse_ok {T : ByteArray} {l : List S32} (hT : (T.size : Int) ≤ 200) (hl : (l.length : Int) ≤ 60) (h : Ev (fun k => regex_reader_rows.f k T 0 []) (.ok ((T.size : Int), l))) : Ev (fun k => regex_Parse.f k T) (l, 0, 0) := by
  obtain ⟨K, hK⟩ := h
  refine ⟨K, fun k hk => ?_⟩
  have := hK k hk
  simp only at this
  show regex_Parse.f k T = _
  unfold regex_Parse.f
  rw [if_neg (by omega), this, Option.bind_some]
  simp only
  rw [if_neg (by omega), if_neg (by omega)]
/-- One group. -/
theorem one_group {s : ByteArray} {l : List S32} (h : Rule s l) (hs : (s.size : Int) ≤ 190) : Ev (fun k => regex_Parse.f k (((⟨#[40]⟩ : ByteArray) ++ s) ++ (⟨#[41]⟩ : ByteArray))) (l, 0, 0) := by
  have z1 : (⟨#[40]⟩ : ByteArray).size = 1 := rfl
  have z2 : (⟨#[41]⟩ : ByteArray).size = 1 := rfl
  have hsz : ((((⟨#[40]⟩ : ByteArray) ++ s) ++ (⟨#[41]⟩ : ByteArray)).size : Int) = (s.size : Int) + 2 := by simp only [ByteArray.size_append, z1, z2]; omega
  have b0 : bt (((⟨#[40]⟩ : ByteArray) ++ s) ++ (⟨#[41]⟩ : ByteArray)) 0 = 40 := by
    rw [byte_left _ _ _ (by omega) (by rw [ByteArray.size_append]; omega), byte_left _ _ _ (by omega) (by omega)]; rfl
  have b1 : bt (((⟨#[40]⟩ : ByteArray) ++ s) ++ (⟨#[41]⟩ : ByteArray)) (0 + 1 + (s.size : Int)) = 41 := by
    rw [byte_right _ _ _ (by rw [ByteArray.size_append]; omega) (by rw [ByteArray.size_append]; omega)]
    rw [show (0 : Int) + 1 + (s.size : Int) - ((((⟨#[40]⟩ : ByteArray) ++ s).size : Nat) : Int) = 0 by rw [ByteArray.size_append, z1]; omega]
    rfl
  have em : Emb s (((⟨#[40]⟩ : ByteArray) ++ s) ++ (⟨#[41]⟩ : ByteArray)) (0 + 1) := by
    refine ⟨by omega, by omega, by omega, fun i i0 i1 => ?_, fun _ => b1⟩
    rw [byte_left _ _ _ (by omega) (by rw [ByteArray.size_append]; omega), byte_right _ _ _ (by omega) (by omega)]
    congr 1
    rw [z1]; omega
  generalize (((⟨#[40]⟩ : ByteArray) ++ s) ++ (⟨#[41]⟩ : ByteArray)) = T at *
  have hn : regex_reader_next.f T (0 + 2 + (s.size : Int)) = some (-1) := nx_end (by omega)
  refine parse_ok (by omega) h.few ?_
  have P := h.piece em (by omega) b0 b1 (by omega) [] (by simp) hn (.inl rfl)
  rw [List.nil_append] at P
  rw [show (T.size : Int) = 0 + 2 + (s.size : Int) by omega]
  have R : Ev (fun k => regex_reader_row.f k T 0 []) (.ok (0 + 2 + (s.size : Int), l)) := .step (fun k => by rw [regex_reader_row.f]) (Ev.ex_ok P (stop_row hn (.inl rfl) _))
  exact .step (fun k => by rw [regex_reader_rows.f]) (Ev.ex_ok R (stop_rows hn (by omega) _))
/-- Two groups with something between. -/
theorem two_groups {s t : ByteArray} {l m : List S32} (hs : Rule s l) (ht : Rule t m) (hsz : (s.size : Int) + (t.size : Int) ≤ 190) (hlm : l.length + m.length < 60) (mid : ByteArray) (g : Int) (hg : (mid.size : Int) = 2 + g) (hg0 : 0 ≤ g) (hg1 : g ≤ 1) (m0 : bt mid 0 = 41) (m1 : bt mid (1 + g) = 40) :
    ∃ T, T = (((⟨#[40]⟩ : ByteArray) ++ s) ++ mid) ++ t ++ (⟨#[41]⟩ : ByteArray) ∧ (T.size : Int) = (s.size : Int) + (t.size : Int) + 4 + g ∧ bt T (0 + 2 + (s.size : Int)) = bt mid 1 ∧
      (∀ c, regex_reader_next.f T (0 + 2 + (s.size : Int)) = some c → (c = 40 ∨ c = 124) → Ev (fun k => regex_reader_piece.f k T 0 []) (.ok (0 + 2 + (s.size : Int), l))) ∧
      (∀ out : List S32, (out.length : Int) ≤ 1000 → Ev (fun k => regex_reader_piece.f k T (2 + (s.size : Int) + g) out) (.ok ((T.size : Int), out ++ m))) := by
  have z1 : (⟨#[40]⟩ : ByteArray).size = 1 := rfl
  have z2 : (⟨#[41]⟩ : ByteArray).size = 1 := rfl
  refine ⟨_, rfl, ?_⟩
  have e1 : ((((⟨#[40]⟩ : ByteArray) ++ s).size : Nat) : Int) = 1 + (s.size : Int) := by rw [ByteArray.size_append, z1]; omega
  have e2 : (((((⟨#[40]⟩ : ByteArray) ++ s) ++ mid).size : Nat) : Int) = 3 + g + (s.size : Int) := by rw [ByteArray.size_append]; omega
  have e3 : ((((((⟨#[40]⟩ : ByteArray) ++ s) ++ mid) ++ t).size : Nat) : Int) = 3 + g + (s.size : Int) + (t.size : Int) := by rw [ByteArray.size_append]; omega
  have e4 : (((((((⟨#[40]⟩ : ByteArray) ++ s) ++ mid) ++ t) ++ (⟨#[41]⟩ : ByteArray)).size : Nat) : Int) = (s.size : Int) + (t.size : Int) + 4 + g := by rw [ByteArray.size_append]; omega
  -- the bytes
  have A : ∀ i, 0 ≤ i → i < 1 → bt (((((⟨#[40]⟩ : ByteArray) ++ s) ++ mid) ++ t) ++ (⟨#[41]⟩ : ByteArray)) i = 40 := by
    intro i i0 i1
    obtain rfl : i = 0 := by omega
    rw [byte_left _ _ _ (by omega) (by omega), byte_left _ _ _ (by omega) (by omega), byte_left _ _ _ (by omega) (by omega), byte_left _ _ _ (by omega) (by omega)]; rfl
  have B : ∀ i, 0 ≤ i → i < (s.size : Int) → bt (((((⟨#[40]⟩ : ByteArray) ++ s) ++ mid) ++ t) ++ (⟨#[41]⟩ : ByteArray)) (0 + 1 + i) = bt s i := by
    intro i i0 i1
    rw [byte_left _ _ _ (by omega) (by omega), byte_left _ _ _ (by omega) (by omega), byte_left _ _ _ (by omega) (by omega), byte_right _ _ _ (by omega) (by omega)]
    congr 1; rw [z1]; omega
  have C : ∀ i, 0 ≤ i → i < (mid.size : Int) → bt (((((⟨#[40]⟩ : ByteArray) ++ s) ++ mid) ++ t) ++ (⟨#[41]⟩ : ByteArray)) (0 + 1 + (s.size : Int) + i) = bt mid i := by
    intro i i0 i1
    rw [byte_left _ _ _ (by omega) (by omega), byte_left _ _ _ (by omega) (by omega), byte_right _ _ _ (by omega) (by omega)]
    congr 1; omega
  have D : ∀ i, 0 ≤ i → i < (t.size : Int) → bt (((((⟨#[40]⟩ : ByteArray) ++ s) ++ mid) ++ t) ++ (⟨#[41]⟩ : ByteArray)) (2 + (s.size : Int) + g + 1 + i) = bt t i := by
    intro i i0 i1
    rw [byte_left _ _ _ (by omega) (by omega), byte_right _ _ _ (by omega) (by omega)]
    congr 1; omega
  have E : bt (((((⟨#[40]⟩ : ByteArray) ++ s) ++ mid) ++ t) ++ (⟨#[41]⟩ : ByteArray)) (2 + (s.size : Int) + g + 1 + (t.size : Int)) = 41 := by
    rw [byte_right _ _ _ (by omega) (by omega), show (2 + (s.size : Int) + g + 1 + (t.size : Int)) - (((((((⟨#[40]⟩ : ByteArray) ++ s) ++ mid) ++ t).size : Nat)) : Int) = 0 by omega]
    rfl
  generalize (((((⟨#[40]⟩ : ByteArray) ++ s) ++ mid) ++ t) ++ (⟨#[41]⟩ : ByteArray)) = T at *
  have b1 : bt T (0 + 1 + (s.size : Int)) = 41 := by have := C 0 (by omega) (by omega); rw [Int.add_zero] at this; rw [this, m0]
  refine ⟨e4, ?_, fun c hc hcc => ?_, fun out ho => ?_⟩
  · rw [← C 1 (by omega) (by omega)]; congr 1; omega
  · have P := hs.piece (T := T) (p := 0) (c := c) ⟨by omega, by omega, by omega, B, fun _ => b1⟩ (by omega) (A 0 (by omega) (by omega)) b1 (by omega) [] (by simp) hc (by omega)
    rw [List.nil_append] at P
    exact P
  · have b2 : bt T (2 + (s.size : Int) + g) = 40 := by
      have := C (1 + g) (by omega) (by omega)
      rw [m1] at this
      rw [← this]; congr 1; omega
    have P := ht.piece (T := T) (p := 2 + (s.size : Int) + g) (c := -1) ⟨by omega, by omega, by omega, D, fun _ => E⟩ (by omega) b2 E (by omega) out ho (nx_end (by omega)) (.inl rfl)
    rw [show (2 + (s.size : Int) + g) + 2 + (t.size : Int) = (T.size : Int) by omega] at P
    exact P
theorem bar_group {s t : ByteArray} {l m : List S32} (hs : Rule s l) (ht : Rule t m) (hsz : (s.size : Int) + (t.size : Int) ≤ 190) (hlm : l.length + m.length < 60) :
    Ev (fun k => regex_Parse.f k (((((⟨#[40]⟩ : ByteArray) ++ s) ++ (⟨#[41, 124, 40]⟩ : ByteArray)) ++ t) ++ (⟨#[41]⟩ : ByteArray))) (l ++ m ++ [(⟨4, ⟨0, 0, 0, 0⟩⟩ : S32)], 0, 0) := by
  obtain ⟨T, eT, hT, hb, h1, h2⟩ := two_groups hs ht hsz hlm ⟨#[41, 124, 40]⟩ 1 rfl (by omega) (by omega) rfl rfl
  rw [← eT]
  clear eT
  have a1 := hs.full
  have hb : bt T (0 + 2 + (s.size : Int)) = 124 := hb
  have hn : regex_reader_next.f T (0 + 2 + (s.size : Int)) = some 124 := by rw [nx_self (by omega) (by omega), hb]
  refine parse_ok (by omega) (by simp only [List.length_append, List.length_singleton]; omega) ?_
  have hfew := hs.few
  have hm := ht.few
  have hend : regex_reader_next.f T (T.size : Int) = some (-1) := nx_end rfl
  have P1 := h1 124 hn (.inr rfl)
  have R1 : Ev (fun k => regex_reader_row.f k T 0 []) (.ok (0 + 2 + (s.size : Int), l)) := .step (fun k => by rw [regex_reader_row.f]) (Ev.ex_ok P1 (stop_row hn (.inr rfl) _))
  have P2 := h2 l (by omega)
  have R2 : Ev (fun k => regex_reader_row.f k T (0 + 2 + (s.size : Int) + 1) l) (.ok ((T.size : Int), l ++ m)) := by
    rw [show 0 + 2 + (s.size : Int) + 1 = 2 + (s.size : Int) + 1 by omega]
    exact .step (fun k => by rw [regex_reader_row.f]) (Ev.ex_ok P2 (stop_row hend (.inl rfl) _))
  refine .step (fun k => by rw [regex_reader_rows.f]) (Ev.ex_ok R1 ?_)
  refine .step (fun k => ?_) (Ev.ex_ok (g := fun k => regex_reader_row.f k T (0 + 2 + (s.size : Int) + 1) l) (f := fun k r => (regex_reader_put.f r.2 4 0 0 0 0).bind fun o => regex_reader_rows.l0 k T r.1 o) R2 ?_)
  · show regex_reader_rows.l0 (k + 1) T (0 + 2 + (s.size : Int)) l = _
    rw [regex_reader_rows.l0, hn, Option.bind_some, if_pos rfl]
  · refine .congr (fun k => ?_) (stop_rows hend (by omega) (l ++ m ++ [(⟨4, ⟨0, 0, 0, 0⟩⟩ : S32)]))
    show (regex_reader_put.f (l ++ m) 4 0 0 0 0).bind _ = _
    rw [put_f _ _ _ _ _ _ (by rw [List.length_append]; omega), Option.bind_some]
theorem cat_group {s t : ByteArray} {l m : List S32} (hs : Rule s l) (ht : Rule t m) (hsz : (s.size : Int) + (t.size : Int) ≤ 190) (hlm : l.length + m.length < 60) :
    Ev (fun k => regex_Parse.f k (((((⟨#[40]⟩ : ByteArray) ++ s) ++ (⟨#[41, 40]⟩ : ByteArray)) ++ t) ++ (⟨#[41]⟩ : ByteArray))) (l ++ m ++ [(⟨3, ⟨0, 0, 0, 0⟩⟩ : S32)], 0, 0) := by
  obtain ⟨T, eT, hT, hb, h1, h2⟩ := two_groups hs ht hsz hlm ⟨#[41, 40]⟩ 0 rfl (by omega) (by omega) rfl rfl
  rw [← eT]
  clear eT
  have a1 := hs.full
  have hb : bt T (0 + 2 + (s.size : Int)) = 40 := hb
  have hn : regex_reader_next.f T (0 + 2 + (s.size : Int)) = some 40 := by rw [nx_self (by omega) (by omega), hb]
  refine parse_ok (by omega) (by simp only [List.length_append, List.length_singleton]; omega) ?_
  have hfew := hs.few
  have hm := ht.few
  have hend : regex_reader_next.f T (T.size : Int) = some (-1) := nx_end rfl
  have P1 := h1 40 hn (.inl rfl)
  have P2 := h2 l (by omega)
  have R1 : Ev (fun k => regex_reader_row.f k T 0 []) (.ok ((T.size : Int), l ++ m ++ [(⟨3, ⟨0, 0, 0, 0⟩⟩ : S32)])) := by
    refine .step (fun k => by rw [regex_reader_row.f]) (Ev.ex_ok P1 ?_)
    refine .step (fun k => ?_) (Ev.ex_ok (g := fun k => regex_reader_piece.f k T (0 + 2 + (s.size : Int)) l) (f := fun k r => (regex_reader_put.f r.2 3 0 0 0 0).bind fun o => regex_reader_row.l0 k T r.1 o) (q := ((T.size : Int), l ++ m)) ?_ ?_)
    · show regex_reader_row.l0 (k + 1) T (0 + 2 + (s.size : Int)) l = _
      rw [regex_reader_row.l0, hn, Option.bind_some, if_pos ⟨by omega, by omega, by omega⟩]
    · rw [show 0 + 2 + (s.size : Int) = 2 + (s.size : Int) + 0 by omega]
      exact P2
    · refine .congr (fun k => ?_) (stop_row hend (.inl rfl) (l ++ m ++ [(⟨3, ⟨0, 0, 0, 0⟩⟩ : S32)]))
      show (regex_reader_put.f (l ++ m) 3 0 0 0 0).bind _ = _
      rw [put_f _ _ _ _ _ _ (by rw [List.length_append]; omega), Option.bind_some]
  exact .step (fun k => by rw [regex_reader_rows.f]) (Ev.ex_ok R1 (stop_rows hend (by omega) _))
theorem same_l0 (l : List S32) (hl : l.length ≤ 1000) (d : Nat) : ∀ (i : Nat), i + d = l.length → Ev (fun k => topiaryref06_Same.l0 k l l (i : Int)) true := by
  induction d with
  | zero =>
    intro i h
    refine Ev.one fun k => ?_
    rw [topiaryref06_Same.l0, if_neg (by omega)]
  | succ d ih =>
    intro i h
    refine .step (fun k => ?_) (ih (i + 1) (by omega))
    have hw : wrap64 ((i : Int) + 1) = ((i + 1 : Nat) : Int) := by unfold wrap64; omega
    rw [topiaryref06_Same.l0, if_pos (by omega), if_pos (by omega), if_pos (by omega), if_neg (by simp), hw]
theorem same_f (l : List S32) (hl : l.length ≤ 1000) : Ev (fun k => topiaryref06_Same.f k l l) true := by
  refine .congr (fun k => ?_) (same_l0 l hl l.length 0 (by omega))
  rw [topiaryref06_Same.f, if_pos rfl]
  rfl
theorem wakes_f : ∃ k, topiarylaw06_wakes.f k = some true := ⟨200, by decide +kernel⟩
theorem copied_f (l : List S32) (h : l.length ≤ 100000) : topiarylaw06_copied.f l = some l := by
  simp only [topiarylaw06_copied.f, Option.bind_some, List.length_nil, List.nil_append]
  rw [if_pos (by omega)]
theorem j_true (k : Nat) (a0 a1 : ByteArray) (l m : List S32) : topiarylaw06_RegexGroups.j0 (k + 1) a0 a1 l m true = some true := by
  rw [topiarylaw06_RegexGroups.j0, if_pos rfl]
theorem j_false {a0 a1 : ByteArray} {l m : List S32} (hs : Rule a0 l) (ht : Rule a1 m) (hsz : (a0.size : Int) + (a1.size : Int) ≤ 190) (hlm : l.length + m.length < 60) : Ev (fun k => topiarylaw06_RegexGroups.j0 k a0 a1 l m false) true := by
  have hfew := hs.few
  have hm := ht.few
  obtain ⟨K1, h1⟩ := one_group hs (by omega)
  obtain ⟨K2, h2⟩ := bar_group hs ht hsz hlm
  obtain ⟨K3, h3⟩ := cat_group hs ht hsz hlm
  obtain ⟨K4, h4⟩ := same_f l (by omega)
  obtain ⟨K5, h5⟩ := same_f (l ++ m ++ [(⟨4, ⟨0, 0, 0, 0⟩⟩ : S32)]) (by simp only [List.length_append, List.length_singleton]; omega)
  obtain ⟨K6, h6⟩ := same_f (l ++ m ++ [(⟨3, ⟨0, 0, 0, 0⟩⟩ : S32)]) (by simp only [List.length_append, List.length_singleton]; omega)
  refine ⟨K1 + K2 + K3 + K4 + K5 + K6 + 1, fun k hk => ?_⟩
  obtain ⟨k, rfl⟩ : ∃ j, k = j + 1 := ⟨k - 1, by omega⟩
  have g1 := h1 k (by omega)
  have g2 := h2 k (by omega)
  have g3 := h3 k (by omega)
  have g4 := h4 k (by omega)
  have g5 := h5 k (by omega)
  have g6 := h6 k (by omega)
  simp only at g1 g2 g3 g4 g5 g6
  have z1 : (⟨#[40]⟩ : ByteArray).size = 1 := rfl
  have z2 : (⟨#[41, 124, 40]⟩ : ByteArray).size = 3 := rfl
  have z3 : (⟨#[41, 40]⟩ : ByteArray).size = 2 := rfl
  show topiarylaw06_RegexGroups.j0 (k + 1) a0 a1 l m false = some true
  rw [topiarylaw06_RegexGroups.j0, if_neg (by decide), if_pos (by omega), if_pos (by rw [ByteArray.size_append]; omega), g1, Option.bind_some, if_pos (by rw [ByteArray.size_append]; omega), if_pos (by simp only [ByteArray.size_append]; omega), if_pos (by simp only [ByteArray.size_append]; omega), g2, Option.bind_some,
    if_pos (by rw [ByteArray.size_append]; omega), if_pos (by simp only [ByteArray.size_append]; omega), if_pos (by simp only [ByteArray.size_append]; omega), g3, Option.bind_some, copied_f l (by omega), Option.bind_some, if_pos (by omega), Option.bind_some, if_pos (by rw [List.length_append]; omega), Option.bind_some, if_pos (by omega), Option.bind_some, if_pos (by rw [List.length_append]; omega)]
  rw [if_pos rfl, g4, Option.bind_some, if_pos rfl, if_pos rfl, g5, Option.bind_some, if_pos rfl, if_pos rfl, g6, Option.bind_some]
theorem RegexGroups : topiarylaw06_RegexGroups.Pure := by
  intro a0 a1 w0 w1
  obtain ⟨k0, hk0⟩ := wakes_f
  have hwk : ∀ k, k0 ≤ k → topiarylaw06_wakes.f k = some true := fun k hk => at_rounds (fun k => topiarylaw06_wakes.mono k) hk hk0
  have hw : wrap64 ((a0.size : Int) + (a1.size : Int)) = (a0.size : Int) + (a1.size : Int) := by unfold wrap64; omega
  rcases parse_all a0 with ⟨l, hl, K1, h1⟩ | ⟨r, ⟨K1, h1⟩, hr⟩
  · rcases parse_all a1 with ⟨m, hm, K2, h2⟩ | ⟨r, ⟨K2, h2⟩, hr⟩
    · have hfew := hl.few
      have hmf := hm.few
      have hw2 : wrap64 ((l.length : Int) + (m.length : Int)) = (l.length : Int) + (m.length : Int) := by unfold wrap64; omega
      by_cases c1 : (a0.size : Int) + (a1.size : Int) > 190
      · refine ⟨k0 + K1 + K2 + 1, ?_⟩
        have g1 := h1 (k0 + K1 + K2 + 1) (by omega)
        have g2 := h2 (k0 + K1 + K2 + 1) (by omega)
        simp only at g1 g2
        unfold topiarylaw06_RegexGroups.f
        rw [hwk _ (by omega), Option.bind_some, if_pos rfl, g1, Option.bind_some, g2, Option.bind_some, if_pos rfl, if_pos rfl, hw, if_pos c1, j_true]
      · by_cases c2 : (l.length : Int) + (m.length : Int) ≥ 60
        · refine ⟨k0 + K1 + K2 + 1, ?_⟩
          have g1 := h1 (k0 + K1 + K2 + 1) (by omega)
          have g2 := h2 (k0 + K1 + K2 + 1) (by omega)
          simp only at g1 g2
          unfold topiarylaw06_RegexGroups.f
          rw [hwk _ (by omega), Option.bind_some, if_pos rfl, g1, Option.bind_some, g2, Option.bind_some, if_pos rfl, if_pos rfl, hw, if_neg c1, hw2, decide_eq_true c2, j_true]
        · obtain ⟨K3, h3⟩ := j_false hl hm (by omega) (by omega)
          refine ⟨k0 + K1 + K2 + K3, ?_⟩
          have g1 := h1 (k0 + K1 + K2 + K3) (by omega)
          have g2 := h2 (k0 + K1 + K2 + K3) (by omega)
          have g3 := h3 (k0 + K1 + K2 + K3) (by omega)
          simp only at g1 g2 g3
          unfold topiarylaw06_RegexGroups.f
          rw [hwk _ (by omega), Option.bind_some, if_pos rfl, g1, Option.bind_some, g2, Option.bind_some, if_pos rfl, if_pos rfl, hw, if_neg c1, hw2, decide_eq_false c2, g3]
    · refine ⟨k0 + K1 + K2 + 1, ?_⟩
      have g1 := h1 (k0 + K1 + K2 + 1) (by omega)
      have g2 := h2 (k0 + K1 + K2 + 1) (by omega)
      simp only at g1 g2
      unfold topiarylaw06_RegexGroups.f
      rw [hwk _ (by omega), Option.bind_some, if_pos rfl, g1, Option.bind_some, g2, Option.bind_some, if_pos rfl, if_neg hr, j_true]
  · obtain ⟨r2, K2, h2⟩ : ∃ r, Ev (fun k => regex_Parse.f k a1) r := by
      rcases parse_all a1 with ⟨m, _, h⟩ | ⟨r, h, _⟩
      · exact ⟨_, h⟩
      · exact ⟨_, h⟩
    refine ⟨k0 + K1 + K2 + 1, ?_⟩
    have g1 := h1 (k0 + K1 + K2 + 1) (by omega)
    have g2 := h2 (k0 + K1 + K2 + 1) (by omega)
    simp only at g1 g2
    unfold topiarylaw06_RegexGroups.f
    rw [hwk _ (by omega), Option.bind_some, if_pos rfl, g1, Option.bind_some, g2, Option.bind_some, if_neg hr, j_true]

end Go.Proofs.Ytkabcjchgaokoaa.Pure
