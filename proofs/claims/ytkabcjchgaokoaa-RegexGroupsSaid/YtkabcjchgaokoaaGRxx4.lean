/- Proved here: what the functions below come to: walks printed by a program, over contracts of this claim. -/
import Derived.Test.YtkabcjchgaokoaaGRxx0
namespace Go.Proofs.Ytkabcjchgaokoaa.PRx
open Go.RowKit Go.Proofs.YtkabcjchgaokoaaW.PrintWords Go.Proofs.YtkabcjchgaokoaaW.PrintLast Go.Proofs.YtkabcjchgaokoaaW.PrintMore
attribute [local go_sem] max2_int min2_int max_two min_two max_three min_three max_four min_four   -- for this text's walks alone
set_option linter.unusedVariables false
set_option linter.unusedSimpArgs false

/-! ### bytes_One: function 27 -/
def bytes_One.word (b j : Int) : Int := if b / 64 = j then IntKind.u64.wrap (2 ^ (b % 64).toNat) else 0
def bytes_One.f (b : Int) : Option (Int × Int × Int × Int) := if 0 ≤ b ∧ b < 256 then some (bytes_One.word b 0, bytes_One.word b 1, bytes_One.word b 2, bytes_One.word b 3) else none
set_option maxHeartbeats 1000000 in
set_option maxRecDepth 100000 in
theorem bytes_One.calls (b : Int) (r1 r2 r3 r4 : Int) (w : World) (h : bytes_One.f b = some (r1, r2, r3, r4)) :
    Calls Try.prog 27 #[.int .u8 b] w fun e w' => e = .returned (.agg #[.int .u64 r1, .int .u64 r2, .int .u64 r3, .int .u64 r4]) ∧ Below w.heap.size w w' := by
  unfold bytes_One.f at h
  by_cases hb : 0 ≤ b ∧ b < 256
  · rw [if_pos hb] at h
    obtain ⟨h0, h1⟩ := hb
    simp only [Option.some.injEq, Prod.mk.injEq] at h
    obtain ⟨rfl, rfl, rfl, rfl⟩ := h
    have hq : b / 64 = 0 ∨ b / 64 = 1 ∨ b / 64 = 2 ∨ b / 64 = 3 := by omega
    rcases hq with hq | hq | hq | hq
    · unfold bytes_One.word
      simp only [hq]
      go_enter Try.func27, Try.ntmps27
      go_wp2_with fail
      refine bodyPost_ret (v := .agg #[.int .u64 (IntKind.u64.wrap (2 ^ (b % 64).toNat)), .int .u64 0, .int .u64 0, .int .u64 0]) (by simp [results, Try.results27, go_sem]) rfl ⟨by simp, ?_⟩
      repeat (first | exact Below.refl _ _ | (with_reducible apply below_alloc) | (with_reducible apply pw_below_drewN) | (with_reducible apply below_drew1) | (refine below_set ?_ (by simp; omega)))
    · unfold bytes_One.word
      simp only [hq]
      go_enter Try.func27, Try.ntmps27
      go_wp2_with fail
      refine bodyPost_ret (v := .agg #[.int .u64 0, .int .u64 (IntKind.u64.wrap (2 ^ (b % 64).toNat)), .int .u64 0, .int .u64 0]) (by simp [results, Try.results27, go_sem]) rfl ⟨by simp, ?_⟩
      repeat (first | exact Below.refl _ _ | (with_reducible apply below_alloc) | (with_reducible apply pw_below_drewN) | (with_reducible apply below_drew1) | (refine below_set ?_ (by simp; omega)))
    · unfold bytes_One.word
      simp only [hq]
      go_enter Try.func27, Try.ntmps27
      go_wp2_with fail
      refine bodyPost_ret (v := .agg #[.int .u64 0, .int .u64 0, .int .u64 (IntKind.u64.wrap (2 ^ (b % 64).toNat)), .int .u64 0]) (by simp [results, Try.results27, go_sem]) rfl ⟨by simp, ?_⟩
      repeat (first | exact Below.refl _ _ | (with_reducible apply below_alloc) | (with_reducible apply pw_below_drewN) | (with_reducible apply below_drew1) | (refine below_set ?_ (by simp; omega)))
    · unfold bytes_One.word
      simp only [hq]
      go_enter Try.func27, Try.ntmps27
      go_wp2_with fail
      refine bodyPost_ret (v := .agg #[.int .u64 0, .int .u64 0, .int .u64 0, .int .u64 (IntKind.u64.wrap (2 ^ (b % 64).toNat))]) (by simp [results, Try.results27, go_sem]) rfl ⟨by simp, ?_⟩
      repeat (first | exact Below.refl _ _ | (with_reducible apply below_alloc) | (with_reducible apply pw_below_drewN) | (with_reducible apply below_drew1) | (refine below_set ?_ (by simp; omega)))
  · rw [if_neg hb] at h
    cases h

-- NOT PRINTED: function 34 (bytealg_IndexByteString)

-- NOT PRINTED: function 30 (stringslite_IndexByte)

/-! ### strings_IndexByte: function 24 -/
def strings_IndexByte.f (a0 : ByteArray) (a1 : Int) : Option (Int) := some (Lib.indexByte a0.data.toList a1.toNat.toUInt8)
theorem strings_IndexByte.calls (a0 : ByteArray) (a1 : Int) (r : Int) (w : World) (h : strings_IndexByte.f a0 a1 = some r) :
    Calls Try.prog 24 #[.string a0, .int .u8 a1] w fun e w' => e = .returned (.int .i64 r) ∧ Drawn0 w w' := by
  obtain rfl := Option.some.inj h
  exact (Try.strings_IndexByte a0 a1 w).mono fun e w' ⟨he, hw⟩ => ⟨he, 0, hw⟩

/-! ### regex_digit: function 33 -/
def regex_digit.f (c : Int) : Option Int := if 0 ≤ c ∧ c < 256 then (strings_IndexByte.f ⟨#[48, 49, 50, 51, 52, 53, 54, 55, 56, 57, 97, 98, 99, 100, 101, 102, 65, 66, 67, 68, 69, 70]⟩ c).bind fun i => if i > 15 then some (i - 6) else some i else none
theorem ib_bd (s : ByteArray) (c : Int) (r : Int) (h : strings_IndexByte.f s c = some r) : -1 ≤ r ∧ (r : Int) < s.size + 1 := by
  unfold strings_IndexByte.f at h
  obtain rfl := Option.some.inj h
  have g : ∀ (l : List UInt8) (c : UInt8), -1 ≤ Lib.indexByte l c ∧ Lib.indexByte l c < (l.length : Int) + 1 := by
    intro l c
    induction l with
    | nil => simp [Lib.indexByte]
    | cons b l ih =>
      simp only [Lib.indexByte]
      split
      · simp only [List.length_cons]; omega
      · split
        · simp only [List.length_cons]; omega
        · simp only [List.length_cons]; omega
  have := g s.data.toList c.toNat.toUInt8
  rw [data_length] at this
  exact this
set_option maxHeartbeats 2000000 in
theorem regex_digit.calls (c r : Int) (w : World) (h : regex_digit.f c = some r) :
    Calls Try.prog 33 #[.int .u8 c] w fun e w' => e = .returned (.int .i64 r) ∧ Drawn0 w w' := by
  unfold regex_digit.f at h
  by_cases hc : 0 ≤ c ∧ c < 256
  · rw [if_pos hc] at h
    obtain ⟨i, hi, h⟩ := Option.bind_eq_some_iff.mp h
    have hb := ib_bd _ _ _ hi
    have hb1 := hb.1
    have hb2 : i < 23 := hb.2
    have HI := Aside0.mk hi
    clear hi hb
    by_cases h15 : i > 15
    · rw [if_pos h15] at h
      obtain rfl := Option.some.inj h
      go_enter Try.func33, Try.ntmps33
      go_wp2_with (first | (go_at_call 24; (with_reducible refine (strings_IndexByte.calls _ c i _ HI.out).mono ?_); rintro e w' ⟨rfl, ⟨nd, rfl⟩⟩))
      go_ret
      exact ⟨rfl, by repeat (first | exact Drawn0.refl _ | apply Drawn0.step)⟩
    · rw [if_neg h15] at h
      obtain rfl := Option.some.inj h
      go_enter Try.func33, Try.ntmps33
      go_wp2_with (first | (go_at_call 24; (with_reducible refine (strings_IndexByte.calls _ c i _ HI.out).mono ?_); rintro e w' ⟨rfl, ⟨nd, rfl⟩⟩))
      go_ret
      exact ⟨rfl, by repeat (first | exact Drawn0.refl _ | apply Drawn0.step)⟩
  · rw [if_neg hc] at h
    cases h
theorem regex_digit.bd {c r : Int} (h : regex_digit.f c = some r) : -1 ≤ r ∧ r < 17 := by
  unfold regex_digit.f at h
  by_cases hc : 0 ≤ c ∧ c < 256
  · rw [if_pos hc] at h
    obtain ⟨i, hi, h⟩ := Option.bind_eq_some_iff.mp h
    have hb := ib_bd _ _ _ hi
    have hb1 := hb.1
    have hb2 : i < 23 := hb.2
    by_cases h15 : i > 15
    · rw [if_pos h15] at h
      obtain rfl := Option.some.inj h
      omega
    · rw [if_neg h15] at h
      obtain rfl := Option.some.inj h
      omega
  · rw [if_neg hc] at h
    cases h

end Go.Proofs.Ytkabcjchgaokoaa.PRx
