/- Proved here: what the functions below come to: walks printed by a program, over contracts of this claim. -/
import Derived.Test.YtkabcjchgaokoaaDoorGSjx0
import Derived.Test.YtkabcjchgaokoaaDoorGSjx5
namespace Go.Proofs.YtkabcjchgaokoaaDoor.PSj
open Go.RowKit Go.Proofs.YtkabcjchgaokoaaDoorW.PrintWords Go.Proofs.YtkabcjchgaokoaaDoorW.PrintLast Go.Proofs.YtkabcjchgaokoaaDoorW.PrintMore
attribute [local go_sem] max2_int min2_int max_two min_two max_three min_three max_four min_four   -- for this text's walks alone
set_option linter.unusedVariables false
set_option linter.unusedSimpArgs false

/-! ### regex_digit: function 51 -/
def regex_digit.f (c : Int) : Option Int := if 0 ≤ c ∧ c < 256 then (strings_IndexByte.f ⟨#[48, 49, 50, 51, 52, 53, 54, 55, 56, 57, 97, 98, 99, 100, 101, 102, 65, 66, 67, 68, 69, 70]⟩ c).bind fun i => if i > 15 then some (i - 6) else some i else none
theorem ib_bd (s : ByteArray) (c : Int) (r : Int) (h : strings_IndexByte.f s c = some r) : -1 ≤ r ∧ (r : Int) < s.size + 1 := by
  unfold strings_IndexByte.f at h
  obtain rfl := Option.some.inj h
  have g : ∀ (l : List UInt8) (c : UInt8), -1 ≤ Lib.indexByte l c ∧ Lib.indexByte l c < (l.length : Int) + 1 := by
    intro l c
    induction l with
    | nil => simp [Lib.indexByte]
    | cons b l ih =>
      simp only [Lib.indexByte]
      split
      · simp only [List.length_cons]; omega
      · split
        · simp only [List.length_cons]; omega
        · simp only [List.length_cons]; omega
  have := g s.data.toList c.toNat.toUInt8
  rw [data_length] at this
  exact this
set_option maxHeartbeats 2000000 in
theorem regex_digit.calls (c r : Int) (w : World) (h : regex_digit.f c = some r) :
    Calls Tryd.prog 51 #[.int .u8 c] w fun e w' => e = .returned (.int .i64 r) ∧ Drawn0 w w' := by
  unfold regex_digit.f at h
  by_cases hc : 0 ≤ c ∧ c < 256
  · rw [if_pos hc] at h
    obtain ⟨i, hi, h⟩ := Option.bind_eq_some_iff.mp h
    have hb := ib_bd _ _ _ hi
    have hb1 := hb.1
    have hb2 : i < 23 := hb.2
    have HI := Aside0.mk hi
    clear hi hb
    by_cases h15 : i > 15
    · rw [if_pos h15] at h
      obtain rfl := Option.some.inj h
      go_enter Tryd.func51, Tryd.ntmps51
      go_wp2_with (first | (go_at_call 34; (with_reducible refine (strings_IndexByte.calls _ c i _ HI.out).mono ?_); rintro e w' ⟨rfl, ⟨nd, rfl⟩⟩))
      go_ret
      exact ⟨rfl, by repeat (first | exact Drawn0.refl _ | apply Drawn0.step)⟩
    · rw [if_neg h15] at h
      obtain rfl := Option.some.inj h
      go_enter Tryd.func51, Tryd.ntmps51
      go_wp2_with (first | (go_at_call 34; (with_reducible refine (strings_IndexByte.calls _ c i _ HI.out).mono ?_); rintro e w' ⟨rfl, ⟨nd, rfl⟩⟩))
      go_ret
      exact ⟨rfl, by repeat (first | exact Drawn0.refl _ | apply Drawn0.step)⟩
  · rw [if_neg hc] at h
    cases h
theorem regex_digit.bd {c r : Int} (h : regex_digit.f c = some r) : -1 ≤ r ∧ r < 17 := by
  unfold regex_digit.f at h
  by_cases hc : 0 ≤ c ∧ c < 256
  · rw [if_pos hc] at h
    obtain ⟨i, hi, h⟩ := Option.bind_eq_some_iff.mp h
    have hb := ib_bd _ _ _ hi
    have hb1 := hb.1
    have hb2 : i < 23 := hb.2
    by_cases h15 : i > 15
    · rw [if_pos h15] at h
      obtain rfl := Option.some.inj h
      omega
    · rw [if_neg h15] at h
      obtain rfl := Option.some.inj h
      omega
  · rw [if_neg hc] at h
    cases h

end Go.Proofs.YtkabcjchgaokoaaDoor.PSj
