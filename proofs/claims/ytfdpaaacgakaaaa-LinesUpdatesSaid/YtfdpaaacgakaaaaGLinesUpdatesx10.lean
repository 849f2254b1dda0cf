/- Proved here: what the functions below come to: walks printed by a program, over contracts of this claim. -/
import Derived.Test.YtfdpaaacgakaaaaGLinesUpdatesx0
namespace Go.Proofs.Ytfdpaaacgakaaaa.PLinesUpdates
open Go.RowKit Go.Proofs.YtfdpaaacgakaaaaW.PrintWords Go.Proofs.YtfdpaaacgakaaaaW.PrintLast Go.Proofs.YtfdpaaacgakaaaaW.PrintMore
attribute [local go_sem] max2_int min2_int max_two min_two max_three min_three max_four min_four   -- for this text's walks alone
set_option linter.unusedVariables false
set_option linter.unusedSimpArgs false

-- NOT PRINTED: function 48 (stringslite_Index)

-- NOT PRINTED: function 46 (strings_Index)

/-! ### strings_Count: function 42 -/
def strings_Count.f (a0 a1 : ByteArray) : Option (Int) := if a1.data.toList = [10] then some (Lib.countByte a0.data.toList 10 : Int) else none
theorem strings_Count.calls (a0 a1 : ByteArray) (r : Int) (w : World) (h : strings_Count.f a0 a1 = some r) :
    Calls Try.prog 42 #[.string a0, .string a1] w fun e w' => e = .returned (.int .i64 r) ∧ Drawn0 w w' := by
  unfold strings_Count.f at h
  by_cases c : a1.data.toList = [10]
  · rw [if_pos c] at h
    obtain rfl := Option.some.inj h
    have e : a1 = ⟨#[10]⟩ := by
      apply ByteArray.ext
      apply Array.ext'
      rw [c]
    subst e
    exact (Try.strings_Count_one a0 10 w).mono fun e w' ⟨he, hw⟩ => ⟨he, 0, hw⟩
  · rw [if_neg c] at h
    cases h

/-! ### strings_IndexByte: function 43 -/
def strings_IndexByte.f (a0 : ByteArray) (a1 : Int) : Option (Int) := some (Lib.indexByte a0.data.toList a1.toNat.toUInt8)
theorem strings_IndexByte.calls (a0 : ByteArray) (a1 : Int) (r : Int) (w : World) (h : strings_IndexByte.f a0 a1 = some r) :
    Calls Try.prog 43 #[.string a0, .int .u8 a1] w fun e w' => e = .returned (.int .i64 r) ∧ Drawn0 w w' := by
  obtain rfl := Option.some.inj h
  exact (Try.strings_IndexByte a0 a1 w).mono fun e w' ⟨he, hw⟩ => ⟨he, 0, hw⟩

end Go.Proofs.Ytfdpaaacgakaaaa.PLinesUpdates
