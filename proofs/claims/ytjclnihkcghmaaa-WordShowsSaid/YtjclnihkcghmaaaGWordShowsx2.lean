/- Proved here: what the functions below come to: walks printed by a program, over contracts of this claim. -/
import Derived.Test.YtjclnihkcghmaaaGWordShowsx0
namespace Go.Proofs.Ytjclnihkcghmaaa.PWordShows
open Go.RowKit Go.Proofs.YtjclnihkcghmaaaW.PrintWords Go.Proofs.YtjclnihkcghmaaaW.PrintLast Go.Proofs.YtjclnihkcghmaaaW.PrintMore
attribute [local go_sem] max2_int min2_int max_two min_two max_three min_three max_four min_four   -- for this text's walks alone
set_option linter.unusedVariables false
set_option linter.unusedSimpArgs false

-- NOT PRINTED: function 32 (bytealg_IndexByteString)

-- NOT PRINTED: function 29 (stringslite_IndexByte)

/-! ### strings_IndexByte: function 24 -/
def strings_IndexByte.f (a0 : ByteArray) (a1 : Int) : Option (Int) := some (Lib.indexByte a0.data.toList a1.toNat.toUInt8)
theorem strings_IndexByte.calls (a0 : ByteArray) (a1 : Int) (r : Int) (w : World) (h : strings_IndexByte.f a0 a1 = some r) :
    Calls Try.prog 24 #[.string a0, .int .u8 a1] w fun e w' => e = .returned (.int .i64 r) ∧ Drawn0 w w' := by
  obtain rfl := Option.some.inj h
  exact (Try.strings_IndexByte a0 a1 w).mono fun e w' ⟨he, hw⟩ => ⟨he, 0, hw⟩

end Go.Proofs.Ytjclnihkcghmaaa.PWordShows
