/- Proved here: what the functions below come to: walks printed by a program, over contracts of this claim. -/
import Derived.Test.YtkabcjchgaokoaaDoorGSjx0
namespace Go.Proofs.YtkabcjchgaokoaaDoor.PSj
open Go.RowKit Go.Proofs.YtkabcjchgaokoaaDoorW.PrintWords Go.Proofs.YtkabcjchgaokoaaDoorW.PrintLast Go.Proofs.YtkabcjchgaokoaaDoorW.PrintMore
attribute [local go_sem] max2_int min2_int max_two min_two max_three min_three max_four min_four   -- for this text's walks alone
set_option linter.unusedVariables false
set_option linter.unusedSimpArgs false

/-! ### bytes_Has: function 26 -/
def word4 (x0 x1 x2 x3 b : Int) : Int := if b / 64 = 0 then x0 else if b / 64 = 1 then x1 else if b / 64 = 2 then x2 else x3
def bytes_Has.f (x0 x1 x2 x3 b : Int) : Option Bool := if 0 ≤ b ∧ b < 256 then some (Go.bits .and .u64 (word4 x0 x1 x2 x3 b / 2 ^ (b % 64).toNat) 1 == 1) else none
set_option maxHeartbeats 4000000 in
set_option maxRecDepth 100000 in
theorem bytes_Has.calls (x0 x1 x2 x3 b : Int) (r : Bool) (w : World) (h : bytes_Has.f x0 x1 x2 x3 b = some r) :
    Calls Tryd.prog 26 #[.agg #[.int .u64 x0, .int .u64 x1, .int .u64 x2, .int .u64 x3], .int .u8 b] w fun e w' => e = .returned (.bool r) ∧ Below w.heap.size w w' := by
  unfold bytes_Has.f at h
  by_cases hb : 0 ≤ b ∧ b < 256
  · rw [if_pos hb] at h
    obtain ⟨h0, h1⟩ := hb
    obtain rfl := Option.some.inj h
    clear h
    have hq : b / 64 = 0 ∨ b / 64 = 1 ∨ b / 64 = 2 ∨ b / 64 = 3 := by omega
    have hm : 0 ≤ b % 64 ∧ b % 64 < 64 := by omega
    rcases hq with hq | hq | hq | hq
    all_goals
      unfold word4
      simp only [hq]
      go_enter Tryd.func26, Tryd.ntmps26
      go_wp2_with fail
      go_ret
      refine ⟨rfl, ?_⟩
      repeat (first | exact Below.refl _ _ | (with_reducible apply below_alloc) | (with_reducible apply pw_below_drewN) | (with_reducible apply below_drew1))
  · rw [if_neg hb] at h
    cases h

end Go.Proofs.YtkabcjchgaokoaaDoor.PSj
