/- Proved here: a part of the laws of RegexBack and RegexNormal. No condition but those each theorem names. -/
import Derived.Test.YtkabcjchgaokoaaDoorPureBack2
import Derived.Test.YtkabcjchgaokoaaDoorGSjx23
import Derived.Laws.Bits64b
import Derived.Laws.Bits64
namespace Go.Proofs.YtkabcjchgaokoaaDoor.Pure
open Go.RowKit Go.Proofs.YtkabcjchgaokoaaDoor.PSj Go.Proofs.YtkabcjchgaokoaaDoorW.PrintWords Go.Proofs.YtkabcjchgaokoaaDoorW.PrintLast
set_option linter.unusedVariables false
set_option linter.unusedSimpArgs false

theorem copied_f (l : List S40) (z : l.length * 40 ≤ 140737488351232) : topiarylaw06_copied.f l = some l := by
  simp only [topiarylaw06_copied.f, Option.bind_some, List.length_nil, List.nil_append]
  rw [if_pos (by omega)]
theorem law (l0 : List S40) (hW : ∀ c ∈ l0, Wok c) (z : l0.length * 40 ≤ 140737488351232) : ∃ k, topiarylaw06_RegexBack.f k l0 = some true := by
  obtain ⟨k0, hk0⟩ := wakes_f
  have hwk : ∀ k, k0 ≤ k → topiarylaw06_wakes.f k = some true := fun k hk => at_rounds (fun k => topiarylaw06_wakes.mono k) hk hk0
  by_cases hr : rightOf l0 = true
  · obtain ⟨hlen, s, ⟨K1, h1⟩, h2, h3⟩ := show_back l0 hW hr
    by_cases hs : (s.size : Int) ≤ 200
    · obtain ⟨K2, g2⟩ := h2 hs
      obtain ⟨K3, g3⟩ := same_f l0 (by omega)
      refine ⟨k0 + K1 + K2 + K3, ?_⟩
      have e1 := h1 (k0 + K1 + K2 + K3) (by omega)
      have e2 := g2 (k0 + K1 + K2 + K3) (by omega)
      have e3 := g3 (k0 + K1 + K2 + K3) (by omega)
      simp only at e1 e2 e3
      unfold topiarylaw06_RegexBack.f
      rw [copied_f l0 z, Option.bind_some, e1, Option.bind_some, hwk _ (by omega), Option.bind_some, if_pos rfl, if_pos rfl, e2, Option.bind_some, if_neg (by simp only; omega), if_pos rfl, e3]
      rfl
    · obtain ⟨K2, g2⟩ := h3 (by omega)
      refine ⟨k0 + K1 + K2, ?_⟩
      have e1 := h1 (k0 + K1 + K2) (by omega)
      have e2 := g2 (k0 + K1 + K2) (by omega)
      simp only at e1 e2
      unfold topiarylaw06_RegexBack.f
      rw [copied_f l0 z, Option.bind_some, e1, Option.bind_some, hwk _ (by omega), Option.bind_some, if_pos rfl, if_pos rfl, e2, Option.bind_some, if_pos (by simp only; omega), if_pos rfl]
      rfl
  · have hr' : rightOf l0 = false := by simpa using hr
    obtain ⟨K1, h1⟩ := show_wrong l0 hr'
    refine ⟨k0 + K1 + 100, ?_⟩
    have e1 := h1 (k0 + K1 + 100) (by omega)
    simp only at e1
    unfold topiarylaw06_RegexBack.f
    rw [copied_f l0 z, Option.bind_some, e1, Option.bind_some, hwk _ (by omega), Option.bind_some, if_pos rfl, if_neg (by simp), if_pos (by decide +kernel), refright_f, hr', Option.bind_some]
    rfl

end Go.Proofs.YtkabcjchgaokoaaDoor.Pure
