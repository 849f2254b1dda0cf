/- Proved here: a part of the laws of RegexBack and RegexNormal. No condition but those each theorem names. -/
import Derived.Test.YtkabcjchgaokoaaDoorPureBack2
import Derived.Test.YtkabcjchgaokoaaDoorGSjx24
import Derived.Laws.Bits64b
import Derived.Laws.Bits64
namespace Go.Proofs.YtkabcjchgaokoaaDoor.Pure
open Go.RowKit Go.Proofs.YtkabcjchgaokoaaDoor.PSj Go.Proofs.YtkabcjchgaokoaaDoorW.PrintWords Go.Proofs.YtkabcjchgaokoaaDoorW.PrintLast
set_option linter.unusedVariables false
set_option linter.unusedSimpArgs false

theorem lawN (s : ByteArray) : ∃ k, topiarylaw06_RegexNormal.f k s = some true := by
  obtain ⟨k0, hk0⟩ := wakes_f
  have hwk : ∀ k, k0 ≤ k → topiarylaw06_wakes.f k = some true := fun k hk => at_rounds (fun k => topiarylaw06_wakes.mono k) hk hk0
  by_cases h4096 : (s.size : Int) > 4096
  · refine ⟨k0, ?_⟩
    unfold topiarylaw06_RegexNormal.f
    rw [hwk _ (by omega), Option.bind_some, if_pos rfl, if_pos h4096]
  rcases parse_right s with ⟨l, hr, hW, K0, h0⟩ | ⟨n, e, ⟨K0, h0⟩, he⟩
  · obtain ⟨hlen, t, ⟨K1, h1⟩, h2, h3⟩ := show_back l hW hr
    by_cases hs : (t.size : Int) ≤ 200
    · obtain ⟨K2, g2⟩ := h2 hs
      obtain ⟨K3, g3⟩ := same_f l (by omega)
      refine ⟨k0 + K0 + K1 + K2 + K3, ?_⟩
      have e0 := h0 (k0 + K0 + K1 + K2 + K3) (by omega)
      have e1 := h1 (k0 + K0 + K1 + K2 + K3) (by omega)
      have e2 := g2 (k0 + K0 + K1 + K2 + K3) (by omega)
      have e3 := g3 (k0 + K0 + K1 + K2 + K3) (by omega)
      simp only at e0 e1 e2 e3
      unfold topiarylaw06_RegexNormal.f
      rw [hwk _ (by omega), Option.bind_some, if_pos rfl, if_neg h4096, e0, Option.bind_some, if_pos rfl, e1, Option.bind_some, e2, Option.bind_some, if_pos rfl, if_neg (by simp only; omega), if_pos rfl, e3]
      rfl
    · obtain ⟨K2, g2⟩ := h3 (by omega)
      refine ⟨k0 + K0 + K1 + K2, ?_⟩
      have e0 := h0 (k0 + K0 + K1 + K2) (by omega)
      have e1 := h1 (k0 + K0 + K1 + K2) (by omega)
      have e2 := g2 (k0 + K0 + K1 + K2) (by omega)
      simp only at e0 e1 e2
      unfold topiarylaw06_RegexNormal.f
      rw [hwk _ (by omega), Option.bind_some, if_pos rfl, if_neg h4096, e0, Option.bind_some, if_pos rfl, e1, Option.bind_some, e2, Option.bind_some, if_pos rfl, if_pos (by simp only; omega)]
  · refine ⟨k0 + K0, ?_⟩
    have e0 := h0 (k0 + K0) (by omega)
    simp only at e0
    unfold topiarylaw06_RegexNormal.f
    rw [hwk _ (by omega), Option.bind_some, if_pos rfl, if_neg h4096, e0, Option.bind_some, if_neg he]
    rfl

end Go.Proofs.YtkabcjchgaokoaaDoor.Pure
