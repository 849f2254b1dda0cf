/- Proved here: what the functions below come to: walks printed by a program, over contracts of this claim. -/
import Derived.Test.YtkabcjchgaokoaaDoorGSjx0
import Derived.Test.YtkabcjchgaokoaaDoorGSjx1
import Derived.Test.YtkabcjchgaokoaaDoorGSjx20
namespace Go.Proofs.YtkabcjchgaokoaaDoor.PSj
open Go.RowKit Go.Proofs.YtkabcjchgaokoaaDoorW.PrintWords Go.Proofs.YtkabcjchgaokoaaDoorW.PrintLast Go.Proofs.YtkabcjchgaokoaaDoorW.PrintMore
attribute [local go_sem] max2_int min2_int max_two min_two max_three min_three max_four min_four   -- for this text's walks alone
set_option linter.unusedVariables false
set_option linter.unusedSimpArgs false

attribute [local go_sem high] eqA38
/-! ### topiaryref06_Right: function 10 -/
mutual
def topiaryref06_Right.j0 : Nat → List (S40) → Bool → Option (Bool)
  | 0, _, _ => none
  | k + 1, x0, x14 => if x14 = true then (some false) else (topiaryref06_Right.l0 k x0 0 0)
def topiaryref06_Right.l0 : Nat → List (S40) → Int → Int → Option (Bool)
  | 0, _, _, _ => none
  | k + 1, x0, x3, x4 => if x4 < (x0.length : Int) then (if 0 ≤ x4 then ((topiaryref06_Wants.f k ((rd_T40 x0 x4).f0)).bind fun t139 => (if t139 < 0 then (some false) else (if x3 < t139 then (some false) else (if ((((rd_T40 x0 x4).f1.f0) == 0 && (((rd_T40 x0 x4).f1.f1) == 0 && (((rd_T40 x0 x4).f1.f2) == 0 && (((rd_T40 x0 x4).f1.f3) == 0)))) == (((rd_T40 x0 x4).f0) == 1)) = true then (some false) else (topiaryref06_Right.l0 k x0 (wrap64 ((wrap64 (x3 - t139)) + 1)) (wrap64 (x4 + 1))))))) else (none)) else (some (x3 == 1))
end
def topiaryref06_Right.f (k : Nat) (l0 : List (S40)) : Option (Bool) := if (l0.length : Int) < 1 then (topiaryref06_Right.j0 k l0 true) else (topiaryref06_Right.j0 k l0 (decide ((l0.length : Int) > 60)))
theorem topiaryref06_Right.mono_l : ∀ k, (∀ y0 y1, LeO (topiaryref06_Right.j0 k y0 y1) (topiaryref06_Right.j0 (k + 1) y0 y1)) ∧ (∀ y0 y1 y2, LeO (topiaryref06_Right.l0 k y0 y1 y2) (topiaryref06_Right.l0 (k + 1) y0 y1 y2))
  | 0 => ⟨fun _ _ r h => by simp [topiaryref06_Right.j0] at h, fun _ _ _ r h => by simp [topiaryref06_Right.l0] at h⟩
  | k + 1 => by
    obtain ⟨ih0, ih1⟩ := topiaryref06_Right.mono_l k
    refine ⟨?_, ?_⟩
    · intro y0 y1
      unfold topiaryref06_Right.j0
      repeat' first
      | (with_reducible exact ih0 _ _)
      | (with_reducible exact ih1 _ _ _)
      | (with_reducible exact topiaryref06_Wants.mono _ _)
      | (with_reducible exact LeO.refl _)
      | (with_reducible exact LeO.none _)
      | (with_reducible refine LeO.ite ?_ ?_)
      | (with_reducible refine LeO.bind ?_ (fun _ => ?_))
      | exact ih0 _ _
      | exact ih1 _ _ _
      | exact topiaryref06_Wants.mono _ _
      | exact LeO.none _
      | refine LeO.ite ?_ ?_
      | refine LeO.bind ?_ (fun _ => ?_)
    · intro y0 y1 y2
      unfold topiaryref06_Right.l0
      repeat' first
      | (with_reducible exact ih0 _ _)
      | (with_reducible exact ih1 _ _ _)
      | (with_reducible exact topiaryref06_Wants.mono _ _)
      | (with_reducible exact LeO.refl _)
      | (with_reducible exact LeO.none _)
      | (with_reducible refine LeO.ite ?_ ?_)
      | (with_reducible refine LeO.bind ?_ (fun _ => ?_))
      | exact ih0 _ _
      | exact ih1 _ _ _
      | exact topiaryref06_Wants.mono _ _
      | exact LeO.none _
      | refine LeO.ite ?_ ?_
      | refine LeO.bind ?_ (fun _ => ?_)
theorem topiaryref06_Right.mono : ∀ a0 k, LeO (topiaryref06_Right.f k a0) (topiaryref06_Right.f (k + 1) a0) := by
  intro a0 k
  obtain ⟨ih0, ih1⟩ := topiaryref06_Right.mono_l k
  unfold topiaryref06_Right.f
  repeat' first
      | (with_reducible exact ih0 _ _)
      | (with_reducible exact ih1 _ _ _)
      | (with_reducible exact topiaryref06_Wants.mono _ _)
      | (with_reducible exact LeO.refl _)
      | (with_reducible exact LeO.none _)
      | (with_reducible refine LeO.ite ?_ ?_)
      | (with_reducible refine LeO.bind ?_ (fun _ => ?_))
      | exact ih0 _ _
      | exact ih1 _ _ _
      | exact topiaryref06_Wants.mono _ _
      | exact LeO.none _
      | refine LeO.ite ?_ ?_
      | refine LeO.bind ?_ (fun _ => ?_)
set_option maxHeartbeats 8000000 in
set_option maxRecDepth 100000 in
theorem topiaryref06_Right.calls (k : Nat) (A0 : Option Addr) (c0 : Nat) (l0 : List (S40)) (r : Bool) (w : World) (hr0 : Kd.C k40 w A0 l0.length l0) (hc0 : l0.length ≤ c0) (h : topiaryref06_Right.f k l0 = some r) :
    Calls Tryd.prog 10 #[.slice A0 l0.length c0] w fun e w' => e = .returned (.bool r) ∧ Drawn0 w w' := by
  have hu38 := Tryd.underlying38
  have HR0 := Aside0.mk hr0
  have HC0 := Aside0.mk hc0
  clear hr0 hc0
  have H : (if (l0.length : Int) < 1 then (topiaryref06_Right.j0 k l0 true) else (topiaryref06_Right.j0 k l0 (decide ((l0.length : Int) > 60)))) = some r := h
  clear h
  have HC2 := Aside0.mk H
  clear H
  go_enter Tryd.func10, Tryd.ntmps10
  go_upto_region 1 with (fail)
  go_cut [14] (fun v14 wc => ∃ (kq : Nat) (x14_1 : Bool), v14 = .bool x14_1 ∧ Aside0 (topiaryref06_Right.j0 kq l0 x14_1 = some r) ∧ Aside0 (kq ≤ k) ∧ Drawn0 w wc)
  case first =>
    have H := HC2.out
    clear HC2
    by_cases c3 : (l0.length : Int) < 1
    · rw [if_pos c3] at H
      have c3b0 : decide ((l0.length : Int) < 1) = true := decide_eq_true c3
      have c3b1 : decide (l0.length < 1) = true := decide_eq_true (by omega)
      clear c3
      (first | rw [c3b0] | (simp only [i64_w, i32_w]; rw [c3b0]) | skip)
      have H' := Aside0.mk H
      clear H
      go_wp2
      go_meet
      case rel => exact ⟨_, (true), (by first | rfl | (simp; done) | (simp [*]; done)), H', ⟨by first | omega | exact Nat.le_refl _⟩, by repeat (first | exact Drawn0.refl _ | apply Drawn0.step)⟩
    · rw [if_neg c3] at H
      have c3b0 : decide ((l0.length : Int) < 1) = false := decide_eq_false c3
      have c3b1 : decide (l0.length < 1) = false := decide_eq_false (by omega)
      clear c3
      (first | rw [c3b0] | (simp only [i64_w, i32_w]; rw [c3b0]) | skip)
      have H' := Aside0.mk H
      clear H
      go_wp2
      go_meet
      case rel => exact ⟨_, (decide ((l0.length : Int) > 60)), (by first | rfl | (simp; done) | (simp [*]; done)), H', ⟨by first | omega | exact Nat.le_refl _⟩, by repeat (first | exact Drawn0.refl _ | apply Drawn0.step)⟩
  case rest =>
    clear HC2
    try clear c1
    try clear p2
    try clear c3
    try clear c3b0
    try clear c3b1
    obtain ⟨kq, x14_1, rfl, HA, HJ1, ⟨mc1, rfl⟩⟩ := hcut
    cases kq with
    | zero => exact absurd HA.out (by simp [topiaryref06_Right.j0])
    | succ kj1 =>
      have H := HA.out
      clear HA
      simp only [topiaryref06_Right.j0] at H
      by_cases c4 : x14_1 = true
      · subst c4
        have H1 : (some false) = some r := by rw [if_pos rfl] at H; exact H
        clear H
        have H := H1
        clear H1
        obtain rfl := Option.some.inj H
        go_wp2
        go_ret
        exact ⟨by first | rfl | (simp; done) | (simp [*]; done), by repeat (first | exact Drawn0.refl _ | apply Drawn0.step)⟩
      · replace c4 := Bool.eq_false_iff.mpr c4
        subst c4
        have H1 : (topiaryref06_Right.l0 kj1 l0 0 0) = some r := by rw [if_neg (show ¬ (false = true) by decide)] at H; exact H
        clear H
        have H := H1
        clear H1
        have H' := Aside0.mk H
        clear H
        go_wp2
        go_loopg [3, 4] kj1 (fun kq v3 v4 w' => ∃ (x3_2 : Int) (x4_2 : Int), v3 = .int .i64 x3_2 ∧ v4 = .int .i64 x4_2 ∧ Aside0 (topiaryref06_Right.l0 kq l0 x3_2 x4_2 = some r) ∧ Aside0 (kq ≤ kj1) ∧ Drawn0 w w')
        case atStart => exact ⟨(0), (0), (by first | rfl | (simp; done) | (simp [*]; done)), (by first | rfl | (simp; done) | (simp [*]; done)), H', ⟨Nat.le_refl _⟩, by repeat (first | exact Drawn0.refl _ | apply Drawn0.step)⟩
        case round =>
          clear H'
          try clear c1
          try clear p2
          try clear c3
          try clear c3b0
          try clear c3b1
          try clear c4
          try clear p2
          obtain ⟨x3_2, x4_2, rfl, rfl, HA, HK2, ⟨m2, rfl⟩⟩ := hrel
          cases gk with
          | zero => exact absurd HA.out (by simp [topiaryref06_Right.l0])
          | succ k2 =>
            have H := HA.out
            clear HA
            simp only [topiaryref06_Right.l0] at H
            by_cases c5 : x4_2 < (l0.length : Int)
            · rw [if_pos c5] at H
              have c5b0 : decide (x4_2 < (l0.length : Int)) = true := decide_eq_true c5
              clear c5
              by_cases c6 : 0 ≤ x4_2
              · rw [if_pos c6] at H
                have c6b0 : decide (0 ≤ x4_2) = true := decide_eq_true c6
                clear c6
                replace H := Option.bind_eq_some_iff.mp H
                obtain ⟨t139, A70, H⟩ := H
                replace H : (if t139 < 0 then (some false) else (if x3_2 < t139 then (some false) else (if ((((rd_T40 l0 x4_2).f1.f0) == 0 && (((rd_T40 l0 x4_2).f1.f1) == 0 && (((rd_T40 l0 x4_2).f1.f2) == 0 && (((rd_T40 l0 x4_2).f1.f3) == 0)))) == (((rd_T40 l0 x4_2).f0) == 1)) = true then (some false) else (topiaryref06_Right.l0 k2 l0 (wrap64 ((wrap64 (x3_2 - t139)) + 1)) (wrap64 (x4_2 + 1)))))) = some r := H
                have A7 := Aside0.mk A70
                clear A70
                by_cases c8 : t139 < 0
                · rw [if_pos c8] at H
                  have c8b0 : decide (t139 < 0) = true := decide_eq_true c8
                  clear c8
                  obtain rfl := Option.some.inj H
                  have p138 : 0 ≤ (x4_2 : Int) := of_decide_eq_true (by first | (with_reducible assumption) | assumption)
                  have q138 : x4_2 < (l0.length : Int) := of_decide_eq_true (by first | (with_reducible assumption) | assumption)
                  obtain ⟨ad138, e138, hx138_0, hx138_1, hx138_2, hx138_3, hx138_4⟩ := at_T40 HR0.out x4_2 p138 q138
                  cases e138
                  replace p138 := eq_true p138
                  replace q138 := eq_true q138
                  go_wp2_with (first | ((with_reducible refine gate_callee (f := 17) rfl ?_); refine goesL_ (some 26) rfl rfl Tryd.func17 (by kernel_rfl) rfl #[.int .i64 ((rd_T40 l0 x4_2).f0)] rfl (by (try simp only [List.map_toArray, List.map_cons, List.map_nil]); first | done | rfl | (simp only [List.length_drop, List.length_take]; rfl)) ?_; (with_reducible refine (topiaryref06_Wants.calls k2 ((rd_T40 l0 x4_2).f0) t139 _ A7.out).mono ?_); rintro e w' ⟨rfl, ⟨nd, rfl⟩⟩; refine ⟨_, rfl, ?_⟩; have p140 : 0 ≤ (x4_2 : Int) := of_decide_eq_true (by first | (with_reducible assumption) | assumption); have q140 : x4_2 < (l0.length : Int) := of_decide_eq_true (by first | (with_reducible assumption) | assumption); obtain ⟨ad140, e140, hx140_0, hx140_1, hx140_2, hx140_3, hx140_4⟩ := at_T40 HR0.out x4_2 p140 q140; obtain rfl : ad138 = ad140 := (by injection e140); replace p140 := eq_true p140; replace q140 := eq_true q140))
                  go_ret
                  exact ⟨by first | rfl | (simp; done) | (simp [*]; done), by repeat (first | exact Drawn0.refl _ | apply Drawn0.step)⟩
                · rw [if_neg c8] at H
                  have c8b0 : decide (t139 < 0) = false := decide_eq_false c8
                  clear c8
                  by_cases c9 : x3_2 < t139
                  · rw [if_pos c9] at H
                    have c9b0 : decide (x3_2 < t139) = true := decide_eq_true c9
                    clear c9
                    obtain rfl := Option.some.inj H
                    have p138 : 0 ≤ (x4_2 : Int) := of_decide_eq_true (by first | (with_reducible assumption) | assumption)
                    have q138 : x4_2 < (l0.length : Int) := of_decide_eq_true (by first | (with_reducible assumption) | assumption)
                    obtain ⟨ad138, e138, hx138_0, hx138_1, hx138_2, hx138_3, hx138_4⟩ := at_T40 HR0.out x4_2 p138 q138
                    cases e138
                    replace p138 := eq_true p138
                    replace q138 := eq_true q138
                    go_wp2_with (first | ((with_reducible refine gate_callee (f := 17) rfl ?_); refine goesL_ (some 26) rfl rfl Tryd.func17 (by kernel_rfl) rfl #[.int .i64 ((rd_T40 l0 x4_2).f0)] rfl (by (try simp only [List.map_toArray, List.map_cons, List.map_nil]); first | done | rfl | (simp only [List.length_drop, List.length_take]; rfl)) ?_; (with_reducible refine (topiaryref06_Wants.calls k2 ((rd_T40 l0 x4_2).f0) t139 _ A7.out).mono ?_); rintro e w' ⟨rfl, ⟨nd, rfl⟩⟩; refine ⟨_, rfl, ?_⟩; have p140 : 0 ≤ (x4_2 : Int) := of_decide_eq_true (by first | (with_reducible assumption) | assumption); have q140 : x4_2 < (l0.length : Int) := of_decide_eq_true (by first | (with_reducible assumption) | assumption); obtain ⟨ad140, e140, hx140_0, hx140_1, hx140_2, hx140_3, hx140_4⟩ := at_T40 HR0.out x4_2 p140 q140; obtain rfl : ad138 = ad140 := (by injection e140); replace p140 := eq_true p140; replace q140 := eq_true q140))
                    go_ret
                    exact ⟨by first | rfl | (simp; done) | (simp [*]; done), by repeat (first | exact Drawn0.refl _ | apply Drawn0.step)⟩
                  · rw [if_neg c9] at H
                    have c9b0 : decide (x3_2 < t139) = false := decide_eq_false c9
                    clear c9
                    by_cases c10 : ((((rd_T40 l0 x4_2).f1.f0) == 0 && (((rd_T40 l0 x4_2).f1.f1) == 0 && (((rd_T40 l0 x4_2).f1.f2) == 0 && (((rd_T40 l0 x4_2).f1.f3) == 0)))) == (((rd_T40 l0 x4_2).f0) == 1)) = true
                    · rw [if_pos c10] at H
                      have c10b0 : ((((rd_T40 l0 x4_2).f1.f0) == 0 && (((rd_T40 l0 x4_2).f1.f1) == 0 && (((rd_T40 l0 x4_2).f1.f2) == 0 && (((rd_T40 l0 x4_2).f1.f3) == 0)))) == (((rd_T40 l0 x4_2).f0) == 1)) = true := c10
                      (try (have c10b1 : decide ((((rd_T40 l0 x4_2).f1.f0) == 0 && (((rd_T40 l0 x4_2).f1.f1) == 0 && (((rd_T40 l0 x4_2).f1.f2) == 0 && (((rd_T40 l0 x4_2).f1.f3) == 0)))) = (((rd_T40 l0 x4_2).f0) == 1)) = true := by simpa using c10))
                      (try (have c10b2 : ((((rd_T40 l0 x4_2).f1.f0) == 0 && (((rd_T40 l0 x4_2).f1.f1) == 0 && (((rd_T40 l0 x4_2).f1.f2) == 0 && (((rd_T40 l0 x4_2).f1.f3) == 0)))) == (((rd_T40 l0 x4_2).f0) == 1)) = true := by simpa using c10))
                      clear c10
                      obtain rfl := Option.some.inj H
                      have p138 : 0 ≤ (x4_2 : Int) := of_decide_eq_true (by first | (with_reducible assumption) | assumption)
                      have q138 : x4_2 < (l0.length : Int) := of_decide_eq_true (by first | (with_reducible assumption) | assumption)
                      obtain ⟨ad138, e138, hx138_0, hx138_1, hx138_2, hx138_3, hx138_4⟩ := at_T40 HR0.out x4_2 p138 q138
                      cases e138
                      replace p138 := eq_true p138
                      replace q138 := eq_true q138
                      go_wp2_with (first | ((with_reducible refine gate_callee (f := 17) rfl ?_); refine goesL_ (some 26) rfl rfl Tryd.func17 (by kernel_rfl) rfl #[.int .i64 ((rd_T40 l0 x4_2).f0)] rfl (by (try simp only [List.map_toArray, List.map_cons, List.map_nil]); first | done | rfl | (simp only [List.length_drop, List.length_take]; rfl)) ?_; (with_reducible refine (topiaryref06_Wants.calls k2 ((rd_T40 l0 x4_2).f0) t139 _ A7.out).mono ?_); rintro e w' ⟨rfl, ⟨nd, rfl⟩⟩; refine ⟨_, rfl, ?_⟩; have p140 : 0 ≤ (x4_2 : Int) := of_decide_eq_true (by first | (with_reducible assumption) | assumption); have q140 : x4_2 < (l0.length : Int) := of_decide_eq_true (by first | (with_reducible assumption) | assumption); obtain ⟨ad140, e140, hx140_0, hx140_1, hx140_2, hx140_3, hx140_4⟩ := at_T40 HR0.out x4_2 p140 q140; obtain rfl : ad138 = ad140 := (by injection e140); replace p140 := eq_true p140; replace q140 := eq_true q140; have p141 : 0 ≤ (x4_2 : Int) := of_decide_eq_true (by first | (with_reducible assumption) | assumption); have q141 : x4_2 < (l0.length : Int) := of_decide_eq_true (by first | (with_reducible assumption) | assumption); obtain ⟨ad141, e141, hx141_0, hx141_1, hx141_2, hx141_3, hx141_4⟩ := at_T40 HR0.out x4_2 p141 q141; obtain rfl : ad138 = ad141 := (by injection e141); replace p141 := eq_true p141; replace q141 := eq_true q141))
                      go_ret
                      exact ⟨by first | rfl | (simp; done) | (simp [*]; done), by repeat (first | exact Drawn0.refl _ | apply Drawn0.step)⟩
                    · rw [if_neg c10] at H
                      have c10b0 : ((((rd_T40 l0 x4_2).f1.f0) == 0 && (((rd_T40 l0 x4_2).f1.f1) == 0 && (((rd_T40 l0 x4_2).f1.f2) == 0 && (((rd_T40 l0 x4_2).f1.f3) == 0)))) == (((rd_T40 l0 x4_2).f0) == 1)) = false := by simpa using c10
                      (try (have c10b1 : decide ((((rd_T40 l0 x4_2).f1.f0) == 0 && (((rd_T40 l0 x4_2).f1.f1) == 0 && (((rd_T40 l0 x4_2).f1.f2) == 0 && (((rd_T40 l0 x4_2).f1.f3) == 0)))) = (((rd_T40 l0 x4_2).f0) == 1)) = false := by simpa using c10))
                      (try (have c10b2 : ((((rd_T40 l0 x4_2).f1.f0) == 0 && (((rd_T40 l0 x4_2).f1.f1) == 0 && (((rd_T40 l0 x4_2).f1.f2) == 0 && (((rd_T40 l0 x4_2).f1.f3) == 0)))) == (((rd_T40 l0 x4_2).f0) == 1)) = false := by simpa using c10))
                      (try (have c10b3 : ¬ ((((rd_T40 l0 x4_2).f1.f0) == 0 && (((rd_T40 l0 x4_2).f1.f1) == 0 && (((rd_T40 l0 x4_2).f1.f2) == 0 && (((rd_T40 l0 x4_2).f1.f3) == 0)))) = (((rd_T40 l0 x4_2).f0) == 1)) := by simpa using c10))
                      clear c10
                      have H' := Aside0.mk H
                      clear H
                      have p138 : 0 ≤ (x4_2 : Int) := of_decide_eq_true (by first | (with_reducible assumption) | assumption)
                      have q138 : x4_2 < (l0.length : Int) := of_decide_eq_true (by first | (with_reducible assumption) | assumption)
                      obtain ⟨ad138, e138, hx138_0, hx138_1, hx138_2, hx138_3, hx138_4⟩ := at_T40 HR0.out x4_2 p138 q138
                      cases e138
                      replace p138 := eq_true p138
                      replace q138 := eq_true q138
                      go_wp2_with (first | ((with_reducible refine gate_callee (f := 17) rfl ?_); refine goesL_ (some 26) rfl rfl Tryd.func17 (by kernel_rfl) rfl #[.int .i64 ((rd_T40 l0 x4_2).f0)] rfl (by (try simp only [List.map_toArray, List.map_cons, List.map_nil]); first | done | rfl | (simp only [List.length_drop, List.length_take]; rfl)) ?_; (with_reducible refine (topiaryref06_Wants.calls k2 ((rd_T40 l0 x4_2).f0) t139 _ A7.out).mono ?_); rintro e w' ⟨rfl, ⟨nd, rfl⟩⟩; refine ⟨_, rfl, ?_⟩; have p140 : 0 ≤ (x4_2 : Int) := of_decide_eq_true (by first | (with_reducible assumption) | assumption); have q140 : x4_2 < (l0.length : Int) := of_decide_eq_true (by first | (with_reducible assumption) | assumption); obtain ⟨ad140, e140, hx140_0, hx140_1, hx140_2, hx140_3, hx140_4⟩ := at_T40 HR0.out x4_2 p140 q140; obtain rfl : ad138 = ad140 := (by injection e140); replace p140 := eq_true p140; replace q140 := eq_true q140; have p141 : 0 ≤ (x4_2 : Int) := of_decide_eq_true (by first | (with_reducible assumption) | assumption); have q141 : x4_2 < (l0.length : Int) := of_decide_eq_true (by first | (with_reducible assumption) | assumption); obtain ⟨ad141, e141, hx141_0, hx141_1, hx141_2, hx141_3, hx141_4⟩ := at_T40 HR0.out x4_2 p141 q141; obtain rfl : ad138 = ad141 := (by injection e141); replace p141 := eq_true p141; replace q141 := eq_true q141))
                      go_roundg k2
                      case measure => have := HJ1.out; have := HK2.out; omega
                      case rel => exact ⟨(wrap64 ((wrap64 (x3_2 - t139)) + 1)), (wrap64 (x4_2 + 1)), (by first | rfl | (simp; done) | (simp [*]; done)), (by first | rfl | (simp; done) | (simp [*]; done)), H', ⟨by have := HJ1.out; have := HK2.out; omega⟩, by repeat (first | exact Drawn0.refl _ | apply Drawn0.step)⟩
              · rw [if_neg c6] at H
                exact absurd H (by simp)
            · rw [if_neg c5] at H
              have c5b0 : decide (x4_2 < (l0.length : Int)) = false := decide_eq_false c5
              clear c5
              obtain rfl := Option.some.inj H
              go_wp2
              go_ret
              exact ⟨by first | rfl | (simp; done) | (simp [*]; done), by repeat (first | exact Drawn0.refl _ | apply Drawn0.step)⟩

end Go.Proofs.YtkabcjchgaokoaaDoor.PSj
