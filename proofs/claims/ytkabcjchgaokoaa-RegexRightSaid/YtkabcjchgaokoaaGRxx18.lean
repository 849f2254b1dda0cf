/- Proved here: what the functions below come to: walks printed by a program, over contracts of this claim. -/
import Derived.Test.YtkabcjchgaokoaaGRxx0
import Derived.Test.YtkabcjchgaokoaaGRxx17
namespace Go.Proofs.Ytkabcjchgaokoaa.PRx
open Go.RowKit Go.Proofs.YtkabcjchgaokoaaW.PrintWords Go.Proofs.YtkabcjchgaokoaaW.PrintLast Go.Proofs.YtkabcjchgaokoaaW.PrintMore
attribute [local go_sem] max2_int min2_int max_two min_two max_three min_three max_four min_four   -- for this text's walks alone
set_option linter.unusedVariables false
set_option linter.unusedSimpArgs false

/-! ### topiaryref06_Empty: function 17 -/
mutual
def topiaryref06_Empty.j0 : Nat → List (S32) → Int → Int → Bool → Option (Bool)
  | 0, _, _, _, _ => none
  | k + 1, x0, x1, x9, x10 => if x10 = true then (some true) else (if x9 = 6 then ((topiaryref06_Empty.f k x0 (wrap64 (x1 - 1))).bind fun t127 => (some t127)) else (if x9 = 3 then ((topiaryref06_Empty.f k x0 (wrap64 (x1 - 1))).bind fun t128 => (if t128 = true then ((topiaryref06_From.f k x0 (wrap64 (x1 - 1))).bind fun t129 => ((topiaryref06_Empty.f k x0 (wrap64 (t129 - 1))).bind fun t130 => (some t130))) else (some false))) else (if x9 = 4 then ((topiaryref06_Empty.f k x0 (wrap64 (x1 - 1))).bind fun t131 => (if t131 = true then (some true) else ((topiaryref06_From.f k x0 (wrap64 (x1 - 1))).bind fun t132 => ((topiaryref06_Empty.f k x0 (wrap64 (t132 - 1))).bind fun t133 => (some t133))))) else (some false))))
def topiaryref06_Empty.f : Nat → List (S32) → Int → Option (Bool)
  | 0, _, _ => none
  | k + 1, l0, a1 => if 0 ≤ a1 then (if a1 < (l0.length : Int) then (if ((rd_T32 l0 a1).f0) = 2 then (topiaryref06_Empty.j0 k l0 a1 ((rd_T32 l0 a1).f0) (((rd_T32 l0 a1).f0) == 2)) else (if ((rd_T32 l0 a1).f0) = 5 then (topiaryref06_Empty.j0 k l0 a1 ((rd_T32 l0 a1).f0) (((rd_T32 l0 a1).f0) == 5)) else (topiaryref06_Empty.j0 k l0 a1 ((rd_T32 l0 a1).f0) (((rd_T32 l0 a1).f0) == 7)))) else (none)) else (none)
end
theorem topiaryref06_Empty.mono_l : ∀ k, (∀ y0 y1, LeO (topiaryref06_Empty.f k y0 y1) (topiaryref06_Empty.f (k + 1) y0 y1)) ∧ (∀ y0 y1 y2 y3, LeO (topiaryref06_Empty.j0 k y0 y1 y2 y3) (topiaryref06_Empty.j0 (k + 1) y0 y1 y2 y3))
  | 0 => ⟨fun _ _ r h => by simp [topiaryref06_Empty.f] at h, fun _ _ _ _ r h => by simp [topiaryref06_Empty.j0] at h⟩
  | k + 1 => by
    obtain ⟨ih0, ih1⟩ := topiaryref06_Empty.mono_l k
    refine ⟨?_, ?_⟩
    · intro y0 y1
      unfold topiaryref06_Empty.f
      repeat' first
      | (with_reducible exact ih0 _ _)
      | (with_reducible exact ih1 _ _ _ _)
      | (with_reducible exact topiaryref06_From.mono _ _ _)
      | (with_reducible exact LeO.refl _)
      | (with_reducible exact LeO.none _)
      | (with_reducible refine LeO.ite ?_ ?_)
      | (with_reducible refine LeO.bind ?_ (fun _ => ?_))
      | exact ih0 _ _
      | exact ih1 _ _ _ _
      | exact topiaryref06_From.mono _ _ _
      | exact LeO.none _
      | refine LeO.ite ?_ ?_
      | refine LeO.bind ?_ (fun _ => ?_)
    · intro y0 y1 y2 y3
      unfold topiaryref06_Empty.j0
      repeat' first
      | (with_reducible exact ih0 _ _)
      | (with_reducible exact ih1 _ _ _ _)
      | (with_reducible exact topiaryref06_From.mono _ _ _)
      | (with_reducible exact LeO.refl _)
      | (with_reducible exact LeO.none _)
      | (with_reducible refine LeO.ite ?_ ?_)
      | (with_reducible refine LeO.bind ?_ (fun _ => ?_))
      | exact ih0 _ _
      | exact ih1 _ _ _ _
      | exact topiaryref06_From.mono _ _ _
      | exact LeO.none _
      | refine LeO.ite ?_ ?_
      | refine LeO.bind ?_ (fun _ => ?_)
theorem topiaryref06_Empty.mono : ∀ a0 a1 k, LeO (topiaryref06_Empty.f k a0 a1) (topiaryref06_Empty.f (k + 1) a0 a1) := by
  intro a0 a1 k
  obtain ⟨ih0, ih1⟩ := topiaryref06_Empty.mono_l k
  exact ih0 a0 a1
set_option maxHeartbeats 8000000 in
set_option maxRecDepth 100000 in
theorem topiaryref06_Empty.calls (k : Nat) : ∀ (A0 : Option Addr) (c0 : Nat) (l0 : List (S32)) (a1 : Int) (r : Bool) (w : World) (hr0 : Kd.C k32 w A0 l0.length l0) (hc0 : l0.length ≤ c0) (h : topiaryref06_Empty.f k l0 a1 = some r),
    Calls Try.prog 17 #[.slice A0 l0.length c0, .int .i64 a1] w fun e w' => e = .returned (.bool r) ∧ Drawn0 w w' := by
  induction k using Nat.strongRecOn with
  | _ k ih =>
  intro A0 c0 l0 a1 r w hr0 hc0 h
  cases k with
  | zero => exact absurd h (by simp [topiaryref06_Empty.f])
  | succ k =>
  simp only [topiaryref06_Empty.f] at h
  have HR0 := Aside0.mk hr0
  have HC0 := Aside0.mk hc0
  clear hr0 hc0
  have H : (if 0 ≤ a1 then (if a1 < (l0.length : Int) then (if ((rd_T32 l0 a1).f0) = 2 then (topiaryref06_Empty.j0 k l0 a1 ((rd_T32 l0 a1).f0) (((rd_T32 l0 a1).f0) == 2)) else (if ((rd_T32 l0 a1).f0) = 5 then (topiaryref06_Empty.j0 k l0 a1 ((rd_T32 l0 a1).f0) (((rd_T32 l0 a1).f0) == 5)) else (topiaryref06_Empty.j0 k l0 a1 ((rd_T32 l0 a1).f0) (((rd_T32 l0 a1).f0) == 7)))) else (none)) else (none)) = some r := h
  clear h
  by_cases c3 : 0 ≤ a1
  · rw [if_pos c3] at H
    have c3b0 : decide (0 ≤ a1) = true := decide_eq_true c3
    clear c3
    by_cases c4 : a1 < (l0.length : Int)
    · rw [if_pos c4] at H
      have c4b0 : decide (a1 < (l0.length : Int)) = true := decide_eq_true c4
      clear c4
      have HC5 := Aside0.mk H
      clear H
      have p126 : 0 ≤ (a1 : Int) := of_decide_eq_true (by first | (with_reducible assumption) | assumption)
      have q126 : a1 < (l0.length : Int) := of_decide_eq_true (by first | (with_reducible assumption) | assumption)
      obtain ⟨ad126, e126, hx126_0, hx126_1, hx126_2, hx126_3, hx126_4⟩ := at_T32 HR0.out a1 p126 q126
      cases e126
      replace p126 := eq_true p126
      replace q126 := eq_true q126
      go_enter Try.func17, Try.ntmps17
      go_upto_if 10 with (fail)
      go_cut [10] (fun v10 wc => ∃ (kq : Nat) (x10_4 : Bool), v10 = .bool x10_4 ∧ Aside0 (topiaryref06_Empty.j0 kq l0 a1 ((rd_T32 l0 a1).f0) x10_4 = some r) ∧ Aside0 (kq ≤ k) ∧ Drawn0 w wc)
      case first =>
        have H := HC5.out
        clear HC5
        by_cases c6 : ((rd_T32 l0 a1).f0) = 2
        · rw [if_pos c6] at H
          have c6b0 : (((rd_T32 l0 a1).f0) == 2) = true := beq_iff_eq.mpr c6
          have c6b1 : (((rd_T32 l0 a1).f0) != 2) = false := bne_eq_false_iff_eq.mpr c6
          clear c6
          (first | rw [c6b0] | (simp only [i64_w, i32_w]; rw [c6b0]) | skip)
          have H' := Aside0.mk H
          clear H
          go_wp2
          go_meet
          case rel => exact ⟨_, ((((rd_T32 l0 a1).f0) == 2)), (by first | rfl | (simp; done) | (simp [*]; done)), H', ⟨by first | omega | exact Nat.le_refl _⟩, by repeat (first | exact Drawn0.refl _ | apply Drawn0.step)⟩
        · rw [if_neg c6] at H
          have c6b0 : (((rd_T32 l0 a1).f0) == 2) = false := beq_eq_false_iff_ne.mpr c6
          have c6b1 : (((rd_T32 l0 a1).f0) != 2) = true := bne_iff_ne.mpr c6
          (first | rw [c6b0] | (simp only [i64_w, i32_w]; rw [c6b0]) | skip)
          by_cases c7 : ((rd_T32 l0 a1).f0) = 5
          · rw [if_pos c7] at H
            have c7b0 : (((rd_T32 l0 a1).f0) == 5) = true := beq_iff_eq.mpr c7
            have c7b1 : (((rd_T32 l0 a1).f0) != 5) = false := bne_eq_false_iff_eq.mpr c7
            clear c7
            have H' := Aside0.mk H
            clear H
            go_wp2
            go_meet
            case rel => exact ⟨_, ((((rd_T32 l0 a1).f0) == 5)), (by first | rfl | (simp; done) | (simp [*]; done)), H', ⟨by first | omega | exact Nat.le_refl _⟩, by repeat (first | exact Drawn0.refl _ | apply Drawn0.step)⟩
          · rw [if_neg c7] at H
            have c7b0 : (((rd_T32 l0 a1).f0) == 5) = false := beq_eq_false_iff_ne.mpr c7
            have c7b1 : (((rd_T32 l0 a1).f0) != 5) = true := bne_iff_ne.mpr c7
            have H' := Aside0.mk H
            clear H
            go_wp2
            go_meet
            case rel => exact ⟨_, ((((rd_T32 l0 a1).f0) == 7)), (by first | rfl | (simp; done) | (simp [*]; done)), H', ⟨by first | omega | exact Nat.le_refl _⟩, by repeat (first | exact Drawn0.refl _ | apply Drawn0.step)⟩
      case rest =>
        clear HC5
        try clear c1
        try clear p1
        try clear q1
        try clear hx1
        try clear p2
        try clear c3
        try clear c3b0
        try clear c4
        try clear c4b0
        try clear c6
        try clear c6b0
        try clear c6b1
        try clear c7
        try clear c7b0
        try clear c7b1
        try clear hx126_0
        try clear hx126_1
        try clear hx126_2
        try clear hx126_3
        try clear hx126_4
        try clear p126
        try clear q126
        obtain ⟨kq, x10_4, rfl, HA, HJ4, ⟨mc4, rfl⟩⟩ := hcut
        cases kq with
        | zero => exact absurd HA.out (by simp [topiaryref06_Empty.j0])
        | succ kj4 =>
          have H := HA.out
          clear HA
          simp only [topiaryref06_Empty.j0] at H
          by_cases c8 : x10_4 = true
          · subst c8
            have H1 : (some true) = some r := by rw [if_pos rfl] at H; exact H
            clear H
            have H := H1
            clear H1
            obtain rfl := Option.some.inj H
            go_wp2
            go_ret
            exact ⟨by first | rfl | (simp; done) | (simp [*]; done), by repeat (first | exact Drawn0.refl _ | apply Drawn0.step)⟩
          · replace c8 := Bool.eq_false_iff.mpr c8
            subst c8
            have H1 : (if ((rd_T32 l0 a1).f0) = 6 then ((topiaryref06_Empty.f kj4 l0 (wrap64 (a1 - 1))).bind fun t127 => (some t127)) else (if ((rd_T32 l0 a1).f0) = 3 then ((topiaryref06_Empty.f kj4 l0 (wrap64 (a1 - 1))).bind fun t128 => (if t128 = true then ((topiaryref06_From.f kj4 l0 (wrap64 (a1 - 1))).bind fun t129 => ((topiaryref06_Empty.f kj4 l0 (wrap64 (t129 - 1))).bind fun t130 => (some t130))) else (some false))) else (if ((rd_T32 l0 a1).f0) = 4 then ((topiaryref06_Empty.f kj4 l0 (wrap64 (a1 - 1))).bind fun t131 => (if t131 = true then (some true) else ((topiaryref06_From.f kj4 l0 (wrap64 (a1 - 1))).bind fun t132 => ((topiaryref06_Empty.f kj4 l0 (wrap64 (t132 - 1))).bind fun t133 => (some t133))))) else (some false)))) = some r := by rw [if_neg (show ¬ (false = true) by decide)] at H; exact H
            clear H
            have H := H1
            clear H1
            by_cases c9 : ((rd_T32 l0 a1).f0) = 6
            · rw [if_pos c9] at H
              have c9b0 : (((rd_T32 l0 a1).f0) == 6) = true := beq_iff_eq.mpr c9
              have c9b1 : (((rd_T32 l0 a1).f0) != 6) = false := bne_eq_false_iff_eq.mpr c9
              clear c9
              replace H := Option.bind_eq_some_iff.mp H
              obtain ⟨t127, A100, H⟩ := H
              replace H : (some t127) = some r := H
              have A10 := Aside0.mk A100
              clear A100
              obtain rfl := Option.some.inj H
              go_wp2_with (first | ((with_reducible refine gate_callee (f := 17) rfl ?_); refine goesL_ (some 19) rfl rfl Try.func17 (by kernel_rfl) rfl #[.slice (some ad126) l0.length c0, .int .i64 (wrap64 (a1 - 1))] rfl (by (try simp only [List.map_toArray, List.map_cons, List.map_nil]); first | done | rfl | (simp only [List.length_drop, List.length_take]; rfl)) ?_; (with_reducible refine (ih kj4 (by have := HJ4.out; omega) _ _ l0 (wrap64 (a1 - 1)) t127 _ ?side1 ?side2 A10.out).mono ?_); (case side1 => repeat (first | exact HR0.out | (with_reducible refine Kd.C_alloc ?_ _) | (with_reducible refine Kd.C_drewN ?_ _) | (with_reducible refine Kd.C_drew ?_))); (case side2 => exact HC0.out); rintro e w' ⟨rfl, ⟨nd, rfl⟩⟩; refine ⟨_, rfl, ?_⟩))
              go_ret
              exact ⟨by first | rfl | (simp; done) | (simp [*]; done), by repeat (first | exact Drawn0.refl _ | apply Drawn0.step)⟩
            · rw [if_neg c9] at H
              have c9b0 : (((rd_T32 l0 a1).f0) == 6) = false := beq_eq_false_iff_ne.mpr c9
              have c9b1 : (((rd_T32 l0 a1).f0) != 6) = true := bne_iff_ne.mpr c9
              by_cases c11 : ((rd_T32 l0 a1).f0) = 3
              · rw [if_pos c11] at H
                have c11b0 : (((rd_T32 l0 a1).f0) == 3) = true := beq_iff_eq.mpr c11
                have c11b1 : (((rd_T32 l0 a1).f0) != 3) = false := bne_eq_false_iff_eq.mpr c11
                clear c11
                replace H := Option.bind_eq_some_iff.mp H
                obtain ⟨t128, A120, H⟩ := H
                replace H : (if t128 = true then ((topiaryref06_From.f kj4 l0 (wrap64 (a1 - 1))).bind fun t129 => ((topiaryref06_Empty.f kj4 l0 (wrap64 (t129 - 1))).bind fun t130 => (some t130))) else (some false)) = some r := H
                have A12 := Aside0.mk A120
                clear A120
                by_cases c13 : t128 = true
                · subst c13
                  have H1 : ((topiaryref06_From.f kj4 l0 (wrap64 (a1 - 1))).bind fun t129 => ((topiaryref06_Empty.f kj4 l0 (wrap64 (t129 - 1))).bind fun t130 => (some t130))) = some r := by rw [if_pos rfl] at H; exact H
                  clear H
                  have H := H1
                  clear H1
                  replace H := Option.bind_eq_some_iff.mp H
                  obtain ⟨t129, A140, H⟩ := H
                  replace H : ((topiaryref06_Empty.f kj4 l0 (wrap64 (t129 - 1))).bind fun t130 => (some t130)) = some r := H
                  have A14 := Aside0.mk A140
                  clear A140
                  replace H := Option.bind_eq_some_iff.mp H
                  obtain ⟨t130, A150, H⟩ := H
                  replace H : (some t130) = some r := H
                  have A15 := Aside0.mk A150
                  clear A150
                  obtain rfl := Option.some.inj H
                  go_wp2_with (first | ((with_reducible refine gate_callee (f := 17) rfl ?_); refine goesL_ (some 25) rfl rfl Try.func17 (by kernel_rfl) rfl #[.slice (some ad126) l0.length c0, .int .i64 (wrap64 (a1 - 1))] rfl (by (try simp only [List.map_toArray, List.map_cons, List.map_nil]); first | done | rfl | (simp only [List.length_drop, List.length_take]; rfl)) ?_; (with_reducible refine (ih kj4 (by have := HJ4.out; omega) _ _ l0 (wrap64 (a1 - 1)) true _ ?side1 ?side2 A12.out).mono ?_); (case side1 => repeat (first | exact HR0.out | (with_reducible refine Kd.C_alloc ?_ _) | (with_reducible refine Kd.C_drewN ?_ _) | (with_reducible refine Kd.C_drew ?_))); (case side2 => exact HC0.out); rintro e w' ⟨rfl, ⟨nd, rfl⟩⟩; refine ⟨_, rfl, ?_⟩) | (go_at_call 21; (with_reducible refine (topiaryref06_From.calls kj4 _ _ l0 (wrap64 (a1 - 1)) t129 _ ?side1 ?side2 A14.out).mono ?_); (case side1 => repeat (first | exact HR0.out | (with_reducible refine Kd.C_alloc ?_ _) | (with_reducible refine Kd.C_drewN ?_ _) | (with_reducible refine Kd.C_drew ?_))); (case side2 => exact HC0.out); rintro e w' ⟨rfl, ⟨nd, rfl⟩⟩) | (go_at_call 17; (with_reducible refine (ih kj4 (by have := HJ4.out; omega) _ _ l0 (wrap64 (t129 - 1)) t130 _ ?side1 ?side2 A15.out).mono ?_); (case side1 => repeat (first | exact HR0.out | (with_reducible refine Kd.C_alloc ?_ _) | (with_reducible refine Kd.C_drewN ?_ _) | (with_reducible refine Kd.C_drew ?_))); (case side2 => exact HC0.out); rintro e w' ⟨rfl, ⟨nd, rfl⟩⟩))
                  go_ret
                  exact ⟨by first | rfl | (simp; done) | (simp [*]; done), by repeat (first | exact Drawn0.refl _ | apply Drawn0.step)⟩
                · replace c13 := Bool.eq_false_iff.mpr c13
                  subst c13
                  have H1 : (some false) = some r := by rw [if_neg (show ¬ (false = true) by decide)] at H; exact H
                  clear H
                  have H := H1
                  clear H1
                  obtain rfl := Option.some.inj H
                  go_wp2_with (first | ((with_reducible refine gate_callee (f := 17) rfl ?_); refine goesL_ (some 25) rfl rfl Try.func17 (by kernel_rfl) rfl #[.slice (some ad126) l0.length c0, .int .i64 (wrap64 (a1 - 1))] rfl (by (try simp only [List.map_toArray, List.map_cons, List.map_nil]); first | done | rfl | (simp only [List.length_drop, List.length_take]; rfl)) ?_; (with_reducible refine (ih kj4 (by have := HJ4.out; omega) _ _ l0 (wrap64 (a1 - 1)) false _ ?side1 ?side2 A12.out).mono ?_); (case side1 => repeat (first | exact HR0.out | (with_reducible refine Kd.C_alloc ?_ _) | (with_reducible refine Kd.C_drewN ?_ _) | (with_reducible refine Kd.C_drew ?_))); (case side2 => exact HC0.out); rintro e w' ⟨rfl, ⟨nd, rfl⟩⟩; refine ⟨_, rfl, ?_⟩))
                  go_ret
                  exact ⟨by first | rfl | (simp; done) | (simp [*]; done), by repeat (first | exact Drawn0.refl _ | apply Drawn0.step)⟩
              · rw [if_neg c11] at H
                have c11b0 : (((rd_T32 l0 a1).f0) == 3) = false := beq_eq_false_iff_ne.mpr c11
                have c11b1 : (((rd_T32 l0 a1).f0) != 3) = true := bne_iff_ne.mpr c11
                by_cases c16 : ((rd_T32 l0 a1).f0) = 4
                · rw [if_pos c16] at H
                  have c16b0 : (((rd_T32 l0 a1).f0) == 4) = true := beq_iff_eq.mpr c16
                  have c16b1 : (((rd_T32 l0 a1).f0) != 4) = false := bne_eq_false_iff_eq.mpr c16
                  clear c16
                  replace H := Option.bind_eq_some_iff.mp H
                  obtain ⟨t131, A170, H⟩ := H
                  replace H : (if t131 = true then (some true) else ((topiaryref06_From.f kj4 l0 (wrap64 (a1 - 1))).bind fun t132 => ((topiaryref06_Empty.f kj4 l0 (wrap64 (t132 - 1))).bind fun t133 => (some t133)))) = some r := H
                  have A17 := Aside0.mk A170
                  clear A170
                  by_cases c18 : t131 = true
                  · subst c18
                    have H1 : (some true) = some r := by rw [if_pos rfl] at H; exact H
                    clear H
                    have H := H1
                    clear H1
                    obtain rfl := Option.some.inj H
                    go_wp2_with (first | ((with_reducible refine gate_callee (f := 17) rfl ?_); refine goesL_ (some 40) rfl rfl Try.func17 (by kernel_rfl) rfl #[.slice (some ad126) l0.length c0, .int .i64 (wrap64 (a1 - 1))] rfl (by (try simp only [List.map_toArray, List.map_cons, List.map_nil]); first | done | rfl | (simp only [List.length_drop, List.length_take]; rfl)) ?_; (with_reducible refine (ih kj4 (by have := HJ4.out; omega) _ _ l0 (wrap64 (a1 - 1)) true _ ?side1 ?side2 A17.out).mono ?_); (case side1 => repeat (first | exact HR0.out | (with_reducible refine Kd.C_alloc ?_ _) | (with_reducible refine Kd.C_drewN ?_ _) | (with_reducible refine Kd.C_drew ?_))); (case side2 => exact HC0.out); rintro e w' ⟨rfl, ⟨nd, rfl⟩⟩; refine ⟨_, rfl, ?_⟩))
                    go_ret
                    exact ⟨by first | rfl | (simp; done) | (simp [*]; done), by repeat (first | exact Drawn0.refl _ | apply Drawn0.step)⟩
                  · replace c18 := Bool.eq_false_iff.mpr c18
                    subst c18
                    have H1 : ((topiaryref06_From.f kj4 l0 (wrap64 (a1 - 1))).bind fun t132 => ((topiaryref06_Empty.f kj4 l0 (wrap64 (t132 - 1))).bind fun t133 => (some t133))) = some r := by rw [if_neg (show ¬ (false = true) by decide)] at H; exact H
                    clear H
                    have H := H1
                    clear H1
                    replace H := Option.bind_eq_some_iff.mp H
                    obtain ⟨t132, A190, H⟩ := H
                    replace H : ((topiaryref06_Empty.f kj4 l0 (wrap64 (t132 - 1))).bind fun t133 => (some t133)) = some r := H
                    have A19 := Aside0.mk A190
                    clear A190
                    replace H := Option.bind_eq_some_iff.mp H
                    obtain ⟨t133, A200, H⟩ := H
                    replace H : (some t133) = some r := H
                    have A20 := Aside0.mk A200
                    clear A200
                    obtain rfl := Option.some.inj H
                    go_wp2_with (first | ((with_reducible refine gate_callee (f := 17) rfl ?_); refine goesL_ (some 40) rfl rfl Try.func17 (by kernel_rfl) rfl #[.slice (some ad126) l0.length c0, .int .i64 (wrap64 (a1 - 1))] rfl (by (try simp only [List.map_toArray, List.map_cons, List.map_nil]); first | done | rfl | (simp only [List.length_drop, List.length_take]; rfl)) ?_; (with_reducible refine (ih kj4 (by have := HJ4.out; omega) _ _ l0 (wrap64 (a1 - 1)) false _ ?side1 ?side2 A17.out).mono ?_); (case side1 => repeat (first | exact HR0.out | (with_reducible refine Kd.C_alloc ?_ _) | (with_reducible refine Kd.C_drewN ?_ _) | (with_reducible refine Kd.C_drew ?_))); (case side2 => exact HC0.out); rintro e w' ⟨rfl, ⟨nd, rfl⟩⟩; refine ⟨_, rfl, ?_⟩) | (go_at_call 21; (with_reducible refine (topiaryref06_From.calls kj4 _ _ l0 (wrap64 (a1 - 1)) t132 _ ?side1 ?side2 A19.out).mono ?_); (case side1 => repeat (first | exact HR0.out | (with_reducible refine Kd.C_alloc ?_ _) | (with_reducible refine Kd.C_drewN ?_ _) | (with_reducible refine Kd.C_drew ?_))); (case side2 => exact HC0.out); rintro e w' ⟨rfl, ⟨nd, rfl⟩⟩) | (go_at_call 17; (with_reducible refine (ih kj4 (by have := HJ4.out; omega) _ _ l0 (wrap64 (t132 - 1)) t133 _ ?side1 ?side2 A20.out).mono ?_); (case side1 => repeat (first | exact HR0.out | (with_reducible refine Kd.C_alloc ?_ _) | (with_reducible refine Kd.C_drewN ?_ _) | (with_reducible refine Kd.C_drew ?_))); (case side2 => exact HC0.out); rintro e w' ⟨rfl, ⟨nd, rfl⟩⟩))
                    go_ret
                    exact ⟨by first | rfl | (simp; done) | (simp [*]; done), by repeat (first | exact Drawn0.refl _ | apply Drawn0.step)⟩
                · rw [if_neg c16] at H
                  have c16b0 : (((rd_T32 l0 a1).f0) == 4) = false := beq_eq_false_iff_ne.mpr c16
                  have c16b1 : (((rd_T32 l0 a1).f0) != 4) = true := bne_iff_ne.mpr c16
                  obtain rfl := Option.some.inj H
                  go_wp2
                  go_ret
                  exact ⟨by first | rfl | (simp; done) | (simp [*]; done), by repeat (first | exact Drawn0.refl _ | apply Drawn0.step)⟩
    · rw [if_neg c4] at H
      exact absurd H (by simp)
  · rw [if_neg c3] at H
    exact absurd H (by simp)

end Go.Proofs.Ytkabcjchgaokoaa.PRx
