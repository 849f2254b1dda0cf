/- Proved here: what the functions below come to: walks printed by a program, over contracts of this claim. -/
import Derived.Test.YtkabcjchgaokoaaDoorGSix0
import Derived.Test.YtkabcjchgaokoaaDoorGSix17
import Derived.Test.YtkabcjchgaokoaaDoorGSix18
namespace Go.Proofs.YtkabcjchgaokoaaDoor.PSi
open Go.RowKit Go.Proofs.YtkabcjchgaokoaaDoorW.PrintWords Go.Proofs.YtkabcjchgaokoaaDoorW.PrintLast Go.Proofs.YtkabcjchgaokoaaDoorW.PrintMore
attribute [local go_sem] max2_int min2_int max_two min_two max_three min_three max_four min_four   -- for this text's walks alone
set_option linter.unusedVariables false
set_option linter.unusedSimpArgs false

/-! ### topiaryref06_text: function 16 -/
def catB (a b : ByteArray) : Option ByteArray := if a.size < 1000000000000 ∧ b.size < 1000000000000 then some (a ++ b) else none
mutual
def topiaryref06_part.f : Nat → List S40 → Int → Int → Option ByteArray
  | 0, _, _, _ => none
  | k + 1, l, e, p => (topiaryref06_text.f k l e).bind fun s => (topiaryref06_Power.f l e).bind fun q => if q < p then ((catB ⟨#[40]⟩ s).bind fun a => catB a ⟨#[41]⟩) else some s
def topiaryref06_text.f : Nat → List S40 → Int → Option ByteArray
  | 0, _, _ => none
  | k + 1, l, e => if 0 ≤ e ∧ e < (l.length : Int) ∧ (l.length : Int) ≤ 1000000 then (
      if (rd_T40 l e).f0 = 1 then topiaryref06_told.f k (rd_T40 l e).f1.f0 (rd_T40 l e).f1.f1 (rd_T40 l e).f1.f2 (rd_T40 l e).f1.f3
      else if (rd_T40 l e).f0 = 2 then some ⟨#[40, 41]⟩
      else if (rd_T40 l e).f0 = 3 then (topiaryref06_From.f k l (e - 1)).bind fun f => if 0 ≤ f ∧ f ≤ 1000000 then ((topiaryref06_part.f k l (f - 1) 2).bind fun a => (topiaryref06_part.f k l (e - 1) 3).bind fun b => catB a b) else none
      else if (rd_T40 l e).f0 = 4 then (topiaryref06_From.f k l (e - 1)).bind fun f => if 0 ≤ f ∧ f ≤ 1000000 then ((topiaryref06_part.f k l (f - 1) 1).bind fun a => (catB a ⟨#[124]⟩).bind fun a2 => (topiaryref06_part.f k l (e - 1) 2).bind fun b => catB a2 b) else none
      else if (rd_T40 l e).f0 = 5 then (topiaryref06_part.f k l (e - 1) 3).bind fun a => catB a ⟨#[42]⟩
      else if (rd_T40 l e).f0 = 6 then (topiaryref06_part.f k l (e - 1) 3).bind fun a => catB a ⟨#[43]⟩
      else (topiaryref06_part.f k l (e - 1) 3).bind fun a => catB a ⟨#[63]⟩) else none
end
theorem topiaryref06_part.mono_l : ∀ k, (∀ l e p, LeO (topiaryref06_part.f k l e p) (topiaryref06_part.f (k + 1) l e p)) ∧ (∀ l e, LeO (topiaryref06_text.f k l e) (topiaryref06_text.f (k + 1) l e))
  | 0 => ⟨fun _ _ _ r h => by (rw [topiaryref06_part.f] at h; cases h), fun _ _ r h => by rw [topiaryref06_text.f] at h; cases h⟩
  | k + 1 => by
    obtain ⟨ih0, ih1⟩ := topiaryref06_part.mono_l k
    refine ⟨?_, ?_⟩
    · intro l e p
      rw [topiaryref06_part.f, topiaryref06_part.f]
      refine LeO.bind (ih1 _ _) (fun _ => LeO.refl _)
    · intro l e
      rw [topiaryref06_text.f, topiaryref06_text.f]
      repeat' first
      | (with_reducible exact ih0 _ _ _)
      | (with_reducible exact topiaryref06_told.mono _ _ _ _ _)
      | (with_reducible exact topiaryref06_From.mono _ _ _)
      | (with_reducible exact LeO.refl _)
      | (with_reducible refine LeO.ite ?_ ?_)
      | (with_reducible refine LeO.bind ?_ (fun _ => ?_))
theorem topiaryref06_part.mono : ∀ a0 a1 a2 k, LeO (topiaryref06_part.f k a0 a1 a2) (topiaryref06_part.f (k + 1) a0 a1 a2) := fun a b c k => (topiaryref06_part.mono_l k).1 a b c
theorem topiaryref06_text.mono : ∀ a0 a1 k, LeO (topiaryref06_text.f k a0 a1) (topiaryref06_text.f (k + 1) a0 a1) := fun a b k => (topiaryref06_part.mono_l k).2 a b
theorem catB_some {a b r : ByteArray} (h : catB a b = some r) : r = a ++ b ∧ a.size < 1000000000000 ∧ b.size < 1000000000000 := by
  unfold catB at h
  by_cases c : a.size < 1000000000000 ∧ b.size < 1000000000000
  · rw [if_pos c] at h; exact ⟨(Option.some.inj h).symm, c⟩
  · rw [if_neg c] at h; cases h
abbrev PartSays (k : Nat) : Prop := ∀ (A0 : Option Addr) (c0 : Nat) (l0 : List S40) (e p : Int) (r : ByteArray) (w : World) (hr0 : Kd.C k40 w A0 l0.length l0) (hc0 : l0.length ≤ c0) (h : topiaryref06_part.f k l0 e p = some r), Calls Tryd.prog 28 #[.slice A0 l0.length c0, .int .i64 e, .int .i64 p] w fun e' w' => e' = .returned (.string r) ∧ Below w.heap.size w w'
abbrev TextSays (k : Nat) : Prop := ∀ (A0 : Option Addr) (c0 : Nat) (l0 : List S40) (e : Int) (r : ByteArray) (w : World) (hr0 : Kd.C k40 w A0 l0.length l0) (hc0 : l0.length ≤ c0) (h : topiaryref06_text.f k l0 e = some r), Calls Tryd.prog 16 #[.slice A0 l0.length c0, .int .i64 e] w fun e' w' => e' = .returned (.string r) ∧ Below w.heap.size w w'
set_option maxHeartbeats 4000000 in
set_option maxRecDepth 100000 in
theorem part_step (k : Nat) (ih : TextSays k) : PartSays (k + 1) := by
  intro A0 c0 l0 e p r w hr0 hc0 h
  rw [topiaryref06_part.f] at h
  obtain ⟨s, hs, h⟩ := Option.bind_eq_some_iff.mp h
  obtain ⟨q, hq, h⟩ := Option.bind_eq_some_iff.mp h
  have HR := Aside0.mk hr0
  have HC := Aside0.mk hc0
  have HS := Aside0.mk hs
  have HQ := Aside0.mk hq
  have HB := Aside0.mk (Below.refl w.heap.size w)
  clear hr0 hc0 hs hq
  by_cases c : q < p
  · rw [if_pos c] at h
    obtain ⟨a, ha, h⟩ := Option.bind_eq_some_iff.mp h
    obtain ⟨rfl, s1, s2⟩ := catB_some ha
    obtain ⟨rfl, _⟩ := catB_some h
    have z0 : (⟨#[40]⟩ : ByteArray).size = 1 := rfl
    have z1 : (9223372036854775807 < 1 + s.size) = False := eq_false (by omega)
    have z2 : (9223372036854775807 < 1 + s.size + 1) = False := eq_false (by omega)
    have z3 : (9223372036854775807 < ((⟨#[40]⟩ : ByteArray) ++ s).size + 1) = False := eq_false (by omega)
    have e1 : decide (q < p) = true := decide_eq_true c
    clear h ha
    go_enter Tryd.func28, Tryd.ntmps28
    go_wp2_with (first | (go_at_call 16; (with_reducible refine (ih _ _ l0 e s _ HR.out HC.out HS.out).mono ?_); rintro e' w1 ⟨rfl, hb⟩; have HB1 := Aside0.mk hb; clear hb) | (go_at_call 40; (with_reducible refine (topiaryref06_Power.calls _ _ l0 e q _ (Kd.C_below HR.out HB1.out) HC.out HQ.out).mono ?_); rintro e' w' ⟨rfl, ⟨nd, rfl⟩⟩))
    go_ret
    refine ⟨rfl, ?_⟩
    repeat (first | (with_reducible exact HB1.out) | (with_reducible apply below_alloc) | (with_reducible apply pw_below_drewN) | (with_reducible apply below_drew1))
  · rw [if_neg c] at h
    obtain rfl := Option.some.inj h
    have e1 : decide (q < p) = false := decide_eq_false c
    clear h
    go_enter Tryd.func28, Tryd.ntmps28
    go_wp2_with (first | (go_at_call 16; (with_reducible refine (ih _ _ l0 e s _ HR.out HC.out HS.out).mono ?_); rintro e' w1 ⟨rfl, hb⟩; have HB1 := Aside0.mk hb; clear hb) | (go_at_call 40; (with_reducible refine (topiaryref06_Power.calls _ _ l0 e q _ (Kd.C_below HR.out HB1.out) HC.out HQ.out).mono ?_); rintro e' w' ⟨rfl, ⟨nd, rfl⟩⟩))
    go_ret
    refine ⟨rfl, ?_⟩
    repeat (first | (with_reducible exact HB1.out) | (with_reducible apply below_alloc) | (with_reducible apply pw_below_drewN) | (with_reducible apply below_drew1))
set_option maxHeartbeats 1000000 in
set_option maxRecDepth 100000 in
theorem text_one (k : Nat) (ih : PartSays k) (ad : Addr) (c0 : Nat) (l0 : List S40) (e : Int) (r : ByteArray) (w : World) (HR : Aside0 (Kd.C k40 w (some ad) l0.length l0)) (HC : Aside0 (l0.length ≤ c0)) (d0 : 0 ≤ e) (d1 : e < (l0.length : Int)) (d2 : (l0.length : Int) ≤ 1000000)
    (o1 : (rd_T40 l0 e).f0 = 1) (HT : Aside0 (topiaryref06_told.f k (rd_T40 l0 e).f1.f0 (rd_T40 l0 e).f1.f1 (rd_T40 l0 e).f1.f2 (rd_T40 l0 e).f1.f3 = some r)) :
    Calls Tryd.prog 16 #[.slice (some ad) l0.length c0, .int .i64 e] w fun e' w' => e' = .returned (.string r) ∧ Below w.heap.size w w' := by
  obtain ⟨ad', ead, x0, x1, x2, x3, x4⟩ := at_T40 HR.out e d0 d1
  cases ead
  have HB := Aside0.mk (Below.refl w.heap.size w)
  have p := eq_true d0
  have q := eq_true d1
  have w1 : wrap64 (e - 1) = e - 1 := by unfold wrap64; omega
  have w2 : IntKind.i64.wrap (e - 1) = e - 1 := IntWalk.i64_in _ (by omega)
  have g1 : ((rd_T40 l0 e).f0 == 1) = true := beq_iff_eq.mpr o1
  go_enter Tryd.func16, Tryd.ntmps16
  go_wp2_with (first | (go_at_call 27; (with_reducible refine (topiaryref06_told.calls k _ _ _ _ r _ HT.out).mono ?_); rintro e' w1 ⟨rfl, hb⟩; have HB1 := Aside0.mk hb; clear hb))
  go_ret
  refine ⟨rfl, ?_⟩
  repeat (first | (with_reducible exact HB1.out) | (with_reducible apply below_alloc) | (with_reducible apply pw_below_drewN) | (with_reducible apply below_drew1) | exact HB1.out)
set_option maxHeartbeats 1000000 in
set_option maxRecDepth 100000 in
theorem text_two (k : Nat) (ih : PartSays k) (ad : Addr) (c0 : Nat) (l0 : List S40) (e : Int) (r : ByteArray) (w : World) (HR : Aside0 (Kd.C k40 w (some ad) l0.length l0)) (HC : Aside0 (l0.length ≤ c0)) (d0 : 0 ≤ e) (d1 : e < (l0.length : Int)) (d2 : (l0.length : Int) ≤ 1000000)
    (o1 : (rd_T40 l0 e).f0 ≠ 1) (o2 : (rd_T40 l0 e).f0 = 2) (hr : r = ⟨#[40, 41]⟩) :
    Calls Tryd.prog 16 #[.slice (some ad) l0.length c0, .int .i64 e] w fun e' w' => e' = .returned (.string r) ∧ Below w.heap.size w w' := by
  obtain ⟨ad', ead, x0, x1, x2, x3, x4⟩ := at_T40 HR.out e d0 d1
  cases ead
  have HB := Aside0.mk (Below.refl w.heap.size w)
  have p := eq_true d0
  have q := eq_true d1
  have w1 : wrap64 (e - 1) = e - 1 := by unfold wrap64; omega
  have w2 : IntKind.i64.wrap (e - 1) = e - 1 := IntWalk.i64_in _ (by omega)
  subst hr
  have g1 : ((rd_T40 l0 e).f0 == 1) = false := beq_eq_false_iff_ne.mpr o1
  have g2 : ((rd_T40 l0 e).f0 == 2) = true := beq_iff_eq.mpr o2
  go_enter Tryd.func16, Tryd.ntmps16
  go_wp2_with fail
  go_ret
  refine ⟨rfl, ?_⟩
  repeat (first | (with_reducible exact HB.out) | (with_reducible apply below_alloc) | (with_reducible apply pw_below_drewN) | (with_reducible apply below_drew1) | exact HB.out)
set_option maxHeartbeats 1000000 in
set_option maxRecDepth 100000 in
theorem text_three (k : Nat) (ih : PartSays k) (ad : Addr) (c0 : Nat) (l0 : List S40) (e : Int) (r : ByteArray) (w : World) (HR : Aside0 (Kd.C k40 w (some ad) l0.length l0)) (HC : Aside0 (l0.length ≤ c0)) (d0 : 0 ≤ e) (d1 : e < (l0.length : Int)) (d2 : (l0.length : Int) ≤ 1000000)
    (o1 : (rd_T40 l0 e).f0 ≠ 1) (o2 : (rd_T40 l0 e).f0 ≠ 2) (o3 : (rd_T40 l0 e).f0 = 3) (f : Int) (HF : Aside0 (topiaryref06_From.f k l0 (e - 1) = some f)) (f0 : 0 ≤ f) (f1 : f ≤ 1000000) (a b : ByteArray) (HA : Aside0 (topiaryref06_part.f k l0 (f - 1) 2 = some a)) (HBB : Aside0 (topiaryref06_part.f k l0 (e - 1) 3 = some b)) (s1 : a.size < 1000000000000) (s2 : b.size < 1000000000000) (hr : r = a ++ b) :
    Calls Tryd.prog 16 #[.slice (some ad) l0.length c0, .int .i64 e] w fun e' w' => e' = .returned (.string r) ∧ Below w.heap.size w w' := by
  obtain ⟨ad', ead, x0, x1, x2, x3, x4⟩ := at_T40 HR.out e d0 d1
  cases ead
  have HB := Aside0.mk (Below.refl w.heap.size w)
  have p := eq_true d0
  have q := eq_true d1
  have w1 : wrap64 (e - 1) = e - 1 := by unfold wrap64; omega
  have w2 : IntKind.i64.wrap (e - 1) = e - 1 := IntWalk.i64_in _ (by omega)
  have g1 : ((rd_T40 l0 e).f0 == 1) = false := beq_eq_false_iff_ne.mpr o1
  have g2 : ((rd_T40 l0 e).f0 == 2) = false := beq_eq_false_iff_ne.mpr o2
  have g3 : ((rd_T40 l0 e).f0 == 3) = true := beq_iff_eq.mpr o3
  have w3 : wrap64 (f - 1) = f - 1 := by unfold wrap64; omega
  have w4 : IntKind.i64.wrap (f - 1) = f - 1 := IntWalk.i64_in _ (by omega)
  have z1 : (9223372036854775807 < a.size + b.size) = False := eq_false (by omega)
  subst hr
  go_enter Tryd.func16, Tryd.ntmps16
  go_wp2_with (first | (go_at_call 29; (with_reducible refine (topiaryref06_From.calls k _ _ l0 (e - 1) f _ HR.out HC.out HF.out).mono ?_); rintro e' w' ⟨rfl, ⟨nd, rfl⟩⟩) | (go_at_call 28; (with_reducible refine (ih _ _ l0 (f - 1) 2 a _ ?sideR HC.out HA.out).mono ?_); (case sideR => exact Kd.C_below HR.out (by repeat (first | (with_reducible first | exact HB.out | apply below_alloc | apply pw_below_drewN | apply below_drew1) | exact HB.out))); rintro e' w1 ⟨rfl, hb⟩; have HB1 := Aside0.mk (below_step (by repeat (first | (with_reducible first | exact HB.out | apply below_alloc | apply pw_below_drewN | apply below_drew1) | exact HB.out)) hb); clear hb))
  go_wp2_with (first | (go_at_call 28; (with_reducible refine (ih _ _ l0 (e - 1) 3 b _ ?sideR HC.out HBB.out).mono ?_); (case sideR => exact Kd.C_below HR.out (by repeat (first | (with_reducible first | exact HB1.out | apply below_alloc | apply pw_below_drewN | apply below_drew1) | exact HB1.out))); rintro e' w2 ⟨rfl, hb⟩; have HB2 := Aside0.mk (below_step (by repeat (first | (with_reducible first | exact HB1.out | apply below_alloc | apply pw_below_drewN | apply below_drew1) | exact HB1.out)) hb); clear hb))
  go_ret
  refine ⟨rfl, ?_⟩
  repeat (first | (with_reducible exact HB2.out) | (with_reducible apply below_alloc) | (with_reducible apply pw_below_drewN) | (with_reducible apply below_drew1) | exact HB2.out)
set_option maxHeartbeats 1000000 in
set_option maxRecDepth 100000 in
theorem text_four (k : Nat) (ih : PartSays k) (ad : Addr) (c0 : Nat) (l0 : List S40) (e : Int) (r : ByteArray) (w : World) (HR : Aside0 (Kd.C k40 w (some ad) l0.length l0)) (HC : Aside0 (l0.length ≤ c0)) (d0 : 0 ≤ e) (d1 : e < (l0.length : Int)) (d2 : (l0.length : Int) ≤ 1000000)
    (o1 : (rd_T40 l0 e).f0 ≠ 1) (o2 : (rd_T40 l0 e).f0 ≠ 2) (o3 : (rd_T40 l0 e).f0 ≠ 3) (o4 : (rd_T40 l0 e).f0 = 4) (f : Int) (HF : Aside0 (topiaryref06_From.f k l0 (e - 1) = some f)) (f0 : 0 ≤ f) (f1 : f ≤ 1000000) (a b : ByteArray) (HA : Aside0 (topiaryref06_part.f k l0 (f - 1) 1 = some a)) (HBB : Aside0 (topiaryref06_part.f k l0 (e - 1) 2 = some b)) (s1 : a.size < 1000000000000) (s2 : b.size < 1000000000000) (hr : r = a ++ (⟨#[124]⟩ : ByteArray) ++ b) :
    Calls Tryd.prog 16 #[.slice (some ad) l0.length c0, .int .i64 e] w fun e' w' => e' = .returned (.string r) ∧ Below w.heap.size w w' := by
  obtain ⟨ad', ead, x0, x1, x2, x3, x4⟩ := at_T40 HR.out e d0 d1
  cases ead
  have HB := Aside0.mk (Below.refl w.heap.size w)
  have p := eq_true d0
  have q := eq_true d1
  have w1 : wrap64 (e - 1) = e - 1 := by unfold wrap64; omega
  have w2 : IntKind.i64.wrap (e - 1) = e - 1 := IntWalk.i64_in _ (by omega)
  have g1 : ((rd_T40 l0 e).f0 == 1) = false := beq_eq_false_iff_ne.mpr o1
  have g2 : ((rd_T40 l0 e).f0 == 2) = false := beq_eq_false_iff_ne.mpr o2
  have g3 : ((rd_T40 l0 e).f0 == 3) = false := beq_eq_false_iff_ne.mpr o3
  have g4 : ((rd_T40 l0 e).f0 == 4) = true := beq_iff_eq.mpr o4
  have w3 : wrap64 (f - 1) = f - 1 := by unfold wrap64; omega
  have w4 : IntKind.i64.wrap (f - 1) = f - 1 := IntWalk.i64_in _ (by omega)
  have zz : (⟨#[124]⟩ : ByteArray).size = 1 := rfl
  have z0 : (9223372036854775807 < a.size + 1) = False := eq_false (by omega)
  have z1 : (9223372036854775807 < (a ++ (⟨#[124]⟩ : ByteArray)).size + b.size) = False := eq_false (by rw [ByteArray.size_append]; omega)
  have z2 : (9223372036854775807 < a.size + 1 + b.size) = False := eq_false (by omega)
  subst hr
  go_enter Tryd.func16, Tryd.ntmps16
  go_wp2_with (first | (go_at_call 29; (with_reducible refine (topiaryref06_From.calls k _ _ l0 (e - 1) f _ HR.out HC.out HF.out).mono ?_); rintro e' w' ⟨rfl, ⟨nd, rfl⟩⟩) | (go_at_call 28; (with_reducible refine (ih _ _ l0 (f - 1) 1 a _ ?sideR HC.out HA.out).mono ?_); (case sideR => exact Kd.C_below HR.out (by repeat (first | (with_reducible first | exact HB.out | apply below_alloc | apply pw_below_drewN | apply below_drew1) | exact HB.out))); rintro e' w1 ⟨rfl, hb⟩; have HB1 := Aside0.mk (below_step (by repeat (first | (with_reducible first | exact HB.out | apply below_alloc | apply pw_below_drewN | apply below_drew1) | exact HB.out)) hb); clear hb))
  go_wp2_with (first | (go_at_call 28; (with_reducible refine (ih _ _ l0 (e - 1) 2 b _ ?sideR HC.out HBB.out).mono ?_); (case sideR => exact Kd.C_below HR.out (by repeat (first | (with_reducible first | exact HB1.out | apply below_alloc | apply pw_below_drewN | apply below_drew1) | exact HB1.out))); rintro e' w2 ⟨rfl, hb⟩; have HB2 := Aside0.mk (below_step (by repeat (first | (with_reducible first | exact HB1.out | apply below_alloc | apply pw_below_drewN | apply below_drew1) | exact HB1.out)) hb); clear hb))
  go_ret
  refine ⟨rfl, ?_⟩
  repeat (first | (with_reducible exact HB2.out) | (with_reducible apply below_alloc) | (with_reducible apply pw_below_drewN) | (with_reducible apply below_drew1) | exact HB2.out)
set_option maxHeartbeats 1000000 in
set_option maxRecDepth 100000 in
theorem text_five (k : Nat) (ih : PartSays k) (ad : Addr) (c0 : Nat) (l0 : List S40) (e : Int) (r : ByteArray) (w : World) (HR : Aside0 (Kd.C k40 w (some ad) l0.length l0)) (HC : Aside0 (l0.length ≤ c0)) (d0 : 0 ≤ e) (d1 : e < (l0.length : Int)) (d2 : (l0.length : Int) ≤ 1000000)
    (o1 : (rd_T40 l0 e).f0 ≠ 1) (o2 : (rd_T40 l0 e).f0 ≠ 2) (o3 : (rd_T40 l0 e).f0 ≠ 3) (o4 : (rd_T40 l0 e).f0 ≠ 4) (o5 : (rd_T40 l0 e).f0 = 5) (a : ByteArray) (HA : Aside0 (topiaryref06_part.f k l0 (e - 1) 3 = some a)) (s1 : a.size < 1000000000000) (hr : r = a ++ (⟨#[42]⟩ : ByteArray)) :
    Calls Tryd.prog 16 #[.slice (some ad) l0.length c0, .int .i64 e] w fun e' w' => e' = .returned (.string r) ∧ Below w.heap.size w w' := by
  obtain ⟨ad', ead, x0, x1, x2, x3, x4⟩ := at_T40 HR.out e d0 d1
  cases ead
  have HB := Aside0.mk (Below.refl w.heap.size w)
  have p := eq_true d0
  have q := eq_true d1
  have w1 : wrap64 (e - 1) = e - 1 := by unfold wrap64; omega
  have w2 : IntKind.i64.wrap (e - 1) = e - 1 := IntWalk.i64_in _ (by omega)
  have g1 : ((rd_T40 l0 e).f0 == 1) = false := beq_eq_false_iff_ne.mpr o1
  have g2 : ((rd_T40 l0 e).f0 == 2) = false := beq_eq_false_iff_ne.mpr o2
  have g3 : ((rd_T40 l0 e).f0 == 3) = false := beq_eq_false_iff_ne.mpr o3
  have g4 : ((rd_T40 l0 e).f0 == 4) = false := beq_eq_false_iff_ne.mpr o4
  have g5 : ((rd_T40 l0 e).f0 == 5) = true := beq_iff_eq.mpr o5
  have z1 : (9223372036854775807 < a.size + 1) = False := eq_false (by omega)
  subst hr
  go_enter Tryd.func16, Tryd.ntmps16
  go_wp2_with (first | (go_at_call 28; (with_reducible refine (ih _ _ l0 (e - 1) 3 a _ ?sideR HC.out HA.out).mono ?_); (case sideR => exact Kd.C_below HR.out (by repeat (first | (with_reducible first | exact HB.out | apply below_alloc | apply pw_below_drewN | apply below_drew1) | exact HB.out))); rintro e' w1 ⟨rfl, hb⟩; have HB1 := Aside0.mk (below_step (by repeat (first | (with_reducible first | exact HB.out | apply below_alloc | apply pw_below_drewN | apply below_drew1) | exact HB.out)) hb); clear hb))
  go_ret
  refine ⟨rfl, ?_⟩
  repeat (first | (with_reducible exact HB1.out) | (with_reducible apply below_alloc) | (with_reducible apply pw_below_drewN) | (with_reducible apply below_drew1) | exact HB1.out)
set_option maxHeartbeats 1000000 in
set_option maxRecDepth 100000 in
theorem text_six (k : Nat) (ih : PartSays k) (ad : Addr) (c0 : Nat) (l0 : List S40) (e : Int) (r : ByteArray) (w : World) (HR : Aside0 (Kd.C k40 w (some ad) l0.length l0)) (HC : Aside0 (l0.length ≤ c0)) (d0 : 0 ≤ e) (d1 : e < (l0.length : Int)) (d2 : (l0.length : Int) ≤ 1000000)
    (o1 : (rd_T40 l0 e).f0 ≠ 1) (o2 : (rd_T40 l0 e).f0 ≠ 2) (o3 : (rd_T40 l0 e).f0 ≠ 3) (o4 : (rd_T40 l0 e).f0 ≠ 4) (o5 : (rd_T40 l0 e).f0 ≠ 5) (o6 : (rd_T40 l0 e).f0 = 6) (a : ByteArray) (HA : Aside0 (topiaryref06_part.f k l0 (e - 1) 3 = some a)) (s1 : a.size < 1000000000000) (hr : r = a ++ (⟨#[43]⟩ : ByteArray)) :
    Calls Tryd.prog 16 #[.slice (some ad) l0.length c0, .int .i64 e] w fun e' w' => e' = .returned (.string r) ∧ Below w.heap.size w w' := by
  obtain ⟨ad', ead, x0, x1, x2, x3, x4⟩ := at_T40 HR.out e d0 d1
  cases ead
  have HB := Aside0.mk (Below.refl w.heap.size w)
  have p := eq_true d0
  have q := eq_true d1
  have w1 : wrap64 (e - 1) = e - 1 := by unfold wrap64; omega
  have w2 : IntKind.i64.wrap (e - 1) = e - 1 := IntWalk.i64_in _ (by omega)
  have g1 : ((rd_T40 l0 e).f0 == 1) = false := beq_eq_false_iff_ne.mpr o1
  have g2 : ((rd_T40 l0 e).f0 == 2) = false := beq_eq_false_iff_ne.mpr o2
  have g3 : ((rd_T40 l0 e).f0 == 3) = false := beq_eq_false_iff_ne.mpr o3
  have g4 : ((rd_T40 l0 e).f0 == 4) = false := beq_eq_false_iff_ne.mpr o4
  have g5 : ((rd_T40 l0 e).f0 == 5) = false := beq_eq_false_iff_ne.mpr o5
  have g6 : ((rd_T40 l0 e).f0 == 6) = true := beq_iff_eq.mpr o6
  have z1 : (9223372036854775807 < a.size + 1) = False := eq_false (by omega)
  subst hr
  go_enter Tryd.func16, Tryd.ntmps16
  go_wp2_with (first | (go_at_call 28; (with_reducible refine (ih _ _ l0 (e - 1) 3 a _ ?sideR HC.out HA.out).mono ?_); (case sideR => exact Kd.C_below HR.out (by repeat (first | (with_reducible first | exact HB.out | apply below_alloc | apply pw_below_drewN | apply below_drew1) | exact HB.out))); rintro e' w1 ⟨rfl, hb⟩; have HB1 := Aside0.mk (below_step (by repeat (first | (with_reducible first | exact HB.out | apply below_alloc | apply pw_below_drewN | apply below_drew1) | exact HB.out)) hb); clear hb))
  go_ret
  refine ⟨rfl, ?_⟩
  repeat (first | (with_reducible exact HB1.out) | (with_reducible apply below_alloc) | (with_reducible apply pw_below_drewN) | (with_reducible apply below_drew1) | exact HB1.out)
set_option maxHeartbeats 1000000 in
set_option maxRecDepth 100000 in
theorem text_rest (k : Nat) (ih : PartSays k) (ad : Addr) (c0 : Nat) (l0 : List S40) (e : Int) (r : ByteArray) (w : World) (HR : Aside0 (Kd.C k40 w (some ad) l0.length l0)) (HC : Aside0 (l0.length ≤ c0)) (d0 : 0 ≤ e) (d1 : e < (l0.length : Int)) (d2 : (l0.length : Int) ≤ 1000000)
    (o1 : (rd_T40 l0 e).f0 ≠ 1) (o2 : (rd_T40 l0 e).f0 ≠ 2) (o3 : (rd_T40 l0 e).f0 ≠ 3) (o4 : (rd_T40 l0 e).f0 ≠ 4) (o5 : (rd_T40 l0 e).f0 ≠ 5) (o6 : (rd_T40 l0 e).f0 ≠ 6) (a : ByteArray) (HA : Aside0 (topiaryref06_part.f k l0 (e - 1) 3 = some a)) (s1 : a.size < 1000000000000) (hr : r = a ++ (⟨#[63]⟩ : ByteArray)) :
    Calls Tryd.prog 16 #[.slice (some ad) l0.length c0, .int .i64 e] w fun e' w' => e' = .returned (.string r) ∧ Below w.heap.size w w' := by
  obtain ⟨ad', ead, x0, x1, x2, x3, x4⟩ := at_T40 HR.out e d0 d1
  cases ead
  have HB := Aside0.mk (Below.refl w.heap.size w)
  have p := eq_true d0
  have q := eq_true d1
  have w1 : wrap64 (e - 1) = e - 1 := by unfold wrap64; omega
  have w2 : IntKind.i64.wrap (e - 1) = e - 1 := IntWalk.i64_in _ (by omega)
  have g1 : ((rd_T40 l0 e).f0 == 1) = false := beq_eq_false_iff_ne.mpr o1
  have g2 : ((rd_T40 l0 e).f0 == 2) = false := beq_eq_false_iff_ne.mpr o2
  have g3 : ((rd_T40 l0 e).f0 == 3) = false := beq_eq_false_iff_ne.mpr o3
  have g4 : ((rd_T40 l0 e).f0 == 4) = false := beq_eq_false_iff_ne.mpr o4
  have g5 : ((rd_T40 l0 e).f0 == 5) = false := beq_eq_false_iff_ne.mpr o5
  have g6 : ((rd_T40 l0 e).f0 == 6) = false := beq_eq_false_iff_ne.mpr o6
  have z1 : (9223372036854775807 < a.size + 1) = False := eq_false (by omega)
  subst hr
  go_enter Tryd.func16, Tryd.ntmps16
  go_wp2_with (first | (go_at_call 28; (with_reducible refine (ih _ _ l0 (e - 1) 3 a _ ?sideR HC.out HA.out).mono ?_); (case sideR => exact Kd.C_below HR.out (by repeat (first | (with_reducible first | exact HB.out | apply below_alloc | apply pw_below_drewN | apply below_drew1) | exact HB.out))); rintro e' w1 ⟨rfl, hb⟩; have HB1 := Aside0.mk (below_step (by repeat (first | (with_reducible first | exact HB.out | apply below_alloc | apply pw_below_drewN | apply below_drew1) | exact HB.out)) hb); clear hb))
  go_ret
  refine ⟨rfl, ?_⟩
  repeat (first | (with_reducible exact HB1.out) | (with_reducible apply below_alloc) | (with_reducible apply pw_below_drewN) | (with_reducible apply below_drew1) | exact HB1.out)
theorem text_step (k : Nat) (ih : PartSays k) : TextSays (k + 1) := by
  intro A0 c0 l0 e r w hr0 hc0 h
  rw [topiaryref06_text.f] at h
  by_cases d : 0 ≤ e ∧ e < (l0.length : Int) ∧ (l0.length : Int) ≤ 1000000
  · rw [if_pos d] at h
    obtain ⟨d0, d1, d2⟩ := d
    obtain ⟨ad, ead, _⟩ := at_T40 hr0 e d0 d1
    subst ead
    have HR := Aside0.mk hr0
    have HC := Aside0.mk hc0
    by_cases o1 : (rd_T40 l0 e).f0 = 1
    · rw [if_pos o1] at h
      exact text_one k ih ad c0 l0 e r w HR HC d0 d1 d2 o1 ⟨h⟩
    rw [if_neg o1] at h
    by_cases o2 : (rd_T40 l0 e).f0 = 2
    · rw [if_pos o2] at h
      exact text_two k ih ad c0 l0 e r w HR HC d0 d1 d2 o1 o2 (Option.some.inj h).symm
    rw [if_neg o2] at h
    by_cases o3 : (rd_T40 l0 e).f0 = 3
    · rw [if_pos o3] at h
      obtain ⟨f, hf, h⟩ := Option.bind_eq_some_iff.mp h
      by_cases fd : 0 ≤ f ∧ f ≤ 1000000
      · rw [if_pos fd] at h
        obtain ⟨a, ha, h⟩ := Option.bind_eq_some_iff.mp h
        obtain ⟨b, hb, h⟩ := Option.bind_eq_some_iff.mp h
        obtain ⟨hr, s1, s2⟩ := catB_some h
        exact text_three k ih ad c0 l0 e r w HR HC d0 d1 d2 o1 o2 o3 f ⟨hf⟩ fd.1 fd.2 a b ⟨ha⟩ ⟨hb⟩ s1 s2 hr
      · rw [if_neg fd] at h; cases h
    rw [if_neg o3] at h
    by_cases o4 : (rd_T40 l0 e).f0 = 4
    · rw [if_pos o4] at h
      obtain ⟨f, hf, h⟩ := Option.bind_eq_some_iff.mp h
      by_cases fd : 0 ≤ f ∧ f ≤ 1000000
      · rw [if_pos fd] at h
        obtain ⟨a, ha, h⟩ := Option.bind_eq_some_iff.mp h
        obtain ⟨a2, ha2, h⟩ := Option.bind_eq_some_iff.mp h
        obtain ⟨b, hb, h⟩ := Option.bind_eq_some_iff.mp h
        obtain ⟨hr2, s1, _⟩ := catB_some ha2
        subst hr2
        obtain ⟨hr, _, s2⟩ := catB_some h
        exact text_four k ih ad c0 l0 e r w HR HC d0 d1 d2 o1 o2 o3 o4 f ⟨hf⟩ fd.1 fd.2 a b ⟨ha⟩ ⟨hb⟩ s1 s2 hr
      · rw [if_neg fd] at h; cases h
    rw [if_neg o4] at h
    by_cases o5 : (rd_T40 l0 e).f0 = 5
    · rw [if_pos o5] at h
      obtain ⟨a, ha, h⟩ := Option.bind_eq_some_iff.mp h
      obtain ⟨hr, s1, _⟩ := catB_some h
      exact text_five k ih ad c0 l0 e r w HR HC d0 d1 d2 o1 o2 o3 o4 o5 a ⟨ha⟩ s1 hr
    rw [if_neg o5] at h
    by_cases o6 : (rd_T40 l0 e).f0 = 6
    · rw [if_pos o6] at h
      obtain ⟨a, ha, h⟩ := Option.bind_eq_some_iff.mp h
      obtain ⟨hr, s1, _⟩ := catB_some h
      exact text_six k ih ad c0 l0 e r w HR HC d0 d1 d2 o1 o2 o3 o4 o5 o6 a ⟨ha⟩ s1 hr
    rw [if_neg o6] at h
    obtain ⟨a, ha, h⟩ := Option.bind_eq_some_iff.mp h
    obtain ⟨hr, s1, _⟩ := catB_some h
    exact text_rest k ih ad c0 l0 e r w HR HC d0 d1 d2 o1 o2 o3 o4 o5 o6 a ⟨ha⟩ s1 hr
  · rw [if_neg d] at h; cases h
theorem part_all : ∀ k, PartSays k ∧ TextSays k
  | 0 => ⟨fun _ _ _ _ _ _ _ _ _ h => by (rw [topiaryref06_part.f] at h; cases h), fun _ _ _ _ _ _ _ _ h => by (rw [topiaryref06_text.f] at h; cases h)⟩
  | k + 1 => ⟨part_step k (part_all k).2, text_step k (part_all k).1⟩
theorem topiaryref06_part.calls (k : Nat) (A0 : Option Addr) (c0 : Nat) (l0 : List (S40)) (a1 a2 : Int) (r : ByteArray) (w : World) (hr0 : Kd.C k40 w A0 l0.length l0) (hc0 : l0.length ≤ c0) (h : topiaryref06_part.f k l0 a1 a2 = some r) :
    Calls Tryd.prog 28 #[.slice A0 l0.length c0, .int .i64 a1, .int .i64 a2] w fun e w' => e = .returned (.string r) ∧ Below w.heap.size w w' := (part_all k).1 A0 c0 l0 a1 a2 r w hr0 hc0 h
theorem topiaryref06_text.calls (k : Nat) (A0 : Option Addr) (c0 : Nat) (l0 : List (S40)) (a1 : Int) (r : ByteArray) (w : World) (hr0 : Kd.C k40 w A0 l0.length l0) (hc0 : l0.length ≤ c0) (h : topiaryref06_text.f k l0 a1 = some r) :
    Calls Tryd.prog 16 #[.slice A0 l0.length c0, .int .i64 a1] w fun e w' => e = .returned (.string r) ∧ Below w.heap.size w w' := (part_all k).2 A0 c0 l0 a1 r w hr0 hc0 h

end Go.Proofs.YtkabcjchgaokoaaDoor.PSi
