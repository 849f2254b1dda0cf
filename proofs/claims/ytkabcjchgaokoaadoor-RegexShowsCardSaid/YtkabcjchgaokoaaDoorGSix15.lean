/- Proved here: what the functions below come to: walks printed by a program, over contracts of this claim. -/
import Derived.Test.YtkabcjchgaokoaaDoorGSix0
import Derived.Test.YtkabcjchgaokoaaDoorGSix4
import Derived.Test.YtkabcjchgaokoaaDoorGSix14
namespace Go.Proofs.YtkabcjchgaokoaaDoor.PSi
open Go.RowKit Go.Proofs.YtkabcjchgaokoaaDoorW.PrintWords Go.Proofs.YtkabcjchgaokoaaDoorW.PrintLast Go.Proofs.YtkabcjchgaokoaaDoorW.PrintMore
attribute [local go_sem] max2_int min2_int max_two min_two max_three min_three max_four min_four   -- for this text's walks alone
set_option linter.unusedVariables false
set_option linter.unusedSimpArgs false

/-! ### topiaryref06_alone: function 37 -/
def topiaryref06_alone.hex (q : Int) : ByteArray := hexs.extract q.toNat (q + 1).toNat
def topiaryref06_alone.f (k : Nat) (b : Int) (left : ByteArray) : Option ByteArray := if 0 ≤ b ∧ b < 256 then (if b = 10 then some ⟨#[92, 110]⟩ else if b = 9 then some ⟨#[92, 116]⟩ else if b = 13 then some ⟨#[92, 114]⟩ else if b < 32 ∨ b > 126 then some (((⟨#[92, 120]⟩ : ByteArray) ++ topiaryref06_alone.hex (b / 16)) ++ topiaryref06_alone.hex (b % 16)) else (topiaryref06_in.f k left b).bind fun t => if t = true then some ((⟨#[92]⟩ : ByteArray) ++ strOfNums [b]) else some (strOfNums [b])) else none
theorem topiaryref06_alone.mono : ∀ b left k, LeO (topiaryref06_alone.f k b left) (topiaryref06_alone.f (k + 1) b left) := by
  intro b left k
  unfold topiaryref06_alone.f
  repeat' first
  | (with_reducible exact topiaryref06_in.mono _ _ _)
  | (with_reducible exact LeO.refl _)
  | (with_reducible refine LeO.ite ?_ ?_)
  | (with_reducible refine LeO.bind ?_ (fun _ => ?_))
theorem conv1 (W : World) (x : Int) (n : Nat) : (convert 64 9 (.slice (some ⟨W.heap.size, 0, none⟩) 1 1)).run Tryd.prog ((W.alloc (.cells #[.int .u8 x] 5)).drewN n) = .ok (.string (strOfNums [x])) ((W.alloc (.cells #[.int .u8 x] 5)).drewN n) := by
  refine string_of_reads Tryd.underlying64 Tryd.underlying5 Tryd.underlying9 ⟨rfl, by decide, fun _ => ⟨_, rfl, fun j hj => ?_⟩⟩
  obtain rfl : j = 0 := by omega
  go_simp
theorem conv1' (W : World) (x : Int) : (convert 64 9 (.slice (some ⟨W.heap.size, 0, none⟩) 1 1)).run Tryd.prog (W.alloc (.cells #[.int .u8 x] 5)) = .ok (.string (strOfNums [x])) (W.alloc (.cells #[.int .u8 x] 5)) := conv1 W x 0
theorem hex_size : ∀ n : Fin 16, (topiaryref06_alone.hex (n.val : Int)).size = 1 := by decide +kernel
attribute [local go_sem] conv1 conv1' in
set_option maxHeartbeats 4000000 in
set_option maxRecDepth 100000 in
theorem topiaryref06_alone.calls (k : Nat) (b : Int) (left : ByteArray) (r : ByteArray) (w : World) (h : topiaryref06_alone.f k b left = some r) :
    Calls Tryd.prog 37 #[.int .i64 b, .string left] w fun e w' => e = .returned (.string r) ∧ Below w.heap.size w w' := by
  unfold topiaryref06_alone.f at h
  by_cases hb : 0 ≤ b ∧ b < 256
  · rw [if_pos hb] at h
    obtain ⟨h0, h1⟩ := hb
    by_cases c1 : b = 10
    · rw [if_pos c1] at h; obtain rfl := Option.some.inj h; subst c1
      go_enter Tryd.func37, Tryd.ntmps37
      go_wp2_with fail
      go_ret
      exact ⟨rfl, Below.refl _ _⟩
    rw [if_neg c1] at h
    have e1 : (b == 10) = false := beq_eq_false_iff_ne.mpr c1
    by_cases c2 : b = 9
    · rw [if_pos c2] at h; obtain rfl := Option.some.inj h; subst c2
      go_enter Tryd.func37, Tryd.ntmps37
      go_wp2_with fail
      go_ret
      exact ⟨rfl, Below.refl _ _⟩
    rw [if_neg c2] at h
    have e2 : (b == 9) = false := beq_eq_false_iff_ne.mpr c2
    by_cases c3 : b = 13
    · rw [if_pos c3] at h; obtain rfl := Option.some.inj h; subst c3
      go_enter Tryd.func37, Tryd.ntmps37
      go_wp2_with fail
      go_ret
      exact ⟨rfl, Below.refl _ _⟩
    rw [if_neg c3] at h
    have e3 : (b == 13) = false := beq_eq_false_iff_ne.mpr c3
    by_cases c4 : b < 32 ∨ b > 126
    · rw [if_pos c4] at h
      obtain rfl := Option.some.inj h
      clear h
      have ht : Int.tdiv b 16 = b / 16 := Int.tdiv_eq_ediv_of_nonneg h0
      have hr : Int.tmod b 16 = b % 16 := Int.tmod_eq_emod_of_nonneg h0
      have q1 : b / 16 < 16 := by omega
      have q2 : 0 ≤ b / 16 := by omega
      have q3 : b % 16 < 16 := by omega
      have q4 : 0 ≤ b % 16 := by omega
      have s1 : (hexs.extract (b / 16).toNat (b / 16 + 1).toNat).size = 1 := by have := hex_size ⟨(b / 16).toNat, by omega⟩; simpa [topiaryref06_alone.hex, Int.toNat_of_nonneg q2] using this
      have s2 : (hexs.extract (b % 16).toNat (b % 16 + 1).toNat).size = 1 := by have := hex_size ⟨(b % 16).toNat, by omega⟩; simpa [topiaryref06_alone.hex, Int.toNat_of_nonneg q4] using this
      simp only [hexs] at s1 s2
      generalize hQ : b / 16 = Q at *
      generalize hR : b % 16 = R at *
      have w1 : IntKind.i64.wrap (Q + 1) = Q + 1 := IntWalk.i64_in _ (by omega)
      have w2 : IntKind.i64.wrap (R + 1) = R + 1 := IntWalk.i64_in _ (by omega)
      have w3 : wrap64 (Q + 1) = Q + 1 := by unfold wrap64; omega
      have w4 : wrap64 (R + 1) = R + 1 := by unfold wrap64; omega
      have p1 : (0 ≤ Q + 1) = True := eq_true (by omega)
      have p2 : (Q + 1 ≤ 16) = True := eq_true (by omega)
      have p3 : (Q ≤ Q + 1) = True := eq_true (by omega)
      have p4 : (0 ≤ R + 1) = True := eq_true (by omega)
      have p5 : (R + 1 ≤ 16) = True := eq_true (by omega)
      have p6 : (R ≤ R + 1) = True := eq_true (by omega)
      have p7 : (0 ≤ Q) = True := eq_true q2
      have p8 : (0 ≤ R) = True := eq_true q4
      by_cases c5 : b < 32
      · have e5 : decide (b < 32) = true := decide_eq_true c5
        go_enter Tryd.func37, Tryd.ntmps37
        go_wp2_with fail
        go_region
        go_wp2_with fail
        go_ret
        refine ⟨rfl, ?_⟩
        repeat (first | exact Below.refl _ _ | (with_reducible apply below_alloc) | (with_reducible apply pw_below_drewN) | (with_reducible apply below_drew1))
      · have e5 : decide (b < 32) = false := decide_eq_false c5
        have e6 : decide (b > 126) = true := decide_eq_true (by omega)
        go_enter Tryd.func37, Tryd.ntmps37
        go_wp2_with fail
        go_region
        go_wp2_with fail
        go_ret
        refine ⟨rfl, ?_⟩
        repeat (first | exact Below.refl _ _ | (with_reducible apply below_alloc) | (with_reducible apply pw_below_drewN) | (with_reducible apply below_drew1))
    · rw [if_neg c4] at h
      have e5 : decide (b < 32) = false := decide_eq_false (by omega)
      have e6 : decide (b > 126) = false := decide_eq_false (by omega)
      have hm : b % 256 = b := by omega
      have hw : IntKind.u8.wrap b = b := by rw [IntKind.wrap_u8]; omega
      obtain ⟨t, ht, h⟩ := Option.bind_eq_some_iff.mp h
      have HI := Aside0.mk ht
      have s1 : (strOfNums [b]).size = 1 := rfl
      have z1 : (9223372036854775807 < 1 + (strOfNums [b]).size) = False := eq_false (by rw [s1]; decide)
      clear ht
      cases t with
      | true =>
        rw [if_pos rfl] at h
        obtain rfl := Option.some.inj h
        clear h
        go_enter Tryd.func37, Tryd.ntmps37
        go_wp2_with (first | (go_at_call 43; (with_reducible refine (topiaryref06_in.calls k left b true _ HI.out).mono ?_); rintro e' w' ⟨rfl, ⟨nd, rfl⟩⟩))
        go_ret
        refine ⟨rfl, ?_⟩
        repeat (first | exact Below.refl _ _ | (with_reducible apply below_alloc) | (with_reducible apply pw_below_drewN) | (with_reducible apply below_drew1))
      | false =>
        rw [if_neg (by decide)] at h
        obtain rfl := Option.some.inj h
        clear h
        go_enter Tryd.func37, Tryd.ntmps37
        go_wp2_with (first | (go_at_call 43; (with_reducible refine (topiaryref06_in.calls k left b false _ HI.out).mono ?_); rintro e' w' ⟨rfl, ⟨nd, rfl⟩⟩))
        go_ret
        refine ⟨rfl, ?_⟩
        repeat (first | exact Below.refl _ _ | (with_reducible apply below_alloc) | (with_reducible apply pw_below_drewN) | (with_reducible apply below_drew1))
  · rw [if_neg hb] at h; cases h

end Go.Proofs.YtkabcjchgaokoaaDoor.PSi
