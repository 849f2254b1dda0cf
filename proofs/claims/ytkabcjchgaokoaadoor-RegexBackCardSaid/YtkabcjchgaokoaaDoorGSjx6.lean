/- Proved here: what the functions below come to: walks printed by a program, over contracts of this claim. -/
import Derived.Test.YtkabcjchgaokoaaDoorGSjx0
import Derived.Test.YtkabcjchgaokoaaDoorGSjx5
namespace Go.Proofs.YtkabcjchgaokoaaDoor.PSj
open Go.RowKit Go.Proofs.YtkabcjchgaokoaaDoorW.PrintWords Go.Proofs.YtkabcjchgaokoaaDoorW.PrintLast Go.Proofs.YtkabcjchgaokoaaDoorW.PrintMore
attribute [local go_sem] max2_int min2_int max_two min_two max_three min_three max_four min_four   -- for this text's walks alone
set_option linter.unusedVariables false
set_option linter.unusedSimpArgs false

/-! ### bits_TrailingZeros64: function 35 -/
/-- The table of the library's, as it is laid. -/
def TabD (w : World) : Prop := ∀ j, j < Lib.deBruijn64tab.length → w.cell? ⟨0, j, none⟩ = some (.int .u8 (Lib.deBruijn64tab.getD j 0))
theorem TabD.size {w : World} (h : TabD w) : 0 < w.heap.size := World.block_lt_of_cell? w _ (h 0 (by decide))
theorem TabD.below {w w1 : World} (h : TabD w) (hb : Below w.heap.size w w1) : TabD w1 := fun j hj => pw_cell_below hb (h j hj)
theorem TabD.of {w0 w : World} (h : TabD w0) (hb : Below w0.heap.size w0 w) : TabD w := h.below hb
theorem TabD.drewN {w : World} (h : TabD w) (n : Nat) : TabD (w.drewN n) := fun j hj => h j hj
theorem TabD.drew {w : World} (h : TabD w) : TabD w.drew := fun j hj => h j hj
theorem TabD.alloc {w : World} (h : TabD w) (o : Obj) : TabD (w.alloc o) := fun j hj => (World.cell?_alloc_lt _ _ _ h.size).trans (h j hj)
set_option maxHeartbeats 1000000 in
set_option maxRecDepth 100000 in
theorem bits_TrailingZeros64.core (x k idx : Nat) (w : World) (hx0 : ((x : Int) == 0) = false)
    (key : IntKind.u64.wrap (bits BinOp.and IntKind.u64 (x : Int) (IntKind.u64.wrap (-(x : Int))) * 285870213051353865) / 288230376151711744 = (idx : Int))
    (hi : idx < 64) (hk : k < 64) (hcell : w.cell? ⟨0, idx, none⟩ = some (.int .u8 k)) :
    Calls Tryd.prog 35 #[.int .u64 x] w fun e w' => e = .returned (.int .i64 k) ∧ w' = w := by
  go_enter Tryd.func35, Tryd.ntmps35
  go_wp2_with (simp only [key])
  go_ret
  exact ⟨rfl, rfl⟩
theorem bits_TrailingZeros64.zero (w : World) : Calls Tryd.prog 35 #[.int .u64 0] w fun e w' => e = .returned (.int .i64 64) ∧ w' = w := by
  go_enter Tryd.func35, Tryd.ntmps35
  go_wp2
  go_ret
  exact ⟨rfl, rfl⟩
def u64ok (x : Int) : Prop := 0 ≤ x ∧ x < 18446744073709551616
instance (x : Int) : Decidable (u64ok x) := inferInstanceAs (Decidable (_ ∧ _))
def bits_TrailingZeros64.f (x : Int) : Option Int := if u64ok x then some (Lib.ctz 64 x.toNat : Nat) else none
theorem bits_TrailingZeros64.calls (x r : Int) (w : World) (hT : TabD w) (h : bits_TrailingZeros64.f x = some r) :
    Calls Tryd.prog 35 #[.int .u64 x] w fun e w' => e = .returned (.int .i64 r) ∧ Drawn0 w w' := by
  unfold bits_TrailingZeros64.f at h
  by_cases hx : u64ok x
  · rw [if_pos hx] at h
    obtain rfl := Option.some.inj h
    obtain ⟨h0, h1⟩ := hx
    obtain ⟨x, rfl⟩ := Int.eq_ofNat_of_zero_le h0
    have e : (x : Int).toNat = x := by omega
    rw [e]
    have fin : ∀ {e : Ending} {w' : World}, e = .returned (.int .i64 (Lib.ctz 64 x)) ∧ w' = w → e = .returned (.int .i64 ((Lib.ctz 64 x : Nat) : Int)) ∧ Drawn0 w w' := fun ⟨h, e⟩ => ⟨h, 0, by rw [e]; rfl⟩
    by_cases hx0 : x = 0
    · subst hx0
      exact (bits_TrailingZeros64.zero w).mono fun e w' h => fin h
    · have hx : x < 18446744073709551616 := by omega
      obtain ⟨hlow, hk⟩ := Lib.lowest_bit 64 x hx0 hx
      obtain ⟨hi, htab⟩ := Lib.deBruijn64_at _ hk
      have hcell := hT _ hi
      rw [htab] at hcell
      exact (bits_TrailingZeros64.core x _ _ w (by simp; omega) (Go.Proofs.tz64_key x _ hx hx0 hlow) hi hk hcell).mono fun e w' h => fin h
  · rw [if_neg hx] at h; cases h

/-! ### bytes_Least: function 23 -/
def bytes_Least.f (x0 x1 x2 x3 : Int) : Option Int := if x0 ≠ 0 then (bits_TrailingZeros64.f x0).bind fun a => some (wrap64 a) else if x1 ≠ 0 then (bits_TrailingZeros64.f x1).bind fun a => some (wrap64 (64 + a)) else if x2 ≠ 0 then (bits_TrailingZeros64.f x2).bind fun a => some (wrap64 (128 + a)) else if x3 ≠ 0 then (bits_TrailingZeros64.f x3).bind fun a => some (wrap64 (192 + a)) else some (-1)
attribute [local go_sem] ixs0 ixs1 ixs2 ixs3 in
set_option maxHeartbeats 8000000 in
set_option maxRecDepth 100000 in
theorem bytes_Least.calls (x0 x1 x2 x3 : Int) (r : Int) (w : World) (hT : TabD w) (h : bytes_Least.f x0 x1 x2 x3 = some r) :
    Calls Tryd.prog 23 #[.agg #[.int .u64 x0, .int .u64 x1, .int .u64 x2, .int .u64 x3]] w fun e w' => e = .returned (.int .i64 r) ∧ Below w.heap.size w w' := by
  have HT := Aside0.mk hT
  clear hT
  unfold bytes_Least.f at h
  by_cases c0 : x0 ≠ 0
  · rw [if_pos c0] at h
    obtain ⟨a, ha, h⟩ := Option.bind_eq_some_iff.mp h
    obtain rfl := Option.some.inj h
    have HA := Aside0.mk ha
    have e0 : (x0 != 0) = true := by simpa using c0
    clear ha h
    go_enter Tryd.func23, Tryd.ntmps23
    go_wp2_with fail
    refine wp_loop_rounds 5 ?_
    rw [rounds_succ]
    go_wp2_with (first | (go_at_call 35; (with_reducible refine (bits_TrailingZeros64.calls _ a _ ?hT HA.out).mono ?_); (case hT => repeat (first | exact HT.out | apply TabD.drewN | apply TabD.drew | apply TabD.alloc)); rintro e' w' ⟨rfl, ⟨nd, rfl⟩⟩))
    go_ret
    refine ⟨rfl, ?_⟩
    repeat (first | exact Below.refl _ _ | (with_reducible apply below_alloc) | (with_reducible apply pw_below_drewN) | (with_reducible apply below_drew1))
  · rw [if_neg c0] at h
    have e0 : (x0 != 0) = false := by simpa using c0
    by_cases c1 : x1 ≠ 0
    · rw [if_pos c1] at h
      obtain ⟨a, ha, h⟩ := Option.bind_eq_some_iff.mp h
      obtain rfl := Option.some.inj h
      have HA := Aside0.mk ha
      have e1 : (x1 != 0) = true := by simpa using c1
      clear ha h
      go_enter Tryd.func23, Tryd.ntmps23
      go_wp2_with fail
      refine wp_loop_rounds 5 ?_
      rw [rounds_succ]
      go_wp2_with fail
      rw [rounds_succ]
      go_wp2_with (first | (go_at_call 35; (with_reducible refine (bits_TrailingZeros64.calls _ a _ ?hT HA.out).mono ?_); (case hT => repeat (first | exact HT.out | apply TabD.drewN | apply TabD.drew | apply TabD.alloc)); rintro e' w' ⟨rfl, ⟨nd, rfl⟩⟩))
      go_ret
      refine ⟨rfl, ?_⟩
      repeat (first | exact Below.refl _ _ | (with_reducible apply below_alloc) | (with_reducible apply pw_below_drewN) | (with_reducible apply below_drew1))
    · rw [if_neg c1] at h
      have e1 : (x1 != 0) = false := by simpa using c1
      by_cases c2 : x2 ≠ 0
      · rw [if_pos c2] at h
        obtain ⟨a, ha, h⟩ := Option.bind_eq_some_iff.mp h
        obtain rfl := Option.some.inj h
        have HA := Aside0.mk ha
        have e2 : (x2 != 0) = true := by simpa using c2
        clear ha h
        go_enter Tryd.func23, Tryd.ntmps23
        go_wp2_with fail
        refine wp_loop_rounds 5 ?_
        iterate 2 (rw [rounds_succ]; go_wp2_with fail)
        rw [rounds_succ]
        go_wp2_with (first | (go_at_call 35; (with_reducible refine (bits_TrailingZeros64.calls _ a _ ?hT HA.out).mono ?_); (case hT => repeat (first | exact HT.out | apply TabD.drewN | apply TabD.drew | apply TabD.alloc)); rintro e' w' ⟨rfl, ⟨nd, rfl⟩⟩))
        go_ret
        refine ⟨rfl, ?_⟩
        repeat (first | exact Below.refl _ _ | (with_reducible apply below_alloc) | (with_reducible apply pw_below_drewN) | (with_reducible apply below_drew1))
      · rw [if_neg c2] at h
        have e2 : (x2 != 0) = false := by simpa using c2
        by_cases c3 : x3 ≠ 0
        · rw [if_pos c3] at h
          obtain ⟨a, ha, h⟩ := Option.bind_eq_some_iff.mp h
          obtain rfl := Option.some.inj h
          have HA := Aside0.mk ha
          have e3 : (x3 != 0) = true := by simpa using c3
          clear ha h
          go_enter Tryd.func23, Tryd.ntmps23
          go_wp2_with fail
          refine wp_loop_rounds 5 ?_
          iterate 3 (rw [rounds_succ]; go_wp2_with fail)
          rw [rounds_succ]
          go_wp2_with (first | (go_at_call 35; (with_reducible refine (bits_TrailingZeros64.calls _ a _ ?hT HA.out).mono ?_); (case hT => repeat (first | exact HT.out | apply TabD.drewN | apply TabD.drew | apply TabD.alloc)); rintro e' w' ⟨rfl, ⟨nd, rfl⟩⟩))
          go_ret
          refine ⟨rfl, ?_⟩
          repeat (first | exact Below.refl _ _ | (with_reducible apply below_alloc) | (with_reducible apply pw_below_drewN) | (with_reducible apply below_drew1))
        · rw [if_neg c3] at h
          have e3 : (x3 != 0) = false := by simpa using c3
          obtain rfl := Option.some.inj h
          clear h
          go_enter Tryd.func23, Tryd.ntmps23
          go_wp2_with fail
          refine wp_loop_rounds 5 ?_
          iterate 5 (rw [rounds_succ]; go_wp2_with fail)
          go_ret
          refine ⟨rfl, ?_⟩
          repeat (first | exact Below.refl _ _ | (with_reducible apply below_alloc) | (with_reducible apply pw_below_drewN) | (with_reducible apply below_drew1))

/-! ### bytes_Not: function 24 -/
def bytes_Not.f (x0 x1 x2 x3 : Int) : Option (Int × Int × Int × Int) := some (bits .xor .u64 IntKind.u64.max x0, bits .xor .u64 IntKind.u64.max x1, bits .xor .u64 IntKind.u64.max x2, bits .xor .u64 IntKind.u64.max x3)
set_option maxHeartbeats 1000000 in
set_option maxRecDepth 100000 in
theorem bytes_Not.calls (x0 x1 x2 x3 : Int) (r1 r2 r3 r4 : Int) (w : World) (h : bytes_Not.f x0 x1 x2 x3 = some (r1, r2, r3, r4)) :
    Calls Tryd.prog 24 #[.agg #[.int .u64 x0, .int .u64 x1, .int .u64 x2, .int .u64 x3]] w fun e w' => e = .returned (.agg #[.int .u64 r1, .int .u64 r2, .int .u64 r3, .int .u64 r4]) ∧ Below w.heap.size w w' := by
  unfold bytes_Not.f at h
  simp only [Option.some.injEq, Prod.mk.injEq] at h
  obtain ⟨rfl, rfl, rfl, rfl⟩ := h
  go_enter Tryd.func24, Tryd.ntmps24
  go_wp2_with fail
  refine wp_loop_rounds 5 ?_
  iterate 5 (rw [rounds_succ]; go_wp2_with fail)
  refine bodyPost_ret (v := .agg #[.int .u64 (bits .xor .u64 IntKind.u64.max x0), .int .u64 (bits .xor .u64 IntKind.u64.max x1), .int .u64 (bits .xor .u64 IntKind.u64.max x2), .int .u64 (bits .xor .u64 IntKind.u64.max x3)]) (by simp [results, Tryd.results24, go_sem]) rfl ⟨rfl, ?_⟩
  repeat (first | exact Below.refl _ _ | (with_reducible apply below_alloc) | (with_reducible apply pw_below_drewN) | (with_reducible apply below_drew1) | (refine below_set ?_ (by simp; omega)))

/-! ### bytes_One: function 25 -/
def bytes_One.word (b j : Int) : Int := if b / 64 = j then IntKind.u64.wrap (2 ^ (b % 64).toNat) else 0
def bytes_One.f (b : Int) : Option (Int × Int × Int × Int) := if 0 ≤ b ∧ b < 256 then some (bytes_One.word b 0, bytes_One.word b 1, bytes_One.word b 2, bytes_One.word b 3) else none
set_option maxHeartbeats 1000000 in
set_option maxRecDepth 100000 in
theorem bytes_One.calls (b : Int) (r1 r2 r3 r4 : Int) (w : World) (h : bytes_One.f b = some (r1, r2, r3, r4)) :
    Calls Tryd.prog 25 #[.int .u8 b] w fun e w' => e = .returned (.agg #[.int .u64 r1, .int .u64 r2, .int .u64 r3, .int .u64 r4]) ∧ Below w.heap.size w w' := by
  unfold bytes_One.f at h
  by_cases hb : 0 ≤ b ∧ b < 256
  · rw [if_pos hb] at h
    obtain ⟨h0, h1⟩ := hb
    simp only [Option.some.injEq, Prod.mk.injEq] at h
    obtain ⟨rfl, rfl, rfl, rfl⟩ := h
    have hq : b / 64 = 0 ∨ b / 64 = 1 ∨ b / 64 = 2 ∨ b / 64 = 3 := by omega
    rcases hq with hq | hq | hq | hq
    · unfold bytes_One.word
      simp only [hq]
      go_enter Tryd.func25, Tryd.ntmps25
      go_wp2_with fail
      refine bodyPost_ret (v := .agg #[.int .u64 (IntKind.u64.wrap (2 ^ (b % 64).toNat)), .int .u64 0, .int .u64 0, .int .u64 0]) (by simp [results, Tryd.results25, go_sem]) rfl ⟨by simp, ?_⟩
      repeat (first | exact Below.refl _ _ | (with_reducible apply below_alloc) | (with_reducible apply pw_below_drewN) | (with_reducible apply below_drew1) | (refine below_set ?_ (by simp; omega)))
    · unfold bytes_One.word
      simp only [hq]
      go_enter Tryd.func25, Tryd.ntmps25
      go_wp2_with fail
      refine bodyPost_ret (v := .agg #[.int .u64 0, .int .u64 (IntKind.u64.wrap (2 ^ (b % 64).toNat)), .int .u64 0, .int .u64 0]) (by simp [results, Tryd.results25, go_sem]) rfl ⟨by simp, ?_⟩
      repeat (first | exact Below.refl _ _ | (with_reducible apply below_alloc) | (with_reducible apply pw_below_drewN) | (with_reducible apply below_drew1) | (refine below_set ?_ (by simp; omega)))
    · unfold bytes_One.word
      simp only [hq]
      go_enter Tryd.func25, Tryd.ntmps25
      go_wp2_with fail
      refine bodyPost_ret (v := .agg #[.int .u64 0, .int .u64 0, .int .u64 (IntKind.u64.wrap (2 ^ (b % 64).toNat)), .int .u64 0]) (by simp [results, Tryd.results25, go_sem]) rfl ⟨by simp, ?_⟩
      repeat (first | exact Below.refl _ _ | (with_reducible apply below_alloc) | (with_reducible apply pw_below_drewN) | (with_reducible apply below_drew1) | (refine below_set ?_ (by simp; omega)))
    · unfold bytes_One.word
      simp only [hq]
      go_enter Tryd.func25, Tryd.ntmps25
      go_wp2_with fail
      refine bodyPost_ret (v := .agg #[.int .u64 0, .int .u64 0, .int .u64 0, .int .u64 (IntKind.u64.wrap (2 ^ (b % 64).toNat))]) (by simp [results, Tryd.results25, go_sem]) rfl ⟨by simp, ?_⟩
      repeat (first | exact Below.refl _ _ | (with_reducible apply below_alloc) | (with_reducible apply pw_below_drewN) | (with_reducible apply below_drew1) | (refine below_set ?_ (by simp; omega)))
  · rw [if_neg hb] at h
    cases h

end Go.Proofs.YtkabcjchgaokoaaDoor.PSj
