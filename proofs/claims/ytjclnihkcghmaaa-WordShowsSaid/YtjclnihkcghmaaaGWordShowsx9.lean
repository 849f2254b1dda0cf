/- Proved here: what the functions below come to: walks printed by a program, over contracts of this claim. -/
import Derived.Test.YtjclnihkcghmaaaGWordShowsx0
import Derived.Test.YtjclnihkcghmaaaGWordShowsx1
import Derived.Test.YtjclnihkcghmaaaGWordShowsx8
namespace Go.Proofs.Ytjclnihkcghmaaa.PWordShows
open Go.RowKit Go.Proofs.YtjclnihkcghmaaaW.PrintWords Go.Proofs.YtjclnihkcghmaaaW.PrintLast Go.Proofs.YtjclnihkcghmaaaW.PrintMore
attribute [local go_sem] max2_int min2_int max_two min_two max_three min_three max_four min_four   -- for this text's walks alone
set_option linter.unusedVariables false
set_option linter.unusedSimpArgs false

attribute [local go_sem high] eqA32
/-! ### topiarylaw11_wakes: function 8 -/
def topiarylaw11_wakes.f (k : Nat)  : Option (Bool) := (word_All.f k (⟨#[97, 58, 98, 124, 47, 120, 47, 59]⟩ : ByteArray)).bind fun bt104 => (if bt104.2.2 = 0 then (if bt104.2.1 = 0 then (if (bt104.1.length : Int) = 6 then (if 4 < (bt104.1.length : Int) then (some (((rd_T32 bt104.1 4).f0) == 2 && (((rd_T32 bt104.1 4).f1) == 4 && ((((rd_T32 bt104.1 4).f2).toList) == ([120] : List UInt8))))) else (none)) else (some false)) else (some false)) else (some false))
theorem topiarylaw11_wakes.mono : ∀ k, LeO (topiarylaw11_wakes.f k ) (topiarylaw11_wakes.f (k + 1) ) := by
  intro  k
  unfold topiarylaw11_wakes.f
  repeat' first
      | (with_reducible exact word_All.mono _ _)
      | (with_reducible exact LeO.refl _)
      | (with_reducible exact LeO.none _)
      | (with_reducible refine LeO.ite ?_ ?_)
      | (with_reducible refine LeO.bind ?_ (fun _ => ?_))
      | exact word_All.mono _ _
      | exact LeO.none _
      | refine LeO.ite ?_ ?_
      | refine LeO.bind ?_ (fun _ => ?_)
set_option maxHeartbeats 8000000 in
set_option maxRecDepth 100000 in
theorem topiarylaw11_wakes.calls (k : Nat)  (r : Bool) (w : World) (h : topiarylaw11_wakes.f k  = some r) :
    Calls Try.prog 8 #[] w fun e w' => e = .returned (.bool r) ∧ Below w.heap.size w w' := by
  have hu32 := Try.underlying32
  have HB := Aside0.mk (Below.refl w.heap.size w)
  have H : ((word_All.f k (⟨#[97, 58, 98, 124, 47, 120, 47, 59]⟩ : ByteArray)).bind fun bt104 => (if bt104.2.2 = 0 then (if bt104.2.1 = 0 then (if (bt104.1.length : Int) = 6 then (if 4 < (bt104.1.length : Int) then (some (((rd_T32 bt104.1 4).f0) == 2 && (((rd_T32 bt104.1 4).f1) == 4 && ((((rd_T32 bt104.1 4).f2).toList) == ([120] : List UInt8))))) else (none)) else (some false)) else (some false)) else (some false))) = some r := h
  clear h
  replace H := Option.bind_eq_some_iff.mp H
  obtain ⟨⟨t104, t105, t106⟩, A10, H⟩ := H
  replace H : (if t106 = 0 then (if t105 = 0 then (if (t104.length : Int) = 6 then (if 4 < (t104.length : Int) then (some (((rd_T32 t104 4).f0) == 2 && (((rd_T32 t104 4).f1) == 4 && ((((rd_T32 t104 4).f2).toList) == ([120] : List UInt8))))) else (none)) else (some false)) else (some false)) else (some false)) = some r := H
  have A1 := Aside0.mk A10
  clear A10
  by_cases c2 : t106 = 0
  · rw [if_pos c2] at H
    have c2b0 : (t106 == 0) = true := beq_iff_eq.mpr c2
    have c2b1 : (t106 != 0) = false := bne_eq_false_iff_eq.mpr c2
    clear c2
    by_cases c3 : t105 = 0
    · rw [if_pos c3] at H
      have c3b0 : (t105 == 0) = true := beq_iff_eq.mpr c3
      have c3b1 : (t105 != 0) = false := bne_eq_false_iff_eq.mpr c3
      clear c3
      by_cases c4 : (t104.length : Int) = 6
      · rw [if_pos c4] at H
        have c4b0 : ((t104.length : Int) == 6) = true := beq_iff_eq.mpr c4
        have c4b1 : ((t104.length : Int) != 6) = false := bne_eq_false_iff_eq.mpr c4
        clear c4
        by_cases c5 : 4 < (t104.length : Int)
        · rw [if_pos c5] at H
          have c5b0 : decide (4 < (t104.length : Int)) = true := decide_eq_true c5
          have c5b1 : decide (4 < t104.length) = true := decide_eq_true (by omega)
          clear c5
          obtain rfl := Option.some.inj H
          go_enter Try.func8, Try.ntmps8
          go_wp2_with (first | ((with_reducible refine gate_callee (f := 10) rfl ?_); refine goesL_ (some 5) rfl rfl Try.func10 (by kernel_rfl) rfl #[.string (⟨#[97, 58, 98, 124, 47, 120, 47, 59]⟩ : ByteArray)] rfl (by (try simp only [List.map_toArray, List.map_cons, List.map_nil]); first | done | rfl | (simp only [List.length_drop, List.length_take]; rfl)) ?_; (with_reducible refine (word_All.calls k (⟨#[97, 58, 98, 124, 47, 120, 47, 59]⟩ : ByteArray) t104 t105 t106 _ A1.out).mono ?_); rintro e w6 ⟨v107, rfl, ho0, hb⟩; refine ⟨_, rfl, ?_⟩; have n0_ := Aside0.mk (Kd.R_lower ho0 (below_size (by repeat (first | (with_reducible first | exact HB.out | apply below_alloc | apply pw_below_drewN | apply below_drew1) | exact HB.out)))); have n1_ := Aside0.mk (below_step (by repeat (first | (with_reducible first | exact HB.out | apply below_alloc | apply pw_below_drewN | apply below_drew1) | exact HB.out)) hb); clear HB; have HO108 := n0_; have HB := n1_; clear n0_ n1_; (try clear hb); (try clear hb2); (try clear hk); (try clear hi); (try clear ho0); obtain ⟨Ao7, co7, eo7⟩ := Kd.R_slice HO108.out; subst eo7; have p109 : 0 ≤ (4 : Int) := (by omega); have q109 : 4 < (t104.length : Int) := of_decide_eq_true (by first | (with_reducible assumption) | assumption); obtain ⟨ad109, e109, hx109_0, hx109_1, hx109_2⟩ := at_T32 (Kd.R_reads' HO108.out).2.2 4 p109 q109; cases e109; (try simp only [show (4 : Int).toNat = 4 from rfl, Nat.reduceMul, Nat.reduceEqDiff, Go.Addr.add, ↓reduceIte] at hx109_0); (try simp only [show (4 : Int).toNat = 4 from rfl, Nat.reduceMul, Nat.reduceEqDiff, Go.Addr.add, ↓reduceIte] at hx109_1); (try simp only [show (4 : Int).toNat = 4 from rfl, Nat.reduceMul, Nat.reduceEqDiff, Go.Addr.add, ↓reduceIte] at hx109_2); have qi109 : (4 < t104.length) = True := eq_true (by omega); (try rw [show ((4 : Int)).toNat = 4 from rfl] at hx109_0); (try rw [show 4 * 3 = 12 from rfl] at hx109_0); (try rw [show ((4 : Int)).toNat = 4 from rfl] at hx109_1); (try rw [show 4 * 3 = 12 from rfl] at hx109_1); (try rw [show ((4 : Int)).toNat = 4 from rfl] at hx109_2); (try rw [show 4 * 3 = 12 from rfl] at hx109_2); replace p109 := eq_true p109; replace q109 := eq_true q109))
          go_ret
          exact ⟨by first | rfl | (simp [errW_none, errW_some] <;> rfl) | (simp [*, errW_none, errW_some] <;> rfl), by repeat (first | (with_reducible first | exact HB.out | apply below_alloc | apply pw_below_drewN | apply below_drew1) | exact HB.out)⟩
        · rw [if_neg c5] at H
          exact absurd H (by simp)
      · rw [if_neg c4] at H
        have c4b0 : ((t104.length : Int) == 6) = false := beq_eq_false_iff_ne.mpr c4
        have c4b1 : ((t104.length : Int) != 6) = true := bne_iff_ne.mpr c4
        obtain rfl := Option.some.inj H
        go_enter Try.func8, Try.ntmps8
        go_wp2_with (first | ((with_reducible refine gate_callee (f := 10) rfl ?_); refine goesL_ (some 5) rfl rfl Try.func10 (by kernel_rfl) rfl #[.string (⟨#[97, 58, 98, 124, 47, 120, 47, 59]⟩ : ByteArray)] rfl (by (try simp only [List.map_toArray, List.map_cons, List.map_nil]); first | done | rfl | (simp only [List.length_drop, List.length_take]; rfl)) ?_; (with_reducible refine (word_All.calls k (⟨#[97, 58, 98, 124, 47, 120, 47, 59]⟩ : ByteArray) t104 t105 t106 _ A1.out).mono ?_); rintro e w8 ⟨v107, rfl, ho0, hb⟩; refine ⟨_, rfl, ?_⟩; have n0_ := Aside0.mk (Kd.R_lower ho0 (below_size (by repeat (first | (with_reducible first | exact HB.out | apply below_alloc | apply pw_below_drewN | apply below_drew1) | exact HB.out)))); have n1_ := Aside0.mk (below_step (by repeat (first | (with_reducible first | exact HB.out | apply below_alloc | apply pw_below_drewN | apply below_drew1) | exact HB.out)) hb); clear HB; have HO108 := n0_; have HB := n1_; clear n0_ n1_; (try clear hb); (try clear hb2); (try clear hk); (try clear hi); (try clear ho0); obtain ⟨Ao9, co9, eo9⟩ := Kd.R_slice HO108.out; subst eo9))
        go_ret
        exact ⟨by first | rfl | (simp [errW_none, errW_some] <;> rfl) | (simp [*, errW_none, errW_some] <;> rfl), by repeat (first | (with_reducible first | exact HB.out | apply below_alloc | apply pw_below_drewN | apply below_drew1) | exact HB.out)⟩
    · rw [if_neg c3] at H
      have c3b0 : (t105 == 0) = false := beq_eq_false_iff_ne.mpr c3
      have c3b1 : (t105 != 0) = true := bne_iff_ne.mpr c3
      obtain rfl := Option.some.inj H
      go_enter Try.func8, Try.ntmps8
      go_wp2_with (first | ((with_reducible refine gate_callee (f := 10) rfl ?_); refine goesL_ (some 5) rfl rfl Try.func10 (by kernel_rfl) rfl #[.string (⟨#[97, 58, 98, 124, 47, 120, 47, 59]⟩ : ByteArray)] rfl (by (try simp only [List.map_toArray, List.map_cons, List.map_nil]); first | done | rfl | (simp only [List.length_drop, List.length_take]; rfl)) ?_; (with_reducible refine (word_All.calls k (⟨#[97, 58, 98, 124, 47, 120, 47, 59]⟩ : ByteArray) t104 t105 t106 _ A1.out).mono ?_); rintro e w10 ⟨v107, rfl, ho0, hb⟩; refine ⟨_, rfl, ?_⟩; have n0_ := Aside0.mk (Kd.R_lower ho0 (below_size (by repeat (first | (with_reducible first | exact HB.out | apply below_alloc | apply pw_below_drewN | apply below_drew1) | exact HB.out)))); have n1_ := Aside0.mk (below_step (by repeat (first | (with_reducible first | exact HB.out | apply below_alloc | apply pw_below_drewN | apply below_drew1) | exact HB.out)) hb); clear HB; have HO108 := n0_; have HB := n1_; clear n0_ n1_; (try clear hb); (try clear hb2); (try clear hk); (try clear hi); (try clear ho0)))
      go_ret
      exact ⟨by first | rfl | (simp [errW_none, errW_some] <;> rfl) | (simp [*, errW_none, errW_some] <;> rfl), by repeat (first | (with_reducible first | exact HB.out | apply below_alloc | apply pw_below_drewN | apply below_drew1) | exact HB.out)⟩
  · rw [if_neg c2] at H
    have c2b0 : (t106 == 0) = false := beq_eq_false_iff_ne.mpr c2
    have c2b1 : (t106 != 0) = true := bne_iff_ne.mpr c2
    obtain rfl := Option.some.inj H
    go_enter Try.func8, Try.ntmps8
    go_wp2_with (first | ((with_reducible refine gate_callee (f := 10) rfl ?_); refine goesL_ (some 5) rfl rfl Try.func10 (by kernel_rfl) rfl #[.string (⟨#[97, 58, 98, 124, 47, 120, 47, 59]⟩ : ByteArray)] rfl (by (try simp only [List.map_toArray, List.map_cons, List.map_nil]); first | done | rfl | (simp only [List.length_drop, List.length_take]; rfl)) ?_; (with_reducible refine (word_All.calls k (⟨#[97, 58, 98, 124, 47, 120, 47, 59]⟩ : ByteArray) t104 t105 t106 _ A1.out).mono ?_); rintro e w11 ⟨v107, rfl, ho0, hb⟩; refine ⟨_, rfl, ?_⟩; have n0_ := Aside0.mk (Kd.R_lower ho0 (below_size (by repeat (first | (with_reducible first | exact HB.out | apply below_alloc | apply pw_below_drewN | apply below_drew1) | exact HB.out)))); have n1_ := Aside0.mk (below_step (by repeat (first | (with_reducible first | exact HB.out | apply below_alloc | apply pw_below_drewN | apply below_drew1) | exact HB.out)) hb); clear HB; have HO108 := n0_; have HB := n1_; clear n0_ n1_; (try clear hb); (try clear hb2); (try clear hk); (try clear hi); (try clear ho0)))
    go_ret
    exact ⟨by first | rfl | (simp [errW_none, errW_some] <;> rfl) | (simp [*, errW_none, errW_some] <;> rfl), by repeat (first | (with_reducible first | exact HB.out | apply below_alloc | apply pw_below_drewN | apply below_drew1) | exact HB.out)⟩

-- NOT PRINTED: function 33 (abi_NoEscape)

-- NOT PRINTED: function 30 (strings_Builder_copyCheck)

-- NOT PRINTED: function 34 (bytealg_MakeNoZero)

-- NOT PRINTED: function 31 (strings_Builder_grow)

-- NOT PRINTED: function 26 (strings_Builder_Grow)

-- NOT PRINTED: function 27 (strings_Builder_WriteString)

-- NOT PRINTED: function 28 (strings_Builder_String)

/-! ### strings_Join: function 23 -/
def strings_Join.f (l0 : List (ByteArray)) (a1 : ByteArray) : Option (ByteArray) := if l0.length ≤ 140737488355328 ∧ (Lib.join (l0.map (·.data.toList)) a1.data.toList).length ≤ 140737488355328 then some ⟨(Lib.join (l0.map (·.data.toList)) a1.data.toList).toArray⟩ else none
theorem strings_Join.calls (A0 : Option Addr) (c0 : Nat) (l0 : List (ByteArray)) (a1 : ByteArray) (r : ByteArray) (w : World) (hr0 : Kd.C Kd.string w A0 l0.length l0) (hc0 : l0.length ≤ c0) (h : strings_Join.f l0 a1 = some r) (hs0 : ∀ ad, A0 = some ad → ad.spot = none) :
    Calls Try.prog 23 #[.slice A0 l0.length c0, .string a1] w fun e w' => e = .returned (.string r) ∧ Below w.heap.size w w' := by
  unfold strings_Join.f at h
  by_cases hb : l0.length ≤ 140737488355328 ∧ (Lib.join (l0.map (·.data.toList)) a1.data.toList).length ≤ 140737488355328
  · rw [if_pos hb] at h
    obtain rfl := Option.some.inj h
    by_cases hz : l0 = []
    · subst hz
      exact (Try.strings_Join_none A0 c0 a1 w).mono fun e w' ⟨he, hw⟩ => ⟨he, hw ▸ Below.refl _ _⟩
    · have hpos : 0 < l0.length := List.length_pos_iff.mpr hz
      obtain ⟨ad, rfl, hcell⟩ := hr0.2.2 hpos
      obtain ⟨bk, o, sp⟩ := ad
      obtain rfl : sp = none := hs0 _ rfl
      have hlt : bk < w.heap.size := Kd.C_lt hr0 hpos (by decide)
      refine Try.strings_Join bk o c0 l0 a1 w (fun j x hj => ?_) hlt hb.1 hc0 hb.2
      obtain ⟨c, _, hc, hce⟩ := hcell j x hj
      have hc' : c = [.string x] := hc
      subst hc'
      have := hce 0 (.string x) rfl
      rw [show j * Kd.string.sz + 0 = j from by show j * 1 + 0 = j; omega] at this
      by_cases hj0 : j = 0
      · subst hj0; exact this
      · rw [Addr.add, if_neg hj0] at this
        exact this
  · rw [if_neg hb] at h; cases h

end Go.Proofs.Ytjclnihkcghmaaa.PWordShows
