/- Proved here: what the functions below come to: walks printed by a program, over contracts of this claim. -/
import Derived.Test.YtkabcjchgaokoaaDoorGSjx0
import Derived.Test.YtkabcjchgaokoaaDoorGSjx6
namespace Go.Proofs.YtkabcjchgaokoaaDoor.PSj
open Go.RowKit Go.Proofs.YtkabcjchgaokoaaDoorW.PrintWords Go.Proofs.YtkabcjchgaokoaaDoorW.PrintLast Go.Proofs.YtkabcjchgaokoaaDoorW.PrintMore
attribute [local go_sem] max2_int min2_int max_two min_two max_three min_three max_four min_four   -- for this text's walks alone
set_option linter.unusedVariables false
set_option linter.unusedSimpArgs false

/-! ### bytes_Or: function 49 -/
theorem bytes_Or.ix0 (a b c d : Int) (w : World) : (Instr.index 38 (.agg #[.int .u64 a, .int .u64 b, .int .u64 c, .int .u64 d]) (.int .i64 0)).run Tryd.prog w = .ok (.int .u64 a) w := by kernel_rfl
theorem bytes_Or.ix1 (a b c d : Int) (w : World) : (Instr.index 38 (.agg #[.int .u64 a, .int .u64 b, .int .u64 c, .int .u64 d]) (.int .i64 1)).run Tryd.prog w = .ok (.int .u64 b) w := by kernel_rfl
theorem bytes_Or.ix2 (a b c d : Int) (w : World) : (Instr.index 38 (.agg #[.int .u64 a, .int .u64 b, .int .u64 c, .int .u64 d]) (.int .i64 2)).run Tryd.prog w = .ok (.int .u64 c) w := by kernel_rfl
theorem bytes_Or.ix3 (a b c d : Int) (w : World) : (Instr.index 38 (.agg #[.int .u64 a, .int .u64 b, .int .u64 c, .int .u64 d]) (.int .i64 3)).run Tryd.prog w = .ok (.int .u64 d) w := by kernel_rfl
def bytes_Or.f (x0 x1 x2 x3 y0 y1 y2 y3 : Int) : Option (Int × Int × Int × Int) := some (bits .or .u64 x0 y0, bits .or .u64 x1 y1, bits .or .u64 x2 y2, bits .or .u64 x3 y3)
attribute [local go_sem] bytes_Or.ix0 bytes_Or.ix1 bytes_Or.ix2 bytes_Or.ix3 in
set_option maxHeartbeats 1000000 in
set_option maxRecDepth 100000 in
theorem bytes_Or.calls (x0 x1 x2 x3 y0 y1 y2 y3 : Int) (r1 r2 r3 r4 : Int) (w : World) (h : bytes_Or.f x0 x1 x2 x3 y0 y1 y2 y3 = some (r1, r2, r3, r4)) :
    Calls Tryd.prog 49 #[.agg #[.int .u64 x0, .int .u64 x1, .int .u64 x2, .int .u64 x3], .agg #[.int .u64 y0, .int .u64 y1, .int .u64 y2, .int .u64 y3]] w fun e w' => e = .returned (.agg #[.int .u64 r1, .int .u64 r2, .int .u64 r3, .int .u64 r4]) ∧ Below w.heap.size w w' := by
  unfold bytes_Or.f at h
  simp only [Option.some.injEq, Prod.mk.injEq] at h
  obtain ⟨rfl, rfl, rfl, rfl⟩ := h
  go_enter Tryd.func49, Tryd.ntmps49
  go_wp2_with fail
  refine wp_loop_rounds 5 ?_
  iterate 5 (rw [rounds_succ]; go_wp2_with fail)
  refine bodyPost_ret (v := .agg #[.int .u64 (bits .or .u64 x0 y0), .int .u64 (bits .or .u64 x1 y1), .int .u64 (bits .or .u64 x2 y2), .int .u64 (bits .or .u64 x3 y3)]) (by simp [results, Tryd.results49, go_sem]) rfl ⟨rfl, ?_⟩
  repeat (first | exact Below.refl _ _ | (with_reducible apply below_alloc) | (with_reducible apply pw_below_drewN) | (with_reducible apply below_drew1) | (refine below_set ?_ (by simp; omega)))

/-! ### bytes_Span: function 50 -/
def bytes_Span.S4 (p : Nat) (x0 x1 x2 x3 : Int) (w : World) : Prop := w.cell? ⟨p, 0, none⟩ = some (.int .u64 x0) ∧ w.cell? ⟨p, 1, none⟩ = some (.int .u64 x1) ∧ w.cell? ⟨p, 2, none⟩ = some (.int .u64 x2) ∧ w.cell? ⟨p, 3, none⟩ = some (.int .u64 x3) ∧ w.frozen? ⟨p, 0, none⟩ = false ∧ w.frozen? ⟨p, 1, none⟩ = false ∧ w.frozen? ⟨p, 2, none⟩ = false ∧ w.frozen? ⟨p, 3, none⟩ = false
theorem bytes_Span.keep4 {w w1 : World} (hb : Below w.heap.size w w1) {p : Nat} {x0 x1 x2 x3 : Int} (h : bytes_Span.S4 p x0 x1 x2 x3 w) : bytes_Span.S4 p x0 x1 x2 x3 w1 := by
  obtain ⟨h0, h1, h2, h3, f0, f1, f2, f3⟩ := h
  exact ⟨pw_cell_below hb h0, pw_cell_below hb h1, pw_cell_below hb h2, pw_cell_below hb h3, (hb.frozen (World.block_lt_of_cell? w _ h0)).trans f0, (hb.frozen (World.block_lt_of_cell? w _ h1)).trans f1, (hb.frozen (World.block_lt_of_cell? w _ h2)).trans f2, (hb.frozen (World.block_lt_of_cell? w _ h3)).trans f3⟩
def bytes_Span.l0 : Nat → Int → Int → Int → Int → Int → Int → Option (Int × Int × Int × Int)
  | 0, _, _, _, _, _, _ => none
  | k + 1, x0, x1, x2, x3, b, e => if b ≤ e then ((bytes_One.f b).bind fun o => ((bytes_Or.f x0 x1 x2 x3 o.1 o.2.1 o.2.2.1 o.2.2.2).bind fun r => bytes_Span.l0 k r.1 r.2.1 r.2.2.1 r.2.2.2 (b + 1) e)) else some (x0, x1, x2, x3)
def bytes_Span.f (k : Nat) (a0 a1 : Int) : Option (Int × Int × Int × Int) := if 0 ≤ a0 ∧ a0 < 256 ∧ 0 ≤ a1 ∧ a1 < 256 then bytes_Span.l0 k 0 0 0 0 a0 a1 else none
theorem bytes_Span.mono_l : ∀ k, (∀ y0 y1 y2 y3 y4 y5, LeO (bytes_Span.l0 k y0 y1 y2 y3 y4 y5) (bytes_Span.l0 (k + 1) y0 y1 y2 y3 y4 y5))
  | 0 => fun _ _ _ _ _ _ r h => by simp [bytes_Span.l0] at h
  | k + 1 => by
    have ih0 := bytes_Span.mono_l k
    intro y0 y1 y2 y3 y4 y5
    unfold bytes_Span.l0
    repeat' first
    | (with_reducible exact ih0 _ _ _ _ _ _)
    | (with_reducible exact LeO.refl _)
    | (with_reducible exact LeO.none _)
    | (with_reducible refine LeO.ite ?_ ?_)
    | (with_reducible refine LeO.bind ?_ (fun _ => ?_))
theorem bytes_Span.mono : ∀ a0 a1 k, LeO (bytes_Span.f k a0 a1) (bytes_Span.f (k + 1) a0 a1) := by
  intro a0 a1 k
  have ih0 := bytes_Span.mono_l k
  unfold bytes_Span.f
  repeat' first
  | (with_reducible exact ih0 _ _ _ _ _ _)
  | (with_reducible exact LeO.refl _)
  | (with_reducible exact LeO.none _)
  | (with_reducible refine LeO.ite ?_ ?_)
set_option maxHeartbeats 4000000 in
set_option maxRecDepth 100000 in
theorem bytes_Span.calls (k : Nat) (a0 a1 : Int) (r1 r2 r3 r4 : Int) (w : World) (h : bytes_Span.f k a0 a1 = some (r1, r2, r3, r4)) :
    Calls Tryd.prog 50 #[.int .u8 a0, .int .u8 a1] w fun e w' => e = .returned (.agg #[.int .u64 r1, .int .u64 r2, .int .u64 r3, .int .u64 r4]) ∧ Below w.heap.size w w' := by
  unfold bytes_Span.f at h
  by_cases hb : 0 ≤ a0 ∧ a0 < 256 ∧ 0 ≤ a1 ∧ a1 < 256
  · rw [if_pos hb] at h
    obtain ⟨h0, h1, h2, h3⟩ := hb
    have H0 := Aside0.mk h
    clear h
    go_enter Tryd.func50, Tryd.ntmps50
    go_wp2_with fail
    go_loopg [6] k (fun kq v6 w' => ∃ (x0 x1 x2 x3 b : Int), v6 = .int .i64 b ∧ Aside0 (0 ≤ b) ∧ Aside0 (bytes_Span.l0 kq x0 x1 x2 x3 b a1 = some (r1, r2, r3, r4)) ∧ Aside0 (w'.heap[w.heap.size + 1]? = some (.cells #[.int .u64 x0, .int .u64 x1, .int .u64 x2, .int .u64 x3] 38 (0, 0)) ∧ w'.heap[w.heap.size]? = some (.cells #[.int .u64 0, .int .u64 0, .int .u64 0, .int .u64 0] 38 (0, 0)) ∧ Below w.heap.size w w'))
    case atStart =>
      refine ⟨0, 0, 0, 0, a0, rfl, ⟨h0⟩, H0, ⟨?_, ?_, ?_⟩⟩
      · have := blk_new (w.alloc (.cells #[.int .u64 0, .int .u64 0, .int .u64 0, .int .u64 0] 38)) (.cells #[.int .u64 0, .int .u64 0, .int .u64 0, .int .u64 0] 38)
        simpa using this
      · exact blk_alloc (blk_new w _) _
      · repeat (first | exact Below.refl _ _ | (with_reducible apply below_alloc))
    case round =>
      obtain ⟨x0, x1, x2, x3, b, rfl, HB0, HA, HW⟩ := hrel
      cases gk with
      | zero => exact absurd HA.out (by simp [bytes_Span.l0])
      | succ k1 =>
        have h := HA.out
        clear HA
        simp only [bytes_Span.l0] at h
        have hb0 := HB0.out
        obtain ⟨g1, g2, g3⟩ := HW.out
        have G := Aside0.mk g2
        have GB := Aside0.mk g3
        have G1 := Aside0.mk g1
        have c0 := blk_cell g1 0
        have c1 := blk_cell g1 1
        have c2 := blk_cell g1 2
        have c3 := blk_cell g1 3
        have f0 := blk_frozen g1 0
        have f1 := blk_frozen g1 1
        have f2 := blk_frozen g1 2
        have f3 := blk_frozen g1 3
        have c4 := blk_cell g2 0
        have c5 := blk_cell g2 1
        have c6 := blk_cell g2 2
        have c7 := blk_cell g2 3
        have f4 := blk_frozen g2 0
        have f5 := blk_frozen g2 1
        have f6 := blk_frozen g2 2
        have f7 := blk_frozen g2 3
        simp only [List.getElem?_toArray, List.getElem?_cons_zero, List.getElem?_cons_succ] at c0 c1 c2 c3 c4 c5 c6 c7
        by_cases hle : b ≤ a1
        · rw [if_pos hle] at h
          obtain ⟨⟨o0, o1, o2, o3⟩, ho, h⟩ := Option.bind_eq_some_iff.mp h
          obtain ⟨⟨q0, q1, q2, q3⟩, hq, h⟩ := Option.bind_eq_some_iff.mp h
          have HO := Aside0.mk ho
          have HQ := Aside0.mk hq
          have HN := Aside0.mk h
          have d1 : decide (b ≤ a1) = true := decide_eq_true hle
          have hb2 : b < 256 := by omega
          have cv : IntKind.u8.wrap b = b := IntWalk.u8_in _ (by omega)
          clear ho hq h g1 g2 g3 HW hle h0 h1
          go_wp2_with fail
          go_region_with (first | (go_at_call 25; (with_reducible refine (bytes_One.calls b o0 o1 o2 o3 _ HO.out).mono ?_); rintro e w' ⟨rfl, hb⟩; have k4 := bytes_Span.keep4 (p := w.heap.size + 1) (x0 := x0) (x1 := x1) (x2 := x2) (x3 := x3) hb (by unfold bytes_Span.S4; go_keep); obtain ⟨kc0, kc1, kc2, kc3, kc4, kc5, kc6, kc7⟩ := k4; have HB2 := Aside0.mk hb; clear hb) | (go_at_call 49; (with_reducible refine (bytes_Or.calls x0 x1 x2 x3 o0 o1 o2 o3 q0 q1 q2 q3 _ HQ.out).mono ?_); rintro e w' ⟨rfl, hb⟩; have k4 := bytes_Span.keep4 (p := w.heap.size + 1) (x0 := x0) (x1 := x1) (x2 := x2) (x3 := x3) hb (by unfold bytes_Span.S4; go_keep); obtain ⟨kc0, kc1, kc2, kc3, kc4, kc5, kc6, kc7⟩ := k4; have HB3 := Aside0.mk hb; clear hb))
          all_goals
            have e1 := blk_below (blk_below (blk_drew G1.out) HB2.out) HB3.out
            have e2 := blk_below (blk_below (blk_drew G.out) HB2.out) HB3.out
            have e3 := below_step (below_step (below_drew GB.out) HB2.out) HB3.out
            have e4 := blk_put (blk_put (blk_put (blk_put e1 0 (.int .u64 q0) rfl) 1 (.int .u64 q1) rfl) 2 (.int .u64 q2) rfl) 3 (.int .u64 q3) rfl
            have e5 := blk_far (blk_far (blk_far (blk_far e2 (p := ⟨w.heap.size + 1, 0, none⟩) (by simp) (.int .u64 q0)) (p := ⟨w.heap.size + 1, 1, none⟩) (by simp) (.int .u64 q1)) (p := ⟨w.heap.size + 1, 2, none⟩) (by simp) (.int .u64 q2)) (p := ⟨w.heap.size + 1, 3, none⟩) (by simp) (.int .u64 q3)
            have e6 := below_set (g := w.heap.size + 1) (j := 3) (v := .int .u64 q3) (below_set (g := w.heap.size + 1) (j := 2) (v := .int .u64 q2) (below_set (g := w.heap.size + 1) (j := 1) (v := .int .u64 q1) (below_set (g := w.heap.size + 1) (j := 0) (v := .int .u64 q0) e3 (by omega)) (by omega)) (by omega)) (by omega)
            have E := Aside0.mk (And.intro e4 (And.intro e5 e6))
            clear e1 e2 e3 e4 e5 e6
            go_wp2
            go_roundg k1
            case measure => omega
            case rel => exact ⟨q0, q1, q2, q3, b + 1, (by first | rfl | (simp; done)), ⟨by omega⟩, HN, E⟩
        · rw [if_neg hle] at h
          simp only [Option.some.injEq, Prod.mk.injEq] at h
          obtain ⟨rfl, rfl, rfl, rfl⟩ := h
          have d1 : decide (b ≤ a1) = false := decide_eq_false hle
          clear g1 g2 g3 HW hle h0 h1
          go_wp2_with fail
          refine bodyPost_ret (v := .agg #[.int .u64 x0, .int .u64 x1, .int .u64 x2, .int .u64 x3]) (by simp [results, Tryd.results50, go_sem, *]) rfl ⟨rfl, ?_⟩
          exact below_set (below_set (below_set (below_set GB.out (Nat.le_refl _)) (Nat.le_refl _)) (Nat.le_refl _)) (Nat.le_refl _)
  · rw [if_neg hb] at h
    cases h

end Go.Proofs.YtkabcjchgaokoaaDoor.PSj
