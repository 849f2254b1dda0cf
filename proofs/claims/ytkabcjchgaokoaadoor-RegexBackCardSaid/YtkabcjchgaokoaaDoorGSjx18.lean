/- Proved here: what the functions below come to: walks printed by a program, over contracts of this claim. -/
import Derived.Test.YtkabcjchgaokoaaDoorGSjx0
import Derived.Test.YtkabcjchgaokoaaDoorGSjx11
import Derived.Test.YtkabcjchgaokoaaDoorGSjx16
namespace Go.Proofs.YtkabcjchgaokoaaDoor.PSj
open Go.RowKit Go.Proofs.YtkabcjchgaokoaaDoorW.PrintWords Go.Proofs.YtkabcjchgaokoaaDoorW.PrintLast Go.Proofs.YtkabcjchgaokoaaDoorW.PrintMore
attribute [local go_sem] max2_int min2_int max_two min_two max_three min_three max_four min_four   -- for this text's walks alone
set_option linter.unusedVariables false
set_option linter.unusedSimpArgs false

/-! ### regex_Parse: function 11 -/
theorem regex_Parse.ta (n : Int) (w : World) : (Instr.typeAssert (.iface 51 (.int .i64 n)) 20 51 true).run Tryd.prog w = .ok (.tuple #[.int .i64 n, .bool true]) w := by kernel_rfl
theorem regex_Parse.ta0 (w : World) : (Instr.typeAssert .nilIface 20 51 true).run Tryd.prog w = .ok (.tuple #[.int .i64 0, .bool false]) w := by kernel_rfl
set_option maxHeartbeats 4000000 in
set_option maxRecDepth 100000 in
theorem regex_Parse.catch (b2 b3 b4 : Nat) (v2 v3 v4 : Value) (n : Int) (older : List PanicEntry) (w : World) (h2 : w.cell? ⟨b2, 0, none⟩ = some v2) (h3 : w.cell? ⟨b3, 0, none⟩ = some v3) (h4 : w.cell? ⟨b4, 0, none⟩ = some v4)
    (f2 : w.frozen? ⟨b2, 0, none⟩ = false) (f3 : w.frozen? ⟨b3, 0, none⟩ = false) (f4 : w.frozen? ⟨b4, 0, none⟩ = false) (n23 : b2 ≠ b3) (n24 : b2 ≠ b4) (n34 : b3 ≠ b4) (n32 : b3 ≠ b2) (n42 : b4 ≠ b2) (n43 : b4 ≠ b3) :
    CallsD Tryd.prog 18 #[.pointer (some ⟨b2, 0, none⟩), .pointer (some ⟨b3, 0, none⟩), .pointer (some ⟨b4, 0, none⟩)] (.panicking ({ v := .iface 51 (.int .i64 n), recovered := false } :: older)) w fun e u' w' =>
      e = .returned (.tuple #[]) ∧ u' = .panicking ({ v := .iface 51 (.int .i64 n), recovered := true } :: older) ∧ w' = ((w.setCell ⟨b2, 0, none⟩ (.slice none 0 0)).setCell ⟨b3, 0, none⟩ (.int .i64 n)).setCell ⟨b4, 0, none⟩ (.int .i64 1) := by
  refine callsD_of_wpS Tryd.func18 rfl fun c₀ cs hu => ?_
  apply wpS_seq
  apply wpS_region
  simp [wpOpsS, go_sem, recoverD, hu, Tryd.ntmps18, Exit.thenS, regex_Parse.ta]
  apply wpS_seq
  apply wpS_region
  simp [wpOpsS, go_sem, Exit.thenS]
  refine wpS_cond (t := true) (by simp [Act.eval]) ?_
  simp only [if_true]
  apply wpS_region
  simp [wpOpsS, go_sem, h2, h3, h4, f2, f3, f4, n23, n24, n34, n32, n42, n43, bodyPostS, results, Tryd.results18]
set_option maxHeartbeats 4000000 in
set_option maxRecDepth 100000 in
theorem regex_Parse.idle (b2 b3 b4 : Nat) (w : World) :
    CallsD Tryd.prog 18 #[.pointer (some ⟨b2, 0, none⟩), .pointer (some ⟨b3, 0, none⟩), .pointer (some ⟨b4, 0, none⟩)] .returning w fun e u' w' => e = .returned (.tuple #[]) ∧ u' = .returning ∧ w' = w := by
  refine callsD_of_wpS Tryd.func18 rfl fun c₀ cs hu => ?_
  apply wpS_seq
  apply wpS_region
  simp [wpOpsS, go_sem, recoverD, hu, Tryd.ntmps18, Exit.thenS, regex_Parse.ta0]
  apply wpS_seq
  apply wpS_region
  simp [wpOpsS, go_sem, Exit.thenS]
  refine wpS_cond (t := false) (by simp [Act.eval]) ?_
  simp only [Bool.false_eq_true, if_false]
  refine wpS_of_wp (wp_skip ?_)
  cases c₀
  simp_all [bodyPostS, results, Tryd.results18]
theorem Rd.start (W : World) (s : ByteArray) : Rd W (W.alloc (.cells #[.string s, .int .i64 0, .slice none 0 0] 50)) W.heap.size s 0 [] :=
  ⟨.slice none 0 0, blk_new W _, Nat.le_refl _, Kd.R_nil _ _ _ _ _, below_alloc (Below.refl _ _) _⟩
theorem Rd.bel {w0 w : World} {b : Nat} {s : ByteArray} {a : Int} {out : List S40} (h : Rd w0 w b s a out) : Below w0.heap.size w0 w := by
  obtain ⟨_, _, _, _, h4⟩ := h
  exact h4
def regex_Parse.f (k : Nat) (s : ByteArray) : Option (List S40 × Int × Int) := if (s.size : Int) > 200 then some ([], 0, 3) else (regex_reader_rows.f k s 0 []).bind fun r => match r with | .error n => some ([], n, 1) | .ok q => if q.1 < (s.size : Int) then some ([], q.1, 1) else if (q.2.length : Int) > 60 then some ([], 0, 3) else some (q.2, 0, 0)
theorem regex_Parse.mono : ∀ s k, LeO (regex_Parse.f k s) (regex_Parse.f (k + 1) s) := by
  intro s k
  unfold regex_Parse.f
  refine LeO.ite (LeO.refl _) (LeO.bind ((regex_reader_atom.mono_all k).2.2.2.2.2.1 _ _ _) (fun r => LeO.refl _))
set_option maxHeartbeats 8000000 in
set_option maxRecDepth 100000 in
theorem regex_Parse.calls (k : Nat) (s : ByteArray) (r1 : List S40) (r2 r3 : Int) (w : World) (h : regex_Parse.f k s = some (r1, r2, r3)) :
    Calls Tryd.prog 11 #[.string s] w fun e w' => ∃ v0_ : Value, e = .returned (.tuple #[v0_, .int .i64 r2, .int .i64 r3]) ∧ Kd.R k40 40 w' w.heap.size (fun _ => True) v0_ r1 ∧ Below w.heap.size w w' := by
  have hmf : ∀ (fn : Fn) (first cap : Array Value) (w : World), (Instr.makeFunc fn first cap).run Tryd.prog w = .ok (.func fn first cap) w := fun _ _ _ _ => rfl
  unfold regex_Parse.f at h
  by_cases h1 : (s.size : Int) > 200
  · rw [if_pos h1] at h
    simp only [Option.some.injEq, Prod.mk.injEq] at h
    obtain ⟨rfl, rfl, rfl⟩ := h
    have d1 : decide (200 < (s.size : Int)) = true := decide_eq_true h1
    have d2 : decide (200 < s.size) = true := decide_eq_true (by omega)
    go_enter_defers Tryd.func11, Tryd.ntmps11
    go_wp2
    refine ⟨.tuple #[.slice none 0 0, .int .i64 0, .int .i64 3], by simp [results, Tryd.results11, go_sem], .slice none 0 0, rfl, Kd.R_nil _ _ _ _ _, ?_⟩
    repeat (first | exact Below.refl _ _ | (with_reducible apply below_alloc))
  · rw [if_neg h1] at h
    have d1 : decide (200 < (s.size : Int)) = false := decide_eq_false h1
    have d2 : decide (200 < s.size) = false := decide_eq_false (by omega)
    obtain ⟨r, hr, h⟩ := Option.bind_eq_some_iff.mp h
    have HR := Aside0.mk hr
    have hs : (s.size : Int) < 100000 := by omega
    clear hr h1
    cases r with
    | error n =>
      simp only [Option.some.injEq, Prod.mk.injEq] at h
      obtain ⟨rfl, rfl, rfl⟩ := h
      go_enter_defers Tryd.func11, Tryd.ntmps11
      go_wp2_with fail
      (go_at_call 19; (with_reducible refine ((regex_reader_atom.all (((w.alloc (.cells #[.slice none 0 0] 22)).alloc (.cells #[.int .i64 0] 3)).alloc (.cells #[.int .i64 0] 23)) (w.heap.size + 3) s hs k k (Nat.le_refl _)).2.2.2.calls _ 0 [] (.error n) (by simpa using Rd.start (((w.alloc (.cells #[.slice none 0 0] 22)).alloc (.cells #[.int .i64 0] 3)).alloc (.cells #[.int .i64 0] 23)) s) HR.out).mono ?_); rintro e' w' ⟨rfl, a9, o9, hr⟩; simp only [thrown])
      go_wp2_with fail
      have hB := hr.bel
      have B2 := blk_below (g := w.heap.size) (o := .cells #[.slice none 0 0] 22 (0, 0)) (blk_alloc (blk_alloc (blk_new w _) _) _) hB
      have B3 := blk_below (g := w.heap.size + 1) (o := .cells #[.int .i64 0] 3 (0, 0)) (blk_alloc (by simpa using blk_new (w.alloc (.cells #[.slice none 0 0] 22)) (.cells #[.int .i64 0] 3)) _) hB
      have B4 := blk_below (g := w.heap.size + 1 + 1) (o := .cells #[.int .i64 0] 23 (0, 0)) (by simpa using blk_new ((w.alloc (.cells #[.slice none 0 0] 22)).alloc (.cells #[.int .i64 0] 3)) (.cells #[.int .i64 0] 23)) hB
      have HB := Aside0.mk (below_step (below_alloc (below_alloc (below_alloc (Below.refl _ _) (.cells #[.slice none 0 0] 22)) (.cells #[.int .i64 0] 3)) (.cells #[.int .i64 0] 23)) hB)
      have c2 := (blk_cell B2 0).trans (show _ = some (.slice none 0 0) from rfl)
      have c3 := (blk_cell B3 0).trans (show _ = some (.int .i64 0) from rfl)
      have c4 := (blk_cell B4 0).trans (show _ = some (.int .i64 0) from rfl)
      have f2 := blk_frozen B2 0
      have f3 := blk_frozen B3 0
      have f4 := blk_frozen B4 0
      have HR2 := Aside0.mk hr
      have BB2 := Aside0.mk B2
      have BB3 := Aside0.mk B3
      have BB4 := Aside0.mk B4
      clear B2 B3 B4 hB
      clear hr
      refine leaves_cons (f := 18) (args := #[.pointer (some ⟨w.heap.size, 0, none⟩), .pointer (some ⟨w.heap.size + 1, 0, none⟩), .pointer (some ⟨w.heap.size + 1 + 1, 0, none⟩)]) (by simp) (by simp [go_sem]) ?_
      refine (regex_Parse.catch w.heap.size (w.heap.size + 1) (w.heap.size + 1 + 1) _ _ _ n [] _ c2 c3 c4 f2 f3 f4 (by omega) (by omega) (by omega) (by omega) (by omega) (by omega)).mono ?_
      rintro e u' w'' ⟨rfl, rfl, rfl⟩
      show Leaves Tryd.prog Tryd.f11 _ _ [] .returning _
      refine ⟨.tuple #[.slice none 0 0, .int .i64 n, .int .i64 1], by simp [results, Tryd.results11, go_sem, c2, c3, c4, f2, f3, f4], .slice none 0 0, rfl, Kd.R_nil _ _ _ _ _, below_set (below_set (below_set HB.out (Nat.le_refl _)) (by omega)) (by omega)⟩
    | ok q =>
      obtain ⟨qa, qo⟩ := q
      simp only at h
      by_cases q1 : qa < (s.size : Int)
      · rw [if_pos q1] at h
        simp only [Option.some.injEq, Prod.mk.injEq] at h
        obtain ⟨rfl, rfl, rfl⟩ := h
        have e1 : decide (qa < (s.size : Int)) = true := decide_eq_true q1
        clear q1
        go_enter_defers Tryd.func11, Tryd.ntmps11
        go_wp2_with fail
        (go_at_call 19; (with_reducible refine ((regex_reader_atom.all (((w.alloc (.cells #[.slice none 0 0] 22)).alloc (.cells #[.int .i64 0] 3)).alloc (.cells #[.int .i64 0] 23)) (w.heap.size + 3) s hs k k (Nat.le_refl _)).2.2.2.calls _ 0 [] (.ok (qa, qo)) (by simpa using Rd.start (((w.alloc (.cells #[.slice none 0 0] 22)).alloc (.cells #[.int .i64 0] 3)).alloc (.cells #[.int .i64 0] 23)) s) HR.out).mono ?_); rintro e' w' ⟨rfl, hr⟩)
        have hB := hr.bel
        have B2 := blk_below (g := w.heap.size) (o := .cells #[.slice none 0 0] 22 (0, 0)) (blk_alloc (blk_alloc (blk_new w _) _) _) hB
        have B3 := blk_below (g := w.heap.size + 1) (o := .cells #[.int .i64 0] 3 (0, 0)) (blk_alloc (by simpa using blk_new (w.alloc (.cells #[.slice none 0 0] 22)) (.cells #[.int .i64 0] 3)) _) hB
        have B4 := blk_below (g := w.heap.size + 1 + 1) (o := .cells #[.int .i64 0] 23 (0, 0)) (by simpa using blk_new ((w.alloc (.cells #[.slice none 0 0] 22)).alloc (.cells #[.int .i64 0] 3)) (.cells #[.int .i64 0] 23)) hB
        have HB := Aside0.mk (below_step (below_alloc (below_alloc (below_alloc (Below.refl _ _) (.cells #[.slice none 0 0] 22)) (.cells #[.int .i64 0] 3)) (.cells #[.int .i64 0] 23)) hB)
        have c2 := (blk_cell B2 0).trans (show _ = some (.slice none 0 0) from rfl)
        have c3 := (blk_cell B3 0).trans (show _ = some (.int .i64 0) from rfl)
        have c4 := (blk_cell B4 0).trans (show _ = some (.int .i64 0) from rfl)
        have f2 := blk_frozen B2 0
        have f3 := blk_frozen B3 0
        have f4 := blk_frozen B4 0
        have HR2 := Aside0.mk hr
        have BB2 := Aside0.mk B2
        have BB3 := Aside0.mk B3
        have BB4 := Aside0.mk B4
        clear B2 B3 B4 hB
        have u1 := hr.c0
        have u2 := hr.c1
        have u3 := hr.f1
        obtain ⟨vv, g1, g2, g3, g4⟩ := hr
        obtain ⟨A, cc, rfl⟩ := Kd.R_slice g3
        have u4 := (blk_cell g1 2).trans (show _ = some (.slice A qo.length cc) from rfl)
        have G3 := Aside0.mk g3
        clear g1 g2 g3 g4
        go_wp2_with fail
        refine leaves_cons (f := 18) (args := #[.pointer (some ⟨w.heap.size, 0, none⟩), .pointer (some ⟨w.heap.size + 1, 0, none⟩), .pointer (some ⟨w.heap.size + 1 + 1, 0, none⟩)]) (by simp) (by simp [go_sem]) ?_
        refine (regex_Parse.catch w.heap.size (w.heap.size + 1) (w.heap.size + 1 + 1) _ _ _ qa [] _ c2 c3 c4 f2 f3 f4 (by omega) (by omega) (by omega) (by omega) (by omega) (by omega)).mono ?_
        rintro e u' w'' ⟨rfl, rfl, rfl⟩
        show Leaves Tryd.prog Tryd.f11 _ _ [] .returning _
        refine ⟨.tuple #[.slice none 0 0, .int .i64 qa, .int .i64 1], by simp [results, Tryd.results11, go_sem, c2, c3, c4, f2, f3, f4], .slice none 0 0, rfl, Kd.R_nil _ _ _ _ _, below_set (below_set (below_set HB.out (Nat.le_refl _)) (by omega)) (by omega)⟩
      · rw [if_neg q1] at h
        have e1 : decide (qa < (s.size : Int)) = false := decide_eq_false q1
        by_cases q2 : (qo.length : Int) > 60
        · rw [if_pos q2] at h
          simp only [Option.some.injEq, Prod.mk.injEq] at h
          obtain ⟨rfl, rfl, rfl⟩ := h
          have e2 : decide (60 < (qo.length : Int)) = true := decide_eq_true q2
          have e3 : decide (60 < qo.length) = true := decide_eq_true (by omega)
          clear q1 q2
          go_enter_defers Tryd.func11, Tryd.ntmps11
          go_wp2_with fail
          (go_at_call 19; (with_reducible refine ((regex_reader_atom.all (((w.alloc (.cells #[.slice none 0 0] 22)).alloc (.cells #[.int .i64 0] 3)).alloc (.cells #[.int .i64 0] 23)) (w.heap.size + 3) s hs k k (Nat.le_refl _)).2.2.2.calls _ 0 [] (.ok (qa, qo)) (by simpa using Rd.start (((w.alloc (.cells #[.slice none 0 0] 22)).alloc (.cells #[.int .i64 0] 3)).alloc (.cells #[.int .i64 0] 23)) s) HR.out).mono ?_); rintro e' w' ⟨rfl, hr⟩)
          have hB := hr.bel
          have B2 := blk_below (g := w.heap.size) (o := .cells #[.slice none 0 0] 22 (0, 0)) (blk_alloc (blk_alloc (blk_new w _) _) _) hB
          have B3 := blk_below (g := w.heap.size + 1) (o := .cells #[.int .i64 0] 3 (0, 0)) (blk_alloc (by simpa using blk_new (w.alloc (.cells #[.slice none 0 0] 22)) (.cells #[.int .i64 0] 3)) _) hB
          have B4 := blk_below (g := w.heap.size + 1 + 1) (o := .cells #[.int .i64 0] 23 (0, 0)) (by simpa using blk_new ((w.alloc (.cells #[.slice none 0 0] 22)).alloc (.cells #[.int .i64 0] 3)) (.cells #[.int .i64 0] 23)) hB
          have HB := Aside0.mk (below_step (below_alloc (below_alloc (below_alloc (Below.refl _ _) (.cells #[.slice none 0 0] 22)) (.cells #[.int .i64 0] 3)) (.cells #[.int .i64 0] 23)) hB)
          have c2 := (blk_cell B2 0).trans (show _ = some (.slice none 0 0) from rfl)
          have c3 := (blk_cell B3 0).trans (show _ = some (.int .i64 0) from rfl)
          have c4 := (blk_cell B4 0).trans (show _ = some (.int .i64 0) from rfl)
          have f2 := blk_frozen B2 0
          have f3 := blk_frozen B3 0
          have f4 := blk_frozen B4 0
          have HR2 := Aside0.mk hr
          have BB2 := Aside0.mk B2
          have BB3 := Aside0.mk B3
          have BB4 := Aside0.mk B4
          clear B2 B3 B4 hB
          have u1 := hr.c0
          have u2 := hr.c1
          have u3 := hr.f1
          obtain ⟨vv, g1, g2, g3, g4⟩ := hr
          obtain ⟨A, cc, rfl⟩ := Kd.R_slice g3
          have u4 := (blk_cell g1 2).trans (show _ = some (.slice A qo.length cc) from rfl)
          have G3 := Aside0.mk g3
          clear g1 g2 g3 g4
          go_wp2_with fail
          refine leaves_cons (f := 18) (args := #[.pointer (some ⟨w.heap.size, 0, none⟩), .pointer (some ⟨w.heap.size + 1, 0, none⟩), .pointer (some ⟨w.heap.size + 1 + 1, 0, none⟩)]) (by simp) (by simp [go_sem]) ?_
          refine (regex_Parse.idle w.heap.size (w.heap.size + 1) (w.heap.size + 1 + 1) _).mono ?_
          rintro e u' w'' ⟨rfl, rfl, rfl⟩
          show Leaves Tryd.prog Tryd.f11 _ _ [] .returning _
          refine ⟨.tuple #[.slice none 0 0, .int .i64 0, .int .i64 3], by simp [results, Tryd.results11, go_sem, c2, c3, c4, f2, f3, f4], .slice none 0 0, rfl, Kd.R_nil _ _ _ _ _, below_set (below_set (below_set HB.out (Nat.le_refl _)) (by omega)) (by omega)⟩
        · rw [if_neg q2] at h
          simp only [Option.some.injEq, Prod.mk.injEq] at h
          obtain ⟨rfl, rfl, rfl⟩ := h
          have e2 : decide (60 < (qo.length : Int)) = false := decide_eq_false q2
          have e3 : decide (60 < qo.length) = false := decide_eq_false (by omega)
          clear q1 q2
          go_enter_defers Tryd.func11, Tryd.ntmps11
          go_wp2_with fail
          (go_at_call 19; (with_reducible refine ((regex_reader_atom.all (((w.alloc (.cells #[.slice none 0 0] 22)).alloc (.cells #[.int .i64 0] 3)).alloc (.cells #[.int .i64 0] 23)) (w.heap.size + 3) s hs k k (Nat.le_refl _)).2.2.2.calls _ 0 [] (.ok (qa, qo)) (by simpa using Rd.start (((w.alloc (.cells #[.slice none 0 0] 22)).alloc (.cells #[.int .i64 0] 3)).alloc (.cells #[.int .i64 0] 23)) s) HR.out).mono ?_); rintro e' w' ⟨rfl, hr⟩)
          have hB := hr.bel
          have B2 := blk_below (g := w.heap.size) (o := .cells #[.slice none 0 0] 22 (0, 0)) (blk_alloc (blk_alloc (blk_new w _) _) _) hB
          have B3 := blk_below (g := w.heap.size + 1) (o := .cells #[.int .i64 0] 3 (0, 0)) (blk_alloc (by simpa using blk_new (w.alloc (.cells #[.slice none 0 0] 22)) (.cells #[.int .i64 0] 3)) _) hB
          have B4 := blk_below (g := w.heap.size + 1 + 1) (o := .cells #[.int .i64 0] 23 (0, 0)) (by simpa using blk_new ((w.alloc (.cells #[.slice none 0 0] 22)).alloc (.cells #[.int .i64 0] 3)) (.cells #[.int .i64 0] 23)) hB
          have HB := Aside0.mk (below_step (below_alloc (below_alloc (below_alloc (Below.refl _ _) (.cells #[.slice none 0 0] 22)) (.cells #[.int .i64 0] 3)) (.cells #[.int .i64 0] 23)) hB)
          have c2 := (blk_cell B2 0).trans (show _ = some (.slice none 0 0) from rfl)
          have c3 := (blk_cell B3 0).trans (show _ = some (.int .i64 0) from rfl)
          have c4 := (blk_cell B4 0).trans (show _ = some (.int .i64 0) from rfl)
          have f2 := blk_frozen B2 0
          have f3 := blk_frozen B3 0
          have f4 := blk_frozen B4 0
          have HR2 := Aside0.mk hr
          have BB2 := Aside0.mk B2
          have BB3 := Aside0.mk B3
          have BB4 := Aside0.mk B4
          clear B2 B3 B4 hB
          have u1 := hr.c0
          have u2 := hr.c1
          have u3 := hr.f1
          obtain ⟨vv, g1, g2, g3, g4⟩ := hr
          obtain ⟨A, cc, rfl⟩ := Kd.R_slice g3
          have u4 := (blk_cell g1 2).trans (show _ = some (.slice A qo.length cc) from rfl)
          have G3 := Aside0.mk g3
          clear g1 g2 g3 g4
          have ht : ∀ q, q ∈ (40 : Nat) :: k40.E → q ≠ 22 ∧ q ≠ 3 ∧ q ≠ 23 := by intro q hq; simp [k40, k38, Kd.iso, Kd.pair, Kd.int, Kd.scalar] at hq; omega
          have rr := Kd.R_set (Kd.R_set (Kd.R_set (Kd.R_lower (base' := w.heap.size) (Kd.R_mono (ok' := fun _ => True) G3.out (fun _ _ => trivial)) (by simp; omega)) BB2.out (fun q hq => (ht q hq).1) 0 (.slice A qo.length cc)) (blk_far BB3.out (p := ⟨w.heap.size, 0, none⟩) (by simp) _) (fun q hq => (ht q hq).2.1) 0 (.int .i64 0)) (blk_far (blk_far BB4.out (p := ⟨w.heap.size, 0, none⟩) (by simp; omega) _) (p := ⟨w.heap.size + 1, 0, none⟩) (by simp) _) (fun q hq => (ht q hq).2.2) 0 (.int .i64 0)
          have RR := Aside0.mk rr
          clear rr ht
          go_wp2_with fail
          refine leaves_cons (f := 18) (args := #[.pointer (some ⟨w.heap.size, 0, none⟩), .pointer (some ⟨w.heap.size + 1, 0, none⟩), .pointer (some ⟨w.heap.size + 1 + 1, 0, none⟩)]) (by simp) (by simp [go_sem]) ?_
          refine (regex_Parse.idle w.heap.size (w.heap.size + 1) (w.heap.size + 1 + 1) _).mono ?_
          rintro e u' w'' ⟨rfl, rfl, rfl⟩
          show Leaves Tryd.prog Tryd.f11 _ _ [] .returning _
          refine ⟨.tuple #[.slice A qo.length cc, .int .i64 0, .int .i64 0], by simp [results, Tryd.results11, go_sem, c2, c3, c4, f2, f3, f4], .slice A qo.length cc, rfl, RR.out, below_set (below_set (below_set HB.out (Nat.le_refl _)) (by omega)) (by omega)⟩


end Go.Proofs.YtkabcjchgaokoaaDoor.PSj
