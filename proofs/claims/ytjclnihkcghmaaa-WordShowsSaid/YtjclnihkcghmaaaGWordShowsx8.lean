/- Proved here: what the functions below come to: walks printed by a program, over contracts of this claim. -/
import Derived.Test.YtjclnihkcghmaaaGWordShowsx0
import Derived.Test.YtjclnihkcghmaaaGWordShowsx3
import Derived.Test.YtjclnihkcghmaaaGWordShowsx5
import Derived.Test.YtjclnihkcghmaaaGWordShowsx6
import Derived.Test.YtjclnihkcghmaaaGWordShowsx7
namespace Go.Proofs.Ytjclnihkcghmaaa.PWordShows
open Go.RowKit Go.Proofs.YtjclnihkcghmaaaW.PrintWords Go.Proofs.YtjclnihkcghmaaaW.PrintLast Go.Proofs.YtjclnihkcghmaaaW.PrintMore
attribute [local go_sem] max2_int min2_int max_two min_two max_three min_three max_four min_four   -- for this text's walks alone
set_option linter.unusedVariables false
set_option linter.unusedSimpArgs false

/-! ### word_All: function 10 -/
def word_All.cut (k : Nat) (t : ByteArray) : Option (Int × Int) := (word_name.f k t).bind fun n1 => (if n1 = 0 then ((word_rule.f k t).bind fun n2 => (if n2 = 0 then ((word_sign.f t).bind fun n3 => (if n3 = 0 then (some (0, 0)) else (some (3, n3)))) else (some (2, n2)))) else (some (1, n1)))
def word_All.text (s : ByteArray) (at_ kind n : Int) : ByteArray := if kind = 2 then (s.extract at_.toNat (at_ + n).toNat).extract 1 (n - 1).toNat else s.extract at_.toNat (at_ + n).toNat
def word_All.l0 : Nat → ByteArray → List (S32) → Int → Option ((List (S32)) × Int × Int)
  | 0, _, _, _ => none
  | k + 1, s, out, at_ => if at_ < (s.size : Int) then (if 0 ≤ at_ then ((word_All.cut k (s.extract at_.toNat s.size)).bind fun c => (if c.1 = 0 then (some (([] : List (S32)), at_, 1)) else (if c.1 ≤ c.2 ∧ at_ + c.2 ≤ (s.size : Int) ∧ out.length < 5000 ∧ c.1 ≠ 3 ∨ c.1 = 3 ∧ c.2 = 1 ∧ out.length < 5000 then ((word_blank.f k (s.extract (at_ + c.2).toNat s.size)).bind fun b => (if 0 ≤ b ∧ at_ + c.2 + b ≤ (s.size : Int) then (word_All.l0 k s (out ++ [(⟨c.1, at_, word_All.text s at_ c.1 c.2⟩ : S32)]) (at_ + c.2 + b)) else (none))) else (none)))) else (none)) else (some (out, 0, 0))
def word_All.f (k : Nat) (a0 : ByteArray) : Option ((List (S32)) × Int × Int) := if (a0.size : Int) > 4000 then (some (([] : List (S32)), 0, 3)) else ((word_blank.f k a0).bind fun b => (if 0 ≤ b ∧ b ≤ (a0.size : Int) then (word_All.l0 k a0 ([] : List (S32)) b) else (none)))
theorem word_All.cut_mono (k : Nat) (t : ByteArray) : LeO (word_All.cut k t) (word_All.cut (k + 1) t) := by
  unfold word_All.cut
  repeat' first
  | (with_reducible exact word_name.mono _ _)
  | (with_reducible exact word_rule.mono _ _)
  | (with_reducible exact LeO.refl _)
  | (with_reducible refine LeO.ite ?_ ?_)
  | (with_reducible refine LeO.bind ?_ (fun _ => ?_))
theorem word_All.mono_l : ∀ k, (∀ y0 y1 y2, LeO (word_All.l0 k y0 y1 y2) (word_All.l0 (k + 1) y0 y1 y2))
  | 0 => fun _ _ _ r h => by simp [word_All.l0] at h
  | k + 1 => by
    have ih0 := word_All.mono_l k
    intro y0 y1 y2
    unfold word_All.l0
    repeat' first
    | (with_reducible exact ih0 _ _ _)
    | (with_reducible exact word_All.cut_mono _ _)
    | (with_reducible exact word_blank.mono _ _)
    | (with_reducible exact LeO.refl _)
    | (with_reducible exact LeO.none _)
    | (with_reducible refine LeO.ite ?_ ?_)
    | (with_reducible refine LeO.bind ?_ (fun _ => ?_))
theorem word_All.mono : ∀ a0 k, LeO (word_All.f k a0) (word_All.f (k + 1) a0) := by
  intro a0 k
  have ih0 := word_All.mono_l k
  unfold word_All.f
  repeat' first
  | (with_reducible exact ih0 _ _ _)
  | (with_reducible exact word_blank.mono _ _)
  | (with_reducible exact LeO.refl _)
  | (with_reducible exact LeO.none _)
  | (with_reducible refine LeO.ite ?_ ?_)
  | (with_reducible refine LeO.bind ?_ (fun _ => ?_))
theorem word_All.info32 : (Try.prog.info? 32).map (fun i => (i.zero, i.size, i.bytes)) = some (some (.agg #[(.int .i64 0), (.int .i64 0), (.string ⟨#[]⟩)]), 3, 32) := by kernel_rfl
set_option maxHeartbeats 8000000 in
set_option maxRecDepth 100000 in
theorem word_All.calls (k : Nat) (a0 : ByteArray) (r1 : List (S32)) (r2 : Int) (r3 : Int) (w : World) (h : word_All.f k a0 = some (r1, r2, r3)) :
    Calls Try.prog 10 #[.string a0] w fun e w' => ∃ v0_ : Value, e = .returned (.tuple #[v0_, .int .i64 r2, .int .i64 r3]) ∧ Kd.R k32 32 w' w.heap.size (fun _ => True) v0_ r1 ∧ Below w.heap.size w w' := by
  have HB := Aside0.mk (Below.refl w.heap.size w)
  unfold word_All.f at h
  by_cases c0 : (a0.size : Int) > 4000
  · rw [if_pos c0] at h
    have c1 : decide (4000 < (a0.size : Int)) = true := decide_eq_true c0
    have c2 : decide (4000 < a0.size) = true := decide_eq_true (by omega)
    clear c0
    simp only [Option.some.injEq, Prod.mk.injEq] at h
    obtain ⟨rfl, rfl, rfl⟩ := h
    go_enter Try.func10, Try.ntmps10
    go_wp2
    go_ret3
    exact ⟨_, rfl, Kd.R_nil _ _ _ _ _, (by repeat (first | (with_reducible first | exact HB.out | apply below_alloc | apply pw_below_drewN | apply below_drew1) | exact HB.out))⟩
  · rw [if_neg c0] at h
    have c1 : decide (4000 < (a0.size : Int)) = false := decide_eq_false c0
    have c2 : decide (4000 < a0.size) = false := decide_eq_false (by omega)
    obtain ⟨b0, hb0, h⟩ := Option.bind_eq_some_iff.mp h
    have hsz : (a0.size : Int) ≤ 4000 := by omega
    by_cases cb : 0 ≤ b0 ∧ b0 ≤ (a0.size : Int)
    · rw [if_pos cb] at h
      have HB0 := Aside0.mk hb0
      have H0 := Aside0.mk h
      have CB := Aside0.mk cb
      have HSZ := Aside0.mk hsz
      have i0 : ∀ w, (Instr.index 37 (.agg #[.func (.func 18) #[] #[], .func (.func 19) #[] #[], .func (.func 20) #[] #[]]) (.int .i64 0)).run Try.prog w = .ok (.func (.func 18) #[] #[]) w := fun _ => by kernel_rfl
      have i1 : ∀ w, (Instr.index 37 (.agg #[.func (.func 18) #[] #[], .func (.func 19) #[] #[], .func (.func 20) #[] #[]]) (.int .i64 1)).run Try.prog w = .ok (.func (.func 19) #[] #[]) w := fun _ => by kernel_rfl
      have i2 : ∀ w, (Instr.index 37 (.agg #[.func (.func 18) #[] #[], .func (.func 19) #[] #[], .func (.func 20) #[] #[]]) (.int .i64 2)).run Try.prog w = .ok (.func (.func 20) #[] #[]) w := fun _ => by kernel_rfl
      clear hb0 h cb hsz c0
      go_enter Try.func10, Try.ntmps10
      go_wp2_with ((with_reducible refine gate_callee (f := 17) rfl ?_); (try (refine gate_guard (by rfl) ?_; dsimp only)); refine goesL_ (some 16) rfl rfl Try.func17 (by kernel_rfl) rfl #[.string a0] rfl (by (try simp only [List.map_toArray, List.map_cons, List.map_nil]); first | done | rfl) ?_; (with_reducible refine (word_blank.calls k a0 b0 _ HB0.out).mono ?_); rintro e w' ⟨rfl, ⟨nd, rfl⟩⟩; refine ⟨_, rfl, ?_⟩)
      go_loopg [5, 6] k (fun kq v5 v6 w' => ∃ (u5 : Value) (out : List S32) (at_ : Int), v5 = u5 ∧ v6 = .int .i64 at_ ∧ Aside0 (0 ≤ at_ ∧ at_ ≤ (a0.size : Int)) ∧ Aside0 (word_All.l0 kq a0 out at_ = some (r1, r2, r3)) ∧ Aside0 (kq ≤ k) ∧ Aside0 (Kd.R k32 32 w' w.heap.size (fun _ => True) u5 out) ∧ Aside0 (Below w.heap.size w w'))
      case atStart => exact ⟨_, _, _, rfl, rfl, CB, H0, ⟨Nat.le_refl _⟩, ⟨Kd.R_nil _ _ _ _ _⟩, ⟨(by repeat (first | (with_reducible first | exact HB.out | apply below_alloc | apply pw_below_drewN | apply below_drew1) | exact HB.out))⟩⟩
      case round =>
        obtain ⟨u5, out, at_, rfl, rfl, HAT, HA, HK, HR, HB⟩ := hrel
        cases gk with
        | zero => exact absurd HA.out (by simp [word_All.l0])
        | succ k1 =>
          have h := HA.out
          clear HA
          simp only [word_All.l0] at h
          obtain ⟨ha0, ha1⟩ := HAT.out
          have hsz := HSZ.out
          by_cases d0 : at_ < (a0.size : Int)
          · rw [if_pos d0, if_pos ha0] at h
            obtain ⟨⟨c, n⟩, hc, h⟩ := Option.bind_eq_some_iff.mp h
            have d1 : decide (at_ < (a0.size : Int)) = true := decide_eq_true d0
            have e0 := eq_true ha0
            have e1 := eq_true ha1
            have hts : (a0.extract at_.toNat a0.size).size = a0.size - at_.toNat := by rw [ByteArray.size_extract]; omega
            have HH := Aside0.mk h
            clear h
            unfold word_All.cut at hc
            obtain ⟨n1, hn1, hc⟩ := Option.bind_eq_some_iff.mp hc
            have N1 := Aside0.mk hn1
            clear hn1
            by_cases z1 : n1 = 0
            · rw [if_pos z1] at hc
              obtain ⟨n2, hn2, hc⟩ := Option.bind_eq_some_iff.mp hc
              have N2 := Aside0.mk hn2
              subst z1
              clear hn2
              by_cases z2 : n2 = 0
              · rw [if_pos z2] at hc
                obtain ⟨n3, hn3, hc⟩ := Option.bind_eq_some_iff.mp hc
                have N3 := Aside0.mk hn3
                subst z2
                clear hn3
                by_cases z3 : n3 = 0
                · rw [if_pos z3] at hc
                  subst z3
                  simp only [Option.some.injEq, Prod.mk.injEq] at hc
                  obtain ⟨rfl, rfl⟩ := hc
                  have h := HH.out
                  rw [if_pos rfl] at h
                  simp only [Option.some.injEq, Prod.mk.injEq] at h
                  obtain ⟨rfl, rfl, rfl⟩ := h
                  clear HH
                  go_wp2_with fail
                  refine wp_loop_rounds 4 ?_
                  rw [rounds_succ]
                  go_wp2_with ((with_reducible refine (word_name.calls k1 (a0.extract at_.toNat a0.size) 0 _ N1.out).mono ?_); rintro e w' ⟨rfl, ⟨nd, rfl⟩⟩)
                  rw [rounds_succ]
                  go_wp2_with ((with_reducible refine (word_rule.calls k1 (a0.extract at_.toNat a0.size) 0 _ N2.out).mono ?_); rintro e w' ⟨rfl, ⟨nd, rfl⟩⟩)
                  rw [rounds_succ]
                  go_wp2_with ((with_reducible refine (word_sign.calls (a0.extract at_.toNat a0.size) 0 _ N3.out).mono ?_); rintro e w' ⟨rfl, ⟨nd, rfl⟩⟩)
                  rw [rounds_succ]
                  go_wp2
                  go_ret3
                  exact ⟨_, rfl, Kd.R_nil _ _ _ _ _, (by repeat (first | (with_reducible first | exact HB.out | apply below_alloc | apply pw_below_drewN | apply below_drew1) | exact HB.out))⟩
                · rw [if_neg z3] at hc
                  simp only [Option.some.injEq, Prod.mk.injEq] at hc
                  obtain ⟨rfl, rfl⟩ := hc
                  have h := HH.out
                  clear HH
                  rw [if_neg (show ¬ ((3 : Int) = 0) by decide)] at h
                  by_cases g : (3 : Int) ≤ n3 ∧ at_ + n3 ≤ (a0.size : Int) ∧ out.length < 5000 ∧ (3 : Int) ≠ 3 ∨ (3 : Int) = 3 ∧ n3 = 1 ∧ out.length < 5000
                  · rw [if_pos g] at h
                    obtain ⟨b, hbl, h⟩ := Option.bind_eq_some_iff.mp h
                    have HBL := Aside0.mk hbl
                    clear hbl
                    by_cases gb : 0 ≤ b ∧ at_ + n3 + b ≤ (a0.size : Int)
                    · rw [if_pos gb] at h
                      have h2 : word_All.l0 k1 a0 (out ++ [(⟨3, at_, (a0.extract at_.toNat (at_ + n3).toNat)⟩ : S32)]) (at_ + n3 + b) = some (r1, r2, r3) := h
                      have HN := Aside0.mk h2
                      clear h h2
                      have HLEN : Aside0 (out.length < 5000) := ⟨by omega⟩
                      have z : (n3 == 0) = false := beq_eq_false_iff_ne.mpr (by omega)
                      have k0 : 0 < n3 := by omega
                      have k1' : at_ + n3 ≤ (a0.size : Int) := by omega
                      have k2 : 0 ≤ at_ + n3 := by omega
                      have k3 : at_ ≤ at_ + n3 := by omega
                      have f2 := eq_true k1'
                      have f3 := eq_true k2
                      have f4 := eq_true k3
                      have w1 : IntKind.i64.wrap (at_ + n3) = at_ + n3 := IntWalk.i64_in _ (by omega)
                      have w2 : IntKind.i64.wrap (at_ + n3 + b) = at_ + n3 + b := IntWalk.i64_in _ (by omega)
                      skip
                      have HG := Aside0.mk (And.intro gb.1 gb.2)
                      clear g gb
                      go_wp2_with fail
                      refine wp_loop_rounds 3 ?_
                      rw [rounds_succ]
                      go_wp2_with ((with_reducible refine (word_name.calls k1 (a0.extract at_.toNat a0.size) 0 _ N1.out).mono ?_); rintro e w' ⟨rfl, ⟨nd, rfl⟩⟩)
                      rw [rounds_succ]
                      go_wp2_with ((with_reducible refine (word_rule.calls k1 (a0.extract at_.toNat a0.size) 0 _ N2.out).mono ?_); rintro e w' ⟨rfl, ⟨nd, rfl⟩⟩)
                      rw [rounds_succ]
                      go_wp2_with (first
                        | ((with_reducible refine gate_builtin (b := .append) (xs := #[.tmp 52, .tmp 58]) rfl ?_); at_builtin; refine Kd.R_append k32 (w0 := w) w.heap.size rfl (.tmp 52) (.tmp 58) 24 32 (.agg #[(.int .i64 0), (.int .i64 0), (.string ⟨#[]⟩)]) 32 rfl Try.underlying24 word_All.info32 rfl (by decide) (by omega) u5 out (⟨3, at_, (a0.extract at_.toNat (at_ + n3).toNat)⟩ : S32) [.int .i64 3, .int .i64 at_, .string ((a0.extract at_.toNat (at_ + n3).toNat))] (fun _ => True) (fun _ => False) rfl (by first | (go_simp; done) | (go_simp; rfl)) ?aP (fun _ hk => hk.elim) ?aF ?aO ?aB ?aS ?aL ?_; (case aP => exact k32_mkM _ _ _ (⟨3, at_, (a0.extract at_.toNat (at_ + n3).toNat)⟩ : S32)); (case aF => exact (fun _ _ => trivial)); (case aO => exact (by (with_reducible repeat (first | apply Kd.R_alloc | apply Kd.R_drewN | apply Kd.R_drew)); exact HR.out)); (case aB => exact (by repeat (first | (with_reducible first | exact HB.out | apply below_alloc | apply pw_below_drewN | apply below_drew1) | exact HB.out))); (case aS => exact (below_size (by repeat (first | (with_reducible first | exact HB.out | apply below_alloc | apply pw_below_drewN | apply below_drew1) | exact HB.out)))); (case aL => have := HLEN.out; omega); intro v1 w1 ho hb hg hat; have n0_ := Aside0.mk ho; have n1_ := Aside0.mk hb; clear HR HB ho hb hg hat; have HR := n0_; have HB := n1_; clear n0_ n1_)
                        | ((with_reducible refine gate_callee (f := 17) rfl ?_); (try (refine gate_guard (by rfl) ?_; dsimp only)); refine goesL_ (some 25) rfl rfl Try.func17 (by kernel_rfl) rfl #[.string (a0.extract (at_ + n3).toNat a0.size)] rfl (by (try simp only [List.map_toArray, List.map_cons, List.map_nil]); first | done | rfl) ?_; (with_reducible refine (word_blank.calls k1 (a0.extract (at_ + n3).toNat a0.size) b _ HBL.out).mono ?_); rintro e w' ⟨rfl, ⟨nd, rfl⟩⟩; refine ⟨_, rfl, ?_⟩)
                        | ((with_reducible refine (word_sign.calls (a0.extract at_.toNat a0.size) n3 _ N3.out).mono ?_); rintro e w' ⟨rfl, ⟨nd, rfl⟩⟩))
                      go_roundg k1
                      case measure => omega
                      case rel => exact ⟨_, _, _, rfl, rfl, ⟨by have := HG.out; omega⟩, HN, ⟨by have := HK.out; omega⟩, ⟨(by (with_reducible repeat (first | apply Kd.R_alloc | apply Kd.R_drewN | apply Kd.R_drew)); exact HR.out)⟩, ⟨(by repeat (first | (with_reducible first | exact HB.out | apply below_alloc | apply pw_below_drewN | apply below_drew1) | exact HB.out))⟩⟩
                    · rw [if_neg gb] at h; cases h
                  · rw [if_neg g] at h; cases h
              · rw [if_neg z2] at hc
                simp only [Option.some.injEq, Prod.mk.injEq] at hc
                obtain ⟨rfl, rfl⟩ := hc
                have h := HH.out
                clear HH
                rw [if_neg (show ¬ ((2 : Int) = 0) by decide)] at h
                by_cases g : (2 : Int) ≤ n2 ∧ at_ + n2 ≤ (a0.size : Int) ∧ out.length < 5000 ∧ (2 : Int) ≠ 3 ∨ (2 : Int) = 3 ∧ n2 = 1 ∧ out.length < 5000
                · rw [if_pos g] at h
                  obtain ⟨b, hbl, h⟩ := Option.bind_eq_some_iff.mp h
                  have HBL := Aside0.mk hbl
                  clear hbl
                  by_cases gb : 0 ≤ b ∧ at_ + n2 + b ≤ (a0.size : Int)
                  · rw [if_pos gb] at h
                    have h2 : word_All.l0 k1 a0 (out ++ [(⟨2, at_, ((a0.extract at_.toNat (at_ + n2).toNat).extract 1 (n2.toNat - 1))⟩ : S32)]) (at_ + n2 + b) = some (r1, r2, r3) := by rw [show n2.toNat - 1 = (n2 - 1).toNat from by omega]; exact h
                    have HN := Aside0.mk h2
                    clear h h2
                    have HLEN : Aside0 (out.length < 5000) := ⟨by omega⟩
                    have z : (n2 == 0) = false := beq_eq_false_iff_ne.mpr (by omega)
                    have k0 : 0 < n2 := by omega
                    have k1' : at_ + n2 ≤ (a0.size : Int) := by omega
                    have k2 : 0 ≤ at_ + n2 := by omega
                    have k3 : at_ ≤ at_ + n2 := by omega
                    have f2 := eq_true k1'
                    have f3 := eq_true k2
                    have f4 := eq_true k3
                    have w1 : IntKind.i64.wrap (at_ + n2) = at_ + n2 := IntWalk.i64_in _ (by omega)
                    have w2 : IntKind.i64.wrap (at_ + n2 + b) = at_ + n2 + b := IntWalk.i64_in _ (by omega)
                    have hts2 : (a0.extract at_.toNat (at_ + n2).toNat).size = n2.toNat := by rw [ByteArray.size_extract]; omega
                    have w3 : IntKind.i64.wrap (n2 - 1) = n2 - 1 := IntWalk.i64_in _ (by omega)
                    have k5 : 1 ≤ n2 - 1 := by omega
                    have k6 : n2 - 1 ≤ ((a0.extract at_.toNat (at_ + n2).toNat).size : Int) := by omega
                    have k7 : 2 ≤ n2 := by omega
                    have f5 := eq_true k5
                    have f6 := eq_true k6
                    have HG := Aside0.mk (And.intro gb.1 gb.2)
                    clear g gb
                    go_wp2_with fail
                    refine wp_loop_rounds 2 ?_
                    rw [rounds_succ]
                    go_wp2_with ((with_reducible refine (word_name.calls k1 (a0.extract at_.toNat a0.size) 0 _ N1.out).mono ?_); rintro e w' ⟨rfl, ⟨nd, rfl⟩⟩)
                    rw [rounds_succ]
                    go_wp2_with (first
                      | ((with_reducible refine gate_builtin (b := .append) (xs := #[.tmp 52, .tmp 58]) rfl ?_); at_builtin; refine Kd.R_append k32 (w0 := w) w.heap.size rfl (.tmp 52) (.tmp 58) 24 32 (.agg #[(.int .i64 0), (.int .i64 0), (.string ⟨#[]⟩)]) 32 rfl Try.underlying24 word_All.info32 rfl (by decide) (by omega) u5 out (⟨2, at_, ((a0.extract at_.toNat (at_ + n2).toNat).extract 1 (n2.toNat - 1))⟩ : S32) [.int .i64 2, .int .i64 at_, .string (((a0.extract at_.toNat (at_ + n2).toNat).extract 1 (n2.toNat - 1)))] (fun _ => True) (fun _ => False) rfl (by first | (go_simp; done) | (go_simp; rfl)) ?aP (fun _ hk => hk.elim) ?aF ?aO ?aB ?aS ?aL ?_; (case aP => exact k32_mkM _ _ _ (⟨2, at_, ((a0.extract at_.toNat (at_ + n2).toNat).extract 1 (n2.toNat - 1))⟩ : S32)); (case aF => exact (fun _ _ => trivial)); (case aO => exact (by (with_reducible repeat (first | apply Kd.R_alloc | apply Kd.R_drewN | apply Kd.R_drew)); exact HR.out)); (case aB => exact (by repeat (first | (with_reducible first | exact HB.out | apply below_alloc | apply pw_below_drewN | apply below_drew1) | exact HB.out))); (case aS => exact (below_size (by repeat (first | (with_reducible first | exact HB.out | apply below_alloc | apply pw_below_drewN | apply below_drew1) | exact HB.out)))); (case aL => have := HLEN.out; omega); intro v1 w1 ho hb hg hat; have n0_ := Aside0.mk ho; have n1_ := Aside0.mk hb; clear HR HB ho hb hg hat; have HR := n0_; have HB := n1_; clear n0_ n1_)
                      | ((with_reducible refine gate_callee (f := 17) rfl ?_); (try (refine gate_guard (by rfl) ?_; dsimp only)); refine goesL_ (some 25) rfl rfl Try.func17 (by kernel_rfl) rfl #[.string (a0.extract (at_ + n2).toNat a0.size)] rfl (by (try simp only [List.map_toArray, List.map_cons, List.map_nil]); first | done | rfl) ?_; (with_reducible refine (word_blank.calls k1 (a0.extract (at_ + n2).toNat a0.size) b _ HBL.out).mono ?_); rintro e w' ⟨rfl, ⟨nd, rfl⟩⟩; refine ⟨_, rfl, ?_⟩)
                      | ((with_reducible refine (word_rule.calls k1 (a0.extract at_.toNat a0.size) n2 _ N2.out).mono ?_); rintro e w' ⟨rfl, ⟨nd, rfl⟩⟩))
                    go_roundg k1
                    case measure => omega
                    case rel => exact ⟨_, _, _, rfl, rfl, ⟨by have := HG.out; omega⟩, HN, ⟨by have := HK.out; omega⟩, ⟨(by (with_reducible repeat (first | apply Kd.R_alloc | apply Kd.R_drewN | apply Kd.R_drew)); exact HR.out)⟩, ⟨(by repeat (first | (with_reducible first | exact HB.out | apply below_alloc | apply pw_below_drewN | apply below_drew1) | exact HB.out))⟩⟩
                  · rw [if_neg gb] at h; cases h
                · rw [if_neg g] at h; cases h
            · rw [if_neg z1] at hc
              simp only [Option.some.injEq, Prod.mk.injEq] at hc
              obtain ⟨rfl, rfl⟩ := hc
              have h := HH.out
              clear HH
              rw [if_neg (show ¬ ((1 : Int) = 0) by decide)] at h
              by_cases g : (1 : Int) ≤ n1 ∧ at_ + n1 ≤ (a0.size : Int) ∧ out.length < 5000 ∧ (1 : Int) ≠ 3 ∨ (1 : Int) = 3 ∧ n1 = 1 ∧ out.length < 5000
              · rw [if_pos g] at h
                obtain ⟨b, hbl, h⟩ := Option.bind_eq_some_iff.mp h
                have HBL := Aside0.mk hbl
                clear hbl
                by_cases gb : 0 ≤ b ∧ at_ + n1 + b ≤ (a0.size : Int)
                · rw [if_pos gb] at h
                  have h2 : word_All.l0 k1 a0 (out ++ [(⟨1, at_, (a0.extract at_.toNat (at_ + n1).toNat)⟩ : S32)]) (at_ + n1 + b) = some (r1, r2, r3) := h
                  have HN := Aside0.mk h2
                  clear h h2
                  have HLEN : Aside0 (out.length < 5000) := ⟨by omega⟩
                  have z : (n1 == 0) = false := beq_eq_false_iff_ne.mpr (by omega)
                  have k0 : 0 < n1 := by omega
                  have k1' : at_ + n1 ≤ (a0.size : Int) := by omega
                  have k2 : 0 ≤ at_ + n1 := by omega
                  have k3 : at_ ≤ at_ + n1 := by omega
                  have f2 := eq_true k1'
                  have f3 := eq_true k2
                  have f4 := eq_true k3
                  have w1 : IntKind.i64.wrap (at_ + n1) = at_ + n1 := IntWalk.i64_in _ (by omega)
                  have w2 : IntKind.i64.wrap (at_ + n1 + b) = at_ + n1 + b := IntWalk.i64_in _ (by omega)
                  skip
                  have HG := Aside0.mk (And.intro gb.1 gb.2)
                  clear g gb
                  go_wp2_with fail
                  refine wp_loop_rounds 1 ?_
                  rw [rounds_succ]
                  go_wp2_with (first
                    | ((with_reducible refine gate_builtin (b := .append) (xs := #[.tmp 52, .tmp 58]) rfl ?_); at_builtin; refine Kd.R_append k32 (w0 := w) w.heap.size rfl (.tmp 52) (.tmp 58) 24 32 (.agg #[(.int .i64 0), (.int .i64 0), (.string ⟨#[]⟩)]) 32 rfl Try.underlying24 word_All.info32 rfl (by decide) (by omega) u5 out (⟨1, at_, (a0.extract at_.toNat (at_ + n1).toNat)⟩ : S32) [.int .i64 1, .int .i64 at_, .string ((a0.extract at_.toNat (at_ + n1).toNat))] (fun _ => True) (fun _ => False) rfl (by first | (go_simp; done) | (go_simp; rfl)) ?aP (fun _ hk => hk.elim) ?aF ?aO ?aB ?aS ?aL ?_; (case aP => exact k32_mkM _ _ _ (⟨1, at_, (a0.extract at_.toNat (at_ + n1).toNat)⟩ : S32)); (case aF => exact (fun _ _ => trivial)); (case aO => exact (by (with_reducible repeat (first | apply Kd.R_alloc | apply Kd.R_drewN | apply Kd.R_drew)); exact HR.out)); (case aB => exact (by repeat (first | (with_reducible first | exact HB.out | apply below_alloc | apply pw_below_drewN | apply below_drew1) | exact HB.out))); (case aS => exact (below_size (by repeat (first | (with_reducible first | exact HB.out | apply below_alloc | apply pw_below_drewN | apply below_drew1) | exact HB.out)))); (case aL => have := HLEN.out; omega); intro v1 w1 ho hb hg hat; have n0_ := Aside0.mk ho; have n1_ := Aside0.mk hb; clear HR HB ho hb hg hat; have HR := n0_; have HB := n1_; clear n0_ n1_)
                    | ((with_reducible refine gate_callee (f := 17) rfl ?_); (try (refine gate_guard (by rfl) ?_; dsimp only)); refine goesL_ (some 25) rfl rfl Try.func17 (by kernel_rfl) rfl #[.string (a0.extract (at_ + n1).toNat a0.size)] rfl (by (try simp only [List.map_toArray, List.map_cons, List.map_nil]); first | done | rfl) ?_; (with_reducible refine (word_blank.calls k1 (a0.extract (at_ + n1).toNat a0.size) b _ HBL.out).mono ?_); rintro e w' ⟨rfl, ⟨nd, rfl⟩⟩; refine ⟨_, rfl, ?_⟩)
                    | ((with_reducible refine (word_name.calls k1 (a0.extract at_.toNat a0.size) n1 _ N1.out).mono ?_); rintro e w' ⟨rfl, ⟨nd, rfl⟩⟩))
                  go_roundg k1
                  case measure => omega
                  case rel => exact ⟨_, _, _, rfl, rfl, ⟨by have := HG.out; omega⟩, HN, ⟨by have := HK.out; omega⟩, ⟨(by (with_reducible repeat (first | apply Kd.R_alloc | apply Kd.R_drewN | apply Kd.R_drew)); exact HR.out)⟩, ⟨(by repeat (first | (with_reducible first | exact HB.out | apply below_alloc | apply pw_below_drewN | apply below_drew1) | exact HB.out))⟩⟩
                · rw [if_neg gb] at h; cases h
              · rw [if_neg g] at h; cases h
          · rw [if_neg d0] at h
            have d1 : decide (at_ < (a0.size : Int)) = false := decide_eq_false d0
            simp only [Option.some.injEq, Prod.mk.injEq] at h
            obtain ⟨rfl, rfl, rfl⟩ := h
            go_wp2
            go_ret3
            exact ⟨_, rfl, (by (with_reducible repeat (first | apply Kd.R_alloc | apply Kd.R_drewN | apply Kd.R_drew)); exact HR.out), (by repeat (first | (with_reducible first | exact HB.out | apply below_alloc | apply pw_below_drewN | apply below_drew1) | exact HB.out))⟩
    · rw [if_neg cb] at h
      cases h


end Go.Proofs.Ytjclnihkcghmaaa.PWordShows
