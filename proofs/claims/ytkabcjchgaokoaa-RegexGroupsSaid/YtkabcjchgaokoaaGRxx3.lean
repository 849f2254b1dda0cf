/- Proved here: what the functions below come to: walks printed by a program, over contracts of this claim. -/
import Derived.Test.YtkabcjchgaokoaaGRxx0
namespace Go.Proofs.Ytkabcjchgaokoaa.PRx
open Go.RowKit Go.Proofs.YtkabcjchgaokoaaW.PrintWords Go.Proofs.YtkabcjchgaokoaaW.PrintLast Go.Proofs.YtkabcjchgaokoaaW.PrintMore
attribute [local go_sem] max2_int min2_int max_two min_two max_three min_three max_four min_four   -- for this text's walks alone
set_option linter.unusedVariables false
set_option linter.unusedSimpArgs false

/-! ### regex_reader_next: function 19 -/
/-- A reader in memory: its text, its place, what was put. -/
def Rd (w0 w : World) (b : Nat) (s : ByteArray) (a : Int) (out : List S32) : Prop :=
  ∃ v, w.heap[b]? = some (.cells #[.string s, .int .i64 a, v] 38 (0, 0)) ∧ w0.heap.size ≤ b ∧ Kd.R k32 32 w w0.heap.size (fun k => k ≠ b) v out ∧ Below w0.heap.size w0 w
section
variable {w0 w w1 : World} {b : Nat} {s : ByteArray} {a : Int} {out : List S32}
theorem Rd.drewN (h : Rd w0 w b s a out) (n : Nat) : Rd w0 (w.drewN n) b s a out := by
  obtain ⟨v, h1, h2, h3, h4⟩ := h
  exact ⟨v, h1, h2, Kd.R_drewN h3 n, pw_below_drewN h4 n⟩
theorem Rd.drew (h : Rd w0 w b s a out) : Rd w0 w.drew b s a out := by
  obtain ⟨v, h1, h2, h3, h4⟩ := h
  exact ⟨v, h1, h2, Kd.R_drew h3, below_drew1 h4⟩
theorem Rd.alloc (h : Rd w0 w b s a out) (o : Obj) : Rd w0 (w.alloc o) b s a out := by
  obtain ⟨v, h1, h2, h3, h4⟩ := h
  exact ⟨v, blk_alloc h1 o, h2, Kd.R_alloc h3 o, below_alloc h4 o⟩
theorem Rd.below (h : Rd w0 w b s a out) (hb : Below w.heap.size w w1) : Rd w0 w1 b s a out := by
  obtain ⟨v, h1, h2, h3, h4⟩ := h
  exact ⟨v, blk_below h1 hb, h2, Kd.R_below h3 hb, below_step h4 hb⟩
theorem Rd.at_ (h : Rd w0 w b s a out) (n : Int) : Rd w0 (w.setCell ⟨b, 1, none⟩ (.int .i64 n)) b s n out := by
  obtain ⟨v, h1, h2, h3, h4⟩ := h
  exact ⟨v, blk_put h1 1 _ rfl, h2, Kd.R_far h3 (p := ⟨b, 1, none⟩) (fun _ hk => hk) _, below_set h4 h2⟩
theorem Rd.lt (h : Rd w0 w b s a out) : b < w.heap.size := by
  obtain ⟨v, h1, _⟩ := h
  exact blk_lt h1
theorem Rd.c0 (h : Rd w0 w b s a out) : w.cell? ⟨b, 0, none⟩ = some (.string s) := by
  obtain ⟨v, h1, _⟩ := h
  exact (blk_cell h1 0).trans rfl
theorem Rd.c1 (h : Rd w0 w b s a out) : w.cell? ⟨b, 1, none⟩ = some (.int .i64 a) := by
  obtain ⟨v, h1, _⟩ := h
  exact (blk_cell h1 1).trans rfl
theorem Rd.f1 (h : Rd w0 w b s a out) : w.frozen? ⟨b, 1, none⟩ = false := by
  obtain ⟨v, h1, _⟩ := h
  exact blk_frozen h1 1
theorem Rd.f2 (h : Rd w0 w b s a out) : w.frozen? ⟨b, 2, none⟩ = false := by
  obtain ⟨v, h1, _⟩ := h
  exact blk_frozen h1 2
end
/-- A fault at a place, as it is thrown. -/
def thrown (n : Int) : Ending := .panicked [{ v := .iface 39 (.int .i64 n), recovered := false }]
/-- What a call of a reader's comes to: it goes on at a place with what was put, or it throws. -/
def Told (w0 : World) (b : Nat) (s : ByteArray) (v : Value) : Except Int (Int × List S32) → Ending → World → Prop
  | .ok r, e, w' => e = .returned v ∧ Rd w0 w' b s r.1 r.2
  | .error n, e, w' => e = thrown n ∧ ∃ a out, Rd w0 w' b s a out
def regex_reader_next.f (s : ByteArray) (a : Int) : Option Int := if a = (s.size : Int) then some (-1) else if 0 ≤ a then (if a < (s.size : Int) then some (bt s a) else none) else none
set_option maxHeartbeats 2000000 in
set_option maxRecDepth 100000 in
theorem regex_reader_next.calls (w0 w : World) (b : Nat) (s : ByteArray) (a : Int) (out : List S32) (r : Int) (hI : Rd w0 w b s a out) (h : regex_reader_next.f s a = some r) :
    Calls Try.prog 19 #[.pointer (some ⟨b, 0, none⟩)] w fun e w' => e = .returned (.int .i64 r) ∧ Drawn0 w w' := by
  have c0 := hI.c0
  have c1 := hI.c1
  unfold regex_reader_next.f at h
  by_cases h1 : a = (s.size : Int)
  · rw [if_pos h1] at h
    obtain rfl := Option.some.inj h
    have d1 : (a == (s.size : Int)) = true := beq_iff_eq.mpr h1
    clear h1 hI
    go_enter Try.func19, Try.ntmps19
    go_wp2
    repeat (go_quiet (fail); try go_wp2)
    go_ret
    exact ⟨rfl, by repeat (first | exact Drawn0.refl _ | apply Drawn0.step)⟩
  · rw [if_neg h1] at h
    have d1 : (a == (s.size : Int)) = false := beq_eq_false_iff_ne.mpr h1
    clear h1 hI
    by_cases h2 : 0 ≤ a
    · rw [if_pos h2] at h
      by_cases h3 : a < (s.size : Int)
      · rw [if_pos h3] at h
        obtain rfl := Option.some.inj h
        have hx := bt_at s a
        have hr := bt_range s a
        have p := eq_true h2
        have q := eq_true h3
        have hlt : a.toNat < s.size := by omega
        have hw : wrap64 (bt s a) = bt s a := by unfold wrap64; omega
        go_enter Try.func19, Try.ntmps19
        go_wp2
        repeat (go_quiet (fail); try go_wp2)
        go_ret
        exact ⟨by first | rfl | (simp [*]; done), by repeat (first | exact Drawn0.refl _ | apply Drawn0.step)⟩
      · rw [if_neg h3] at h
        cases h
    · rw [if_neg h2] at h
      cases h

/-! ### regex_reader_put: function 20 -/
theorem drew_alloc_ (W : World) (o : Obj) : (W.alloc o).drew = W.drew.alloc o := rfl
theorem regex_reader_put.info32 : (Try.prog.info? 32).map (fun i => (i.zero, i.size, i.bytes)) = some (some (.agg #[(.int .i64 0), (.int .u64 0), (.int .u64 0), (.int .u64 0), (.int .u64 0)]), 5, 40) := by kernel_rfl
theorem Rd.put {w0 w w1 : World} {b : Nat} {s : ByteArray} {a : Int} {out1 : List S32} {v v1 : Value} (hv : w.heap[b]? = some (.cells #[.string s, .int .i64 a, v] 38 (0, 0))) (hge : w0.heap.size ≤ b) (ho : ∀ k, v.ownBlock = some k → k ≠ b) (hR : Kd.R k32 32 w1 w0.heap.size (fun k => k ≠ b) v1 out1) (hB : Below w0.heap.size w0 w1) (hg : w.grownBy w1 v.ownBlock) :
    Rd w0 (w1.setCell ⟨b, 2, none⟩ v1) b s a out1 := by
  have hb1 := blk_grown hv hg (fun h => ho b h.symm rfl)
  exact ⟨v1, blk_put hb1 2 _ rfl, hge, Kd.R_far hR (p := ⟨b, 2, none⟩) (fun _ hk => hk) _, below_set hB hge⟩
def regex_reader_put.f (out : List S32) (op : Int) (x0 x1 x2 x3 : Int) : Option (List S32) := if out.length < 1000000 then some (out ++ [(⟨op, ⟨x0, x1, x2, x3⟩⟩ : S32)]) else none
set_option maxHeartbeats 2000000 in
set_option maxRecDepth 100000 in
theorem regex_reader_put.calls (w0 w : World) (b : Nat) (s : ByteArray) (a : Int) (out r : List S32) (op x0 x1 x2 x3 : Int) (hI : Rd w0 w b s a out) (h : regex_reader_put.f out op x0 x1 x2 x3 = some r) :
    Calls Try.prog 20 #[.pointer (some ⟨b, 0, none⟩), .int .i64 op, .agg #[.int .u64 x0, .int .u64 x1, .int .u64 x2, .int .u64 x3]] w fun e w' => e = .returned (.tuple #[]) ∧ Rd w0 w' b s a r := by
  unfold regex_reader_put.f at h
  by_cases hl : out.length < 1000000
  · rw [if_pos hl] at h
    obtain rfl := Option.some.inj h
    have hlt := hI.lt
    have f2 := hI.f2
    obtain ⟨v, g1, g2, g3, g4⟩ := hI
    have c2 := (blk_cell g1 2).trans (show _ = some v from rfl)
    obtain ⟨A, c, rfl⟩ := Kd.R_slice g3
    have G1 := Aside0.mk g1
    have G2 := Aside0.mk g2
    have G3 := Aside0.mk g3
    have G4 := Aside0.mk g4
    clear g1 g2 g3 g4
    go_enter Try.func20, Try.ntmps20
    go_wp2_with fail
    go_region_law ((rw [drew_alloc_]; (refine Kd.R_append_step k32 (w0 := w0) w0.heap.size (by rfl) (.tmp 10) (.tmp 14) 23 32 (.agg #[(.int .i64 0), (.int .u64 0), (.int .u64 0), (.int .u64 0), (.int .u64 0)]) 40 (by rfl) Try.underlying23 regex_reader_put.info32 rfl (by decide) (by decide) (.slice A out.length c) out (⟨op, ⟨x0, x1, x2, x3⟩⟩ : S32) [.int .i64 op, .int .u64 x0, .int .u64 x1, .int .u64 x2, .int .u64 x3] (fun k => k ≠ b) (fun _ => False) (by first | rfl | (go_simp; done)) (by first | rfl | (go_simp; done)) ?aP (fun _ hk => hk.elim) ?aF ?aO ?aB ?aS ?aL ?_); (case aP => exact ⟨[_], [_, _, _, _], rfl, rfl, ⟨[_], [_, _, _], rfl, rfl, ⟨[_], [_, _], rfl, rfl, ⟨[_], [_], rfl, rfl, rfl⟩⟩⟩⟩); (case aF => intro k hk; have := hlt; simp at hk; omega); (case aO => exact (by (with_reducible repeat (first | apply Kd.R_alloc | apply Kd.R_drewN | apply Kd.R_drew)); exact G3.out)); (case aB => exact (by repeat (first | (with_reducible first | exact G4.out | apply below_alloc | apply pw_below_drewN | apply below_drew1) | exact G4.out))); (case aS => have h1 := G4.out.size; simp; omega); (case aL => omega); intro v1 w1 ho hb hg hat; obtain ⟨A1, cap1, rfl⟩ := Kd.R_slice ho; have bk := blk_grown (blk_drew (blk_alloc G1.out _)) hg (fun h => G3.out.1 b h.symm rfl); have cc := blk_cell bk 2; simp only [List.getElem?_toArray, List.getElem?_cons_zero, List.getElem?_cons_succ] at cc; have ff := blk_frozen bk 2; have n0_ := Aside0.mk ho; have n1_ := Aside0.mk hb; have n2_ := Aside0.mk hg; clear ho hb hg hat bk))
    all_goals
      go_wp2_with fail
      refine bodyPost_end (v := .tuple #[]) (by simp [results, Try.results20, go_sem]) rfl ⟨rfl, ?_⟩
      have hl2 : (out ++ [(⟨op, ⟨x0, x1, x2, x3⟩⟩ : S32)]).length = out.length + 1 := by simp
      have n3_ := n0_.out
      rw [hl2] at n3_
      exact Rd.put (blk_drew (blk_alloc G1.out _)) G2.out G3.out.1 n3_ n1_.out n2_.out
  · rw [if_neg hl] at h
    cases h

/-! ### regex_reader_must: function 25 -/
def regex_reader_must.f (s : ByteArray) (a c : Int) : Option (Except Int Int) := if 0 ≤ c ∧ c < 256 ∧ a < 1000000 then ((regex_reader_next.f s a).bind fun r => if r = c then some (.ok (a + 1)) else some (.error a)) else none
set_option maxHeartbeats 2000000 in
set_option maxRecDepth 100000 in
theorem regex_reader_must.calls (w0 w : World) (b : Nat) (s : ByteArray) (a c : Int) (out : List S32) (R : Except Int Int) (hI : Rd w0 w b s a out) (h : regex_reader_must.f s a c = some R) :
    Calls Try.prog 25 #[.pointer (some ⟨b, 0, none⟩), .int .u8 c] w (Told w0 b s (.tuple #[]) (R.map fun n => (n, out))) := by
  unfold regex_reader_must.f at h
  by_cases hc : 0 ≤ c ∧ c < 256 ∧ a < 1000000
  · rw [if_pos hc] at h
    obtain ⟨g0, g1, g2⟩ := hc
    obtain ⟨r, hn, h⟩ := Option.bind_eq_some_iff.mp h
    have ha : -1 ≤ a := by
      unfold regex_reader_next.f at hn
      by_cases h1 : a = (s.size : Int)
      · omega
      · rw [if_neg h1] at hn
        by_cases h2 : 0 ≤ a
        · omega
        · rw [if_neg h2] at hn; cases hn
    have HN := Aside0.mk hn
    have HI := Aside0.mk hI
    have c0 := hI.c0
    have c1 := hI.c1
    have f1 := hI.f1
    clear hn hI
    by_cases hr : r = c
    · rw [if_pos hr] at h
      obtain rfl := Option.some.inj h
      have d1 : (r == c) = true := beq_iff_eq.mpr hr
      have d2 : (r != c) = false := bne_eq_false_iff_eq.mpr hr
      clear hr
      go_enter Try.func25, Try.ntmps25
      go_wp2_with (first | (go_at_call 19; (with_reducible refine (regex_reader_next.calls w0 _ b s a out r ?side HN.out).mono ?_); (case side => repeat (first | (with_reducible exact HI.out) | (with_reducible apply Rd.drewN) | (with_reducible apply Rd.drew) | (with_reducible apply Rd.alloc))); rintro e w' ⟨rfl, ⟨nd, rfl⟩⟩))
      refine bodyPost_end (v := .tuple #[]) (by simp [results, Try.results25, go_sem]) rfl ⟨rfl, ?_⟩
      repeat (first | (with_reducible exact HI.out) | (with_reducible apply Rd.at_) | (with_reducible apply Rd.drewN) | (with_reducible apply Rd.drew) | (with_reducible apply Rd.alloc))
    · rw [if_neg hr] at h
      obtain rfl := Option.some.inj h
      have d1 : (r == c) = false := beq_eq_false_iff_ne.mpr hr
      have d2 : (r != c) = true := bne_iff_ne.mpr hr
      clear hr
      go_enter Try.func25, Try.ntmps25
      go_wp2_with (first | (go_at_call 19; (with_reducible refine (regex_reader_next.calls w0 _ b s a out r ?side HN.out).mono ?_); (case side => repeat (first | (with_reducible exact HI.out) | (with_reducible apply Rd.drewN) | (with_reducible apply Rd.drew) | (with_reducible apply Rd.alloc))); rintro e w' ⟨rfl, ⟨nd, rfl⟩⟩))
      refine ⟨rfl, rfl, a, out, ?_⟩
      repeat (first | (with_reducible exact HI.out) | (with_reducible apply Rd.at_) | (with_reducible apply Rd.drewN) | (with_reducible apply Rd.drew) | (with_reducible apply Rd.alloc))
  · rw [if_neg hc] at h
    cases h

/-! ### bytes_Not: function 26 -/
def bytes_Not.f (x0 x1 x2 x3 : Int) : Option (Int × Int × Int × Int) := some (bits .xor .u64 IntKind.u64.max x0, bits .xor .u64 IntKind.u64.max x1, bits .xor .u64 IntKind.u64.max x2, bits .xor .u64 IntKind.u64.max x3)
set_option maxHeartbeats 1000000 in
set_option maxRecDepth 100000 in
theorem bytes_Not.calls (x0 x1 x2 x3 : Int) (r1 r2 r3 r4 : Int) (w : World) (h : bytes_Not.f x0 x1 x2 x3 = some (r1, r2, r3, r4)) :
    Calls Try.prog 26 #[.agg #[.int .u64 x0, .int .u64 x1, .int .u64 x2, .int .u64 x3]] w fun e w' => e = .returned (.agg #[.int .u64 r1, .int .u64 r2, .int .u64 r3, .int .u64 r4]) ∧ Below w.heap.size w w' := by
  unfold bytes_Not.f at h
  simp only [Option.some.injEq, Prod.mk.injEq] at h
  obtain ⟨rfl, rfl, rfl, rfl⟩ := h
  go_enter Try.func26, Try.ntmps26
  go_wp2_with fail
  refine wp_loop_rounds 5 ?_
  iterate 5 (rw [rounds_succ]; go_wp2_with fail)
  refine bodyPost_ret (v := .agg #[.int .u64 (bits .xor .u64 IntKind.u64.max x0), .int .u64 (bits .xor .u64 IntKind.u64.max x1), .int .u64 (bits .xor .u64 IntKind.u64.max x2), .int .u64 (bits .xor .u64 IntKind.u64.max x3)]) (by simp [results, Try.results26, go_sem]) rfl ⟨rfl, ?_⟩
  repeat (first | exact Below.refl _ _ | (with_reducible apply below_alloc) | (with_reducible apply pw_below_drewN) | (with_reducible apply below_drew1) | (refine below_set ?_ (by simp; omega)))

end Go.Proofs.Ytkabcjchgaokoaa.PRx
