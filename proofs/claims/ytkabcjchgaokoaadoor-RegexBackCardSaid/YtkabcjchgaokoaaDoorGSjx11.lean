/- Proved here: what the functions below come to: walks printed by a program, over contracts of this claim. -/
import Derived.Test.YtkabcjchgaokoaaDoorGSjx0
namespace Go.Proofs.YtkabcjchgaokoaaDoor.PSj
open Go.RowKit Go.Proofs.YtkabcjchgaokoaaDoorW.PrintWords Go.Proofs.YtkabcjchgaokoaaDoorW.PrintLast Go.Proofs.YtkabcjchgaokoaaDoorW.PrintMore
attribute [local go_sem] max2_int min2_int max_two min_two max_three min_three max_four min_four   -- for this text's walks alone
set_option linter.unusedVariables false
set_option linter.unusedSimpArgs false

/-! ### topiarylaw06_copied: function 7 -/
def topiarylaw06_copied.f (l0 : List (S40)) : Option ((List (S40))) := (some (([] : List (S40)) : List (S40))).bind fun y122 => (if y122.length + l0.length < 3518437208883 then (some (y122 ++ l0)) else (none))
set_option maxHeartbeats 8000000 in
set_option maxRecDepth 100000 in
theorem topiarylaw06_copied.calls (A0 : Option Addr) (c0 : Nat) (l0 : List (S40)) (r : List (S40)) (w : World) (hr0 : Kd.C k40 w A0 l0.length l0) (hc0 : l0.length ≤ c0) (h : topiarylaw06_copied.f l0 = some r) :
    Calls Tryd.prog 7 #[.slice A0 l0.length c0] w fun e w' => ∃ v0_ : Value, e = .returned (v0_) ∧ Kd.R k40 40 w' w.heap.size (fun _ => True) v0_ r ∧ Below w.heap.size w w' := by
  have HR0 := Aside0.mk hr0
  have HC0 := Aside0.mk hc0
  clear hr0 hc0
  have HB := Aside0.mk (Below.refl w.heap.size w)
  have H : ((some (([] : List (S40)) : List (S40))).bind fun y122 => (if y122.length + l0.length < 3518437208883 then (some (y122 ++ l0)) else (none))) = some r := h
  clear h
  obtain ⟨y122, hy122⟩ : ∃ y_ : List (S40), y_ = (([] : List (S40))) := ⟨_, rfl⟩
  replace H : (if y122.length + l0.length < 3518437208883 then (some (y122 ++ l0)) else (none)) = some r := by first | (rw [hy122]; with_reducible exact H) | (have H2_ := (Option.bind_some _ _).symm.trans H; rw [hy122]; with_reducible exact H2_) | (have H2_ := (Option.bind_some _ _).symm.trans H; with_reducible exact H2_) | with_reducible exact H | (rw [hy122]; exact H) | exact H
  have Ny122 := Aside0.mk hy122
  clear hy122
  by_cases c2 : y122.length + l0.length < 3518437208883
  · rw [if_pos c2] at H
    have LMc2 := Aside0.mk c2
    clear c2
    obtain ⟨y125, hy125⟩ : ∃ y_ : List (S40), y_ = (y122 ++ l0) := ⟨_, rfl⟩
    replace H : (some y125) = some r := by first | (rw [hy125]; with_reducible exact H) | (have H2_ := (Option.bind_some _ _).symm.trans H; rw [hy125]; with_reducible exact H2_) | (have H2_ := (Option.bind_some _ _).symm.trans H; with_reducible exact H2_) | with_reducible exact H | (rw [hy125]; exact H) | exact H
    have Ny125 := Aside0.mk hy125
    clear hy125
    obtain rfl := Option.some.inj H
    go_enter Tryd.func7, Tryd.ntmps7
    go_wp2_with (first | ((with_reducible refine gate_dst (N := 3) rfl ?_); refine Kd.R_lit k40 _ 40 ?hg (N := 3) ?hd (xs := ([] : List (S40))) (inner := []) (ok := fun _ => True) (okp := fun _ => True) ?hr ?hp (fun _ hk => hk) trivial (Below.refl _ _) (Nat.le_refl _) (by simp) ?_; (case hd => rfl); (case hg => rfl); (case hr => first | (go_simp; done) | (go_simp; rfl)); (case hp => exact (Reps.none _ _)); intro v123 w3 ho4 hb hg_ hnew_; clear hg_ hnew_; (first | rw [← Ny122.out] at ho4 | (simp only [Int.reduceToNat] at ho4; rw [← Ny122.out] at ho4)); have n0_ := Aside0.mk (Kd.R_lower ho4 (below_size (by repeat (first | (with_reducible first | exact HB.out | apply below_alloc | apply pw_below_drewN | apply below_drew1) | exact HB.out)))); have n1_ := Aside0.mk (below_step (by repeat (first | (with_reducible first | exact HB.out | apply below_alloc | apply pw_below_drewN | apply below_drew1) | exact HB.out)) hb); clear HB; have HO124 := n0_; have HB := n1_; clear n0_ n1_; clear hb ho4) | ((with_reducible refine gate_builtin (b := .append) (xs := #[.tmp 3, .tmp 4]) rfl ?_); at_builtin; refine Kd.R_append_rows k40 (w0 := w) w.heap.size rfl (.tmp 3) (.tmp 4) 22 40 (.agg #[(.int .i64 0), (.int .u64 0), (.int .u64 0), (.int .u64 0), (.int .u64 0)]) 40 rfl Tryd.underlying22 info40 rfl (by decide) (by omega) v123 y122 l0 _ _ _ (fun _ => True) (fun _ => False) rfl rfl ?aO ?aR (fun _ _ h => h) (fun _ h => h.elim) ?aF ?aB ?aS ?aL ?_; (case aR => repeat (first | exact (Kd.C_below HR0.out HB.out) | (with_reducible refine Kd.C_alloc ?_ _) | (with_reducible refine Kd.C_drewN ?_ _) | (with_reducible refine Kd.C_drew ?_))); (case aB => exact (by repeat (first | (with_reducible first | exact HB.out | apply below_alloc | apply pw_below_drewN | apply below_drew1) | exact HB.out))); (case aF => exact (fun _ _ => trivial)); (case aO => exact (by (with_reducible repeat (first | apply Kd.R_alloc | apply Kd.R_drewN | apply Kd.R_drew)); exact HO124.out)); (case aS => exact (below_size (by repeat (first | (with_reducible first | exact HB.out | apply below_alloc | apply pw_below_drewN | apply below_drew1) | exact HB.out)))); (case aL => have := LMc2.out; omega); intro v126 w5 ho hb hg hat; rw [← Ny125.out] at ho; have n0_ := Aside0.mk (hb); have n1_ := Aside0.mk (ho); clear HB; clear HO124; have HB := n0_; have HO127 := n1_; clear n0_ n1_; clear ho hb hg hat))
    go_ret
    exact ⟨_, by first | rfl | (simp [errW_none, errW_some] <;> rfl) | (simp [*, errW_none, errW_some] <;> rfl), by (with_reducible repeat (first | apply Kd.R_alloc | apply Kd.R_drewN | apply Kd.R_drew)); exact HO127.out, by repeat (first | (with_reducible first | exact HB.out | apply below_alloc | apply pw_below_drewN | apply below_drew1) | exact HB.out)⟩
  · rw [if_neg c2] at H
    exact absurd H (by simp)

/-! ### regex_reader_next: function 31 -/
/-- A reader in memory: its text, its place, what was put. -/
def Rd (w0 w : World) (b : Nat) (s : ByteArray) (a : Int) (out : List S40) : Prop :=
  ∃ v, w.heap[b]? = some (.cells #[.string s, .int .i64 a, v] 50 (0, 0)) ∧ w0.heap.size ≤ b ∧ Kd.R k40 40 w w0.heap.size (fun k => k ≠ b) v out ∧ Below w0.heap.size w0 w
section
variable {w0 w w1 : World} {b : Nat} {s : ByteArray} {a : Int} {out : List S40}
theorem Rd.drewN (h : Rd w0 w b s a out) (n : Nat) : Rd w0 (w.drewN n) b s a out := by
  obtain ⟨v, h1, h2, h3, h4⟩ := h
  exact ⟨v, h1, h2, Kd.R_drewN h3 n, pw_below_drewN h4 n⟩
theorem Rd.drew (h : Rd w0 w b s a out) : Rd w0 w.drew b s a out := by
  obtain ⟨v, h1, h2, h3, h4⟩ := h
  exact ⟨v, h1, h2, Kd.R_drew h3, below_drew1 h4⟩
theorem Rd.alloc (h : Rd w0 w b s a out) (o : Obj) : Rd w0 (w.alloc o) b s a out := by
  obtain ⟨v, h1, h2, h3, h4⟩ := h
  exact ⟨v, blk_alloc h1 o, h2, Kd.R_alloc h3 o, below_alloc h4 o⟩
theorem Rd.below (h : Rd w0 w b s a out) (hb : Below w.heap.size w w1) : Rd w0 w1 b s a out := by
  obtain ⟨v, h1, h2, h3, h4⟩ := h
  exact ⟨v, blk_below h1 hb, h2, Kd.R_below h3 hb, below_step h4 hb⟩
theorem Rd.at_ (h : Rd w0 w b s a out) (n : Int) : Rd w0 (w.setCell ⟨b, 1, none⟩ (.int .i64 n)) b s n out := by
  obtain ⟨v, h1, h2, h3, h4⟩ := h
  exact ⟨v, blk_put h1 1 _ rfl, h2, Kd.R_far h3 (p := ⟨b, 1, none⟩) (fun _ hk => hk) _, below_set h4 h2⟩
theorem Rd.lt (h : Rd w0 w b s a out) : b < w.heap.size := by
  obtain ⟨v, h1, _⟩ := h
  exact blk_lt h1
theorem Rd.c0 (h : Rd w0 w b s a out) : w.cell? ⟨b, 0, none⟩ = some (.string s) := by
  obtain ⟨v, h1, _⟩ := h
  exact (blk_cell h1 0).trans rfl
theorem Rd.c1 (h : Rd w0 w b s a out) : w.cell? ⟨b, 1, none⟩ = some (.int .i64 a) := by
  obtain ⟨v, h1, _⟩ := h
  exact (blk_cell h1 1).trans rfl
theorem Rd.f1 (h : Rd w0 w b s a out) : w.frozen? ⟨b, 1, none⟩ = false := by
  obtain ⟨v, h1, _⟩ := h
  exact blk_frozen h1 1
theorem Rd.f2 (h : Rd w0 w b s a out) : w.frozen? ⟨b, 2, none⟩ = false := by
  obtain ⟨v, h1, _⟩ := h
  exact blk_frozen h1 2
end
/-- A fault at a place, as it is thrown. -/
def thrown (n : Int) : Ending := .panicked [{ v := .iface 51 (.int .i64 n), recovered := false }]
/-- What a call of a reader's comes to: it goes on at a place with what was put, or it throws. -/
def Told (w0 : World) (b : Nat) (s : ByteArray) (v : Value) : Except Int (Int × List S40) → Ending → World → Prop
  | .ok r, e, w' => e = .returned v ∧ Rd w0 w' b s r.1 r.2
  | .error n, e, w' => e = thrown n ∧ ∃ a out, Rd w0 w' b s a out
def regex_reader_next.f (s : ByteArray) (a : Int) : Option Int := if a = (s.size : Int) then some (-1) else if 0 ≤ a then (if a < (s.size : Int) then some (bt s a) else none) else none
set_option maxHeartbeats 2000000 in
set_option maxRecDepth 100000 in
theorem regex_reader_next.calls (w0 w : World) (b : Nat) (s : ByteArray) (a : Int) (out : List S40) (r : Int) (hI : Rd w0 w b s a out) (h : regex_reader_next.f s a = some r) :
    Calls Tryd.prog 31 #[.pointer (some ⟨b, 0, none⟩)] w fun e w' => e = .returned (.int .i64 r) ∧ Drawn0 w w' := by
  have c0 := hI.c0
  have c1 := hI.c1
  unfold regex_reader_next.f at h
  by_cases h1 : a = (s.size : Int)
  · rw [if_pos h1] at h
    obtain rfl := Option.some.inj h
    have d1 : (a == (s.size : Int)) = true := beq_iff_eq.mpr h1
    clear h1 hI
    go_enter Tryd.func31, Tryd.ntmps31
    go_wp2
    repeat (go_quiet (fail); try go_wp2)
    go_ret
    exact ⟨rfl, by repeat (first | exact Drawn0.refl _ | apply Drawn0.step)⟩
  · rw [if_neg h1] at h
    have d1 : (a == (s.size : Int)) = false := beq_eq_false_iff_ne.mpr h1
    clear h1 hI
    by_cases h2 : 0 ≤ a
    · rw [if_pos h2] at h
      by_cases h3 : a < (s.size : Int)
      · rw [if_pos h3] at h
        obtain rfl := Option.some.inj h
        have hx := bt_at s a
        have hr := bt_range s a
        have p := eq_true h2
        have q := eq_true h3
        have hlt : a.toNat < s.size := by omega
        have hw : wrap64 (bt s a) = bt s a := by unfold wrap64; omega
        go_enter Tryd.func31, Tryd.ntmps31
        go_wp2
        repeat (go_quiet (fail); try go_wp2)
        go_ret
        exact ⟨by first | rfl | (simp [*]; done), by repeat (first | exact Drawn0.refl _ | apply Drawn0.step)⟩
      · rw [if_neg h3] at h
        cases h
    · rw [if_neg h2] at h
      cases h

/-! ### regex_reader_put: function 32 -/
theorem drew_alloc_ (W : World) (o : Obj) : (W.alloc o).drew = W.drew.alloc o := rfl
theorem regex_reader_put.info40 : (Tryd.prog.info? 40).map (fun i => (i.zero, i.size, i.bytes)) = some (some (.agg #[(.int .i64 0), (.int .u64 0), (.int .u64 0), (.int .u64 0), (.int .u64 0)]), 5, 40) := by kernel_rfl
theorem Rd.put {w0 w w1 : World} {b : Nat} {s : ByteArray} {a : Int} {out1 : List S40} {v v1 : Value} (hv : w.heap[b]? = some (.cells #[.string s, .int .i64 a, v] 50 (0, 0))) (hge : w0.heap.size ≤ b) (ho : ∀ k, v.ownBlock = some k → k ≠ b) (hR : Kd.R k40 40 w1 w0.heap.size (fun k => k ≠ b) v1 out1) (hB : Below w0.heap.size w0 w1) (hg : w.grownBy w1 v.ownBlock) :
    Rd w0 (w1.setCell ⟨b, 2, none⟩ v1) b s a out1 := by
  have hb1 := blk_grown hv hg (fun h => ho b h.symm rfl)
  exact ⟨v1, blk_put hb1 2 _ rfl, hge, Kd.R_far hR (p := ⟨b, 2, none⟩) (fun _ hk => hk) _, below_set hB hge⟩
def regex_reader_put.f (out : List S40) (op : Int) (x0 x1 x2 x3 : Int) : Option (List S40) := if out.length < 1000000 then some (out ++ [(⟨op, ⟨x0, x1, x2, x3⟩⟩ : S40)]) else none
set_option maxHeartbeats 2000000 in
set_option maxRecDepth 100000 in
theorem regex_reader_put.calls (w0 w : World) (b : Nat) (s : ByteArray) (a : Int) (out r : List S40) (op x0 x1 x2 x3 : Int) (hI : Rd w0 w b s a out) (h : regex_reader_put.f out op x0 x1 x2 x3 = some r) :
    Calls Tryd.prog 32 #[.pointer (some ⟨b, 0, none⟩), .int .i64 op, .agg #[.int .u64 x0, .int .u64 x1, .int .u64 x2, .int .u64 x3]] w fun e w' => e = .returned (.tuple #[]) ∧ Rd w0 w' b s a r := by
  unfold regex_reader_put.f at h
  by_cases hl : out.length < 1000000
  · rw [if_pos hl] at h
    obtain rfl := Option.some.inj h
    have hlt := hI.lt
    have f2 := hI.f2
    obtain ⟨v, g1, g2, g3, g4⟩ := hI
    have c2 := (blk_cell g1 2).trans (show _ = some v from rfl)
    obtain ⟨A, c, rfl⟩ := Kd.R_slice g3
    have G1 := Aside0.mk g1
    have G2 := Aside0.mk g2
    have G3 := Aside0.mk g3
    have G4 := Aside0.mk g4
    clear g1 g2 g3 g4
    go_enter Tryd.func32, Tryd.ntmps32
    go_wp2_with fail
    go_region_law ((rw [drew_alloc_]; (refine Kd.R_append_step k40 (w0 := w0) w0.heap.size (by rfl) (.tmp 10) (.tmp 14) 22 40 (.agg #[(.int .i64 0), (.int .u64 0), (.int .u64 0), (.int .u64 0), (.int .u64 0)]) 40 (by rfl) Tryd.underlying22 regex_reader_put.info40 rfl (by decide) (by decide) (.slice A out.length c) out (⟨op, ⟨x0, x1, x2, x3⟩⟩ : S40) [.int .i64 op, .int .u64 x0, .int .u64 x1, .int .u64 x2, .int .u64 x3] (fun k => k ≠ b) (fun _ => False) (by first | rfl | (go_simp; done)) (by first | rfl | (go_simp; done)) ?aP (fun _ hk => hk.elim) ?aF ?aO ?aB ?aS ?aL ?_); (case aP => exact ⟨[_], [_, _, _, _], rfl, rfl, ⟨[_], [_, _, _], rfl, rfl, ⟨[_], [_, _], rfl, rfl, ⟨[_], [_], rfl, rfl, rfl⟩⟩⟩⟩); (case aF => intro k hk; have := hlt; simp at hk; omega); (case aO => exact (by (with_reducible repeat (first | apply Kd.R_alloc | apply Kd.R_drewN | apply Kd.R_drew)); exact G3.out)); (case aB => exact (by repeat (first | (with_reducible first | exact G4.out | apply below_alloc | apply pw_below_drewN | apply below_drew1) | exact G4.out))); (case aS => have h1 := G4.out.size; simp; omega); (case aL => omega); intro v1 w1 ho hb hg hat; obtain ⟨A1, cap1, rfl⟩ := Kd.R_slice ho; have bk := blk_grown (blk_drew (blk_alloc G1.out _)) hg (fun h => G3.out.1 b h.symm rfl); have cc := blk_cell bk 2; simp only [List.getElem?_toArray, List.getElem?_cons_zero, List.getElem?_cons_succ] at cc; have ff := blk_frozen bk 2; have n0_ := Aside0.mk ho; have n1_ := Aside0.mk hb; have n2_ := Aside0.mk hg; clear ho hb hg hat bk))
    all_goals
      go_wp2_with fail
      refine bodyPost_end (v := .tuple #[]) (by simp [results, Tryd.results32, go_sem]) rfl ⟨rfl, ?_⟩
      have hl2 : (out ++ [(⟨op, ⟨x0, x1, x2, x3⟩⟩ : S40)]).length = out.length + 1 := by simp
      have n3_ := n0_.out
      rw [hl2] at n3_
      exact Rd.put (blk_drew (blk_alloc G1.out _)) G2.out G3.out.1 n3_ n1_.out n2_.out
  · rw [if_neg hl] at h
    cases h

/-! ### regex_reader_must: function 46 -/
def regex_reader_must.f (s : ByteArray) (a c : Int) : Option (Except Int Int) := if 0 ≤ c ∧ c < 256 ∧ a < 1000000 then ((regex_reader_next.f s a).bind fun r => if r = c then some (.ok (a + 1)) else some (.error a)) else none
set_option maxHeartbeats 2000000 in
set_option maxRecDepth 100000 in
theorem regex_reader_must.calls (w0 w : World) (b : Nat) (s : ByteArray) (a c : Int) (out : List S40) (R : Except Int Int) (hI : Rd w0 w b s a out) (h : regex_reader_must.f s a c = some R) :
    Calls Tryd.prog 46 #[.pointer (some ⟨b, 0, none⟩), .int .u8 c] w (Told w0 b s (.tuple #[]) (R.map fun n => (n, out))) := by
  unfold regex_reader_must.f at h
  by_cases hc : 0 ≤ c ∧ c < 256 ∧ a < 1000000
  · rw [if_pos hc] at h
    obtain ⟨g0, g1, g2⟩ := hc
    obtain ⟨r, hn, h⟩ := Option.bind_eq_some_iff.mp h
    have ha : -1 ≤ a := by
      unfold regex_reader_next.f at hn
      by_cases h1 : a = (s.size : Int)
      · omega
      · rw [if_neg h1] at hn
        by_cases h2 : 0 ≤ a
        · omega
        · rw [if_neg h2] at hn; cases hn
    have HN := Aside0.mk hn
    have HI := Aside0.mk hI
    have c0 := hI.c0
    have c1 := hI.c1
    have f1 := hI.f1
    clear hn hI
    by_cases hr : r = c
    · rw [if_pos hr] at h
      obtain rfl := Option.some.inj h
      have d1 : (r == c) = true := beq_iff_eq.mpr hr
      have d2 : (r != c) = false := bne_eq_false_iff_eq.mpr hr
      clear hr
      go_enter Tryd.func46, Tryd.ntmps46
      go_wp2_with (first | (go_at_call 31; (with_reducible refine (regex_reader_next.calls w0 _ b s a out r ?side HN.out).mono ?_); (case side => repeat (first | (with_reducible exact HI.out) | (with_reducible apply Rd.drewN) | (with_reducible apply Rd.drew) | (with_reducible apply Rd.alloc))); rintro e w' ⟨rfl, ⟨nd, rfl⟩⟩))
      refine bodyPost_end (v := .tuple #[]) (by simp [results, Tryd.results46, go_sem]) rfl ⟨rfl, ?_⟩
      repeat (first | (with_reducible exact HI.out) | (with_reducible apply Rd.at_) | (with_reducible apply Rd.drewN) | (with_reducible apply Rd.drew) | (with_reducible apply Rd.alloc))
    · rw [if_neg hr] at h
      obtain rfl := Option.some.inj h
      have d1 : (r == c) = false := beq_eq_false_iff_ne.mpr hr
      have d2 : (r != c) = true := bne_iff_ne.mpr hr
      clear hr
      go_enter Tryd.func46, Tryd.ntmps46
      go_wp2_with (first | (go_at_call 31; (with_reducible refine (regex_reader_next.calls w0 _ b s a out r ?side HN.out).mono ?_); (case side => repeat (first | (with_reducible exact HI.out) | (with_reducible apply Rd.drewN) | (with_reducible apply Rd.drew) | (with_reducible apply Rd.alloc))); rintro e w' ⟨rfl, ⟨nd, rfl⟩⟩))
      refine ⟨rfl, rfl, a, out, ?_⟩
      repeat (first | (with_reducible exact HI.out) | (with_reducible apply Rd.at_) | (with_reducible apply Rd.drewN) | (with_reducible apply Rd.drew) | (with_reducible apply Rd.alloc))
  · rw [if_neg hc] at h
    cases h

end Go.Proofs.YtkabcjchgaokoaaDoor.PSj
