/- Proved here: what the functions below come to: walks printed by a program, over contracts of this claim. -/
import Derived.Test.YtkabcjchgaokoaaDoorGSjx0
import Derived.Test.YtkabcjchgaokoaaDoorGSjx6
import Derived.Test.YtkabcjchgaokoaaDoorGSjx11
import Derived.Test.YtkabcjchgaokoaaDoorGSjx13
import Derived.Test.YtkabcjchgaokoaaDoorGSjx14
namespace Go.Proofs.YtkabcjchgaokoaaDoor.PSj
open Go.RowKit Go.Proofs.YtkabcjchgaokoaaDoorW.PrintWords Go.Proofs.YtkabcjchgaokoaaDoorW.PrintLast Go.Proofs.YtkabcjchgaokoaaDoorW.PrintMore
attribute [local go_sem] max2_int min2_int max_two min_two max_three min_three max_four min_four   -- for this text's walks alone
set_option linter.unusedVariables false
set_option linter.unusedSimpArgs false

/-! ### regex_reader_class: function 47 -/
def regex_reader_class.l0 : Nat → ByteArray → Int → Int → Int → Int → Bool → Int → Option (Except Int ((Int × Int × Int × Int) × Int))
  | 0, _, _, _, _, _, _, _ => none
  | k + 1, s, x0, x1, x2, x3, first, a => (regex_reader_next.f s a).bind fun c => if first = false ∧ c = 93 then some (.ok ((x0, x1, x2, x3), a)) else if c < 0 then some (.error a) else
      Ex (regex_reader_sign.f s a ⟨#[91, 93, 94, 45, 47]⟩ ⟨#[46, 42, 43, 63, 40, 41, 91, 93, 124, 92, 47, 45, 94]⟩) fun q => (regex_reader_next.f s q.2).bind fun c2 =>
      Ex (if c2 = 45 then regex_reader_sign.f s (q.2 + 1) ⟨#[91, 93, 94, 45, 47]⟩ ⟨#[46, 42, 43, 63, 40, 41, 91, 93, 124, 92, 47, 45, 94]⟩ else some (.ok q)) fun q2 =>
      if q.1 > q2.1 then some (.error a) else ((bytes_Span.f k q.1 q2.1).bind fun o => (bytes_Or.f x0 x1 x2 x3 o.1 o.2.1 o.2.2.1 o.2.2.2).bind fun r => regex_reader_class.l0 k s r.1 r.2.1 r.2.2.1 r.2.2.2 false q2.2)
def regex_reader_class.fin (a0 : Int) (nt : Bool) (x : (Int × Int × Int × Int) × Int) : Option (Except Int ((Int × Int × Int × Int) × Int)) :=
  (if nt = true then bytes_Not.f x.1.1 x.1.2.1 x.1.2.2.1 x.1.2.2.2 else some x.1).bind fun y => if y.1 = 0 ∧ y.2.1 = 0 ∧ y.2.2.1 = 0 ∧ y.2.2.2 = 0 then some (.error a0) else some (.ok (y, x.2 + 1))
def regex_reader_class.f (k : Nat) (s : ByteArray) (a : Int) : Option (Except Int ((Int × Int × Int × Int) × Int)) :=
  if (s.size : Int) < 100000 then (regex_reader_next.f s (a + 1)).bind fun c => Ex (regex_reader_class.l0 k s 0 0 0 0 true (if c = 94 then a + 2 else a + 1)) fun x => regex_reader_class.fin a (decide (c = 94)) x else none
theorem regex_reader_class.mono_l : ∀ k, (∀ y0 y1 y2 y3 y4 y5 y6, LeO (regex_reader_class.l0 k y0 y1 y2 y3 y4 y5 y6) (regex_reader_class.l0 (k + 1) y0 y1 y2 y3 y4 y5 y6))
  | 0 => fun _ _ _ _ _ _ _ r h => by simp [regex_reader_class.l0] at h
  | k + 1 => by
    have ih0 := regex_reader_class.mono_l k
    intro y0 y1 y2 y3 y4 y5 y6
    unfold regex_reader_class.l0
    repeat' first
    | (with_reducible exact ih0 _ _ _ _ _ _ _)
    | (with_reducible exact bytes_Span.mono _ _ _)
    | (with_reducible exact LeO.refl _)
    | (with_reducible exact LeO.none _)
    | (with_reducible refine LeO.ite ?_ ?_)
    | (with_reducible refine LeO.bind ?_ (fun _ => ?_))
    | (with_reducible refine Ex_mono ?_ (fun _ => ?_))
theorem regex_reader_class.mono : ∀ s a k, LeO (regex_reader_class.f k s a) (regex_reader_class.f (k + 1) s a) := by
  intro s a k
  have ih0 := regex_reader_class.mono_l k
  unfold regex_reader_class.f
  repeat' first
  | (with_reducible exact ih0 _ _ _ _ _ _ _)
  | (with_reducible exact LeO.refl _)
  | (with_reducible exact LeO.none _)
  | (with_reducible refine LeO.ite ?_ ?_)
  | (with_reducible refine LeO.bind ?_ (fun _ => ?_))
  | (with_reducible refine Ex_mono ?_ (fun _ => ?_))
/-- What reading a class comes to. -/
def ToldClass (w0 : World) (b : Nat) (s : ByteArray) (out : List S40) : Except Int ((Int × Int × Int × Int) × Int) → Ending → World → Prop
  | .ok q, e, w' => e = .returned (.agg #[.int .u64 q.1.1, .int .u64 q.1.2.1, .int .u64 q.1.2.2.1, .int .u64 q.1.2.2.2]) ∧ Rd w0 w' b s q.2 out
  | .error n, e, w' => e = thrown n ∧ ∃ a out, Rd w0 w' b s a out
theorem Rd.cast {w0 w : World} {b : Nat} {s : ByteArray} {a a' : Int} {out : List S40} (h : Rd w0 w b s a out) (e : a = a') : Rd w0 w b s a' out := e ▸ h
theorem Rd.setp4 {w0 w : World} {b p : Nat} {s : ByteArray} {a : Int} {out : List S40} {c0 c1 c2 c3 : Value} (h : Rd w0 w b s a out) (hbk : w.heap[p]? = some (.cells #[c0, c1, c2, c3] 38 (0, 0))) (hp : b ≠ p) (hge : w0.heap.size ≤ p) (u0 u1 u2 u3 : Value) :
    Rd w0 ((((w.setCell ⟨p, 0, none⟩ u0).setCell ⟨p, 1, none⟩ u1).setCell ⟨p, 2, none⟩ u2).setCell ⟨p, 3, none⟩ u3) b s a out := by
  obtain ⟨v, h1, h2, h3, h4⟩ := h
  have ht : ∀ q, q ∈ (40 : Nat) :: k40.E → q ≠ 38 := by intro q hq; simp [k40, k38, Kd.iso, Kd.pair, Kd.int, Kd.scalar] at hq; omega
  have b1 := blk_put hbk 0 u0 rfl
  have b2 := blk_put b1 1 u1 rfl
  have b3 := blk_put b2 2 u2 rfl
  have f := fun (w' : World) (hw : w'.heap[b]? = some (.cells #[.string s, .int .i64 a, v] 50 (0, 0))) (j : Nat) (u : Value) => blk_far hw (p := ⟨p, j, none⟩) hp u
  refine ⟨v, f _ (f _ (f _ (f _ h1 0 u0) 1 u1) 2 u2) 3 u3, h2, Kd.R_set (Kd.R_set (Kd.R_set (Kd.R_set h3 hbk ht 0 u0) b1 ht 1 u1) b2 ht 2 u2) b3 ht 3 u3, below_set (below_set (below_set (below_set h4 hge) hge) hge) hge⟩
theorem regex_reader_class.blk_new (X : World) (o : Obj) (p : Nat) (e : p = X.heap.size) : (X.alloc o).heap[p]? = some o := e ▸ Go.Proofs.YtkabcjchgaokoaaDoorW.PrintWords.blk_new X o
theorem regex_reader_class.eqi_last {P : Program} {d : Nat} {e : TypeId} {c : Nat} {xs ys : Array Value} {i : Nat} {a b : Value} {r : Bool} {w : World} (ha : (part e xs (i * c)).run P w = .ok a w) (hb : (part e ys (i * c)).run P w = .ok b w) (he : (Op.equalIn d e a b).run P w = .ok r w) : (Op.eqItems d e c xs ys [i]).run P w = .ok r w := by
  simp only [Op.eqItems, Sem.run_bind, ha, hb, he, Result.andThen_ok]
  cases r <;> simp
theorem regex_reader_class.eqi_cons {P : Program} {d : Nat} {e : TypeId} {c : Nat} {xs ys : Array Value} {i : Nat} {is : List Nat} {a b : Value} {r s : Bool} {w : World} (ha : (part e xs (i * c)).run P w = .ok a w) (hb : (part e ys (i * c)).run P w = .ok b w) (he : (Op.equalIn d e a b).run P w = .ok r w) (hr : (Op.eqItems d e c xs ys is).run P w = .ok s w) : (Op.eqItems d e c xs ys (i :: is)).run P w = .ok (r && s) w := by
  rw [Op.eqItems]
  simp only [Sem.run_bind, ha, hb, he, Result.andThen_ok]
  cases r
  · simp
  · simpa using hr
theorem regex_reader_class.eqA38 (d : Nat) (w : World) (x0 y0 : Int) (x1 y1 : Int) (x2 y2 : Int) (x3 y3 : Int) :
    (Op.equalIn (d + 2) 38 (.agg #[.int .u64 x0, .int .u64 x1, .int .u64 x2, .int .u64 x3]) (.agg #[.int .u64 y0, .int .u64 y1, .int .u64 y2, .int .u64 y3])).run Tryd.prog w = .ok (x0 == y0 && (x1 == y1 && (x2 == y2 && (x3 == y3)))) w := by
  obtain ⟨i, hi⟩ := Option.isSome_iff_exists.mp (show (Tryd.prog.info? 36).isSome = true by kernel_rfl)
  rw [run_equalIn_array w (d + 1) _ _ Tryd.underlying38 hi]
  refine regex_reader_class.eqi_cons (by go_simp; rfl) (by go_simp; rfl) (by go_simp) ?_
  refine regex_reader_class.eqi_cons (by go_simp; rfl) (by go_simp; rfl) (by go_simp) ?_
  refine regex_reader_class.eqi_cons (by go_simp; rfl) (by go_simp; rfl) (by go_simp) ?_
  exact regex_reader_class.eqi_last (by go_simp; rfl) (by go_simp; rfl) (by go_simp)
/-- A set in memory, beside a reader. -/
def regex_reader_class.Box (w : World) (p : Nat) (x0 x1 x2 x3 : Int) : Prop := w.heap[p]? = some (.cells #[.int .u64 x0, .int .u64 x1, .int .u64 x2, .int .u64 x3] 38 (0, 0))
attribute [local go_sem] run_panic_iface in
attribute [local go_sem high] regex_reader_class.eqA38 in
set_option maxHeartbeats 8000000 in
set_option maxRecDepth 100000 in
theorem regex_reader_class.calls (k : Nat) (w0 w : World) (b : Nat) (s : ByteArray) (a : Int) (out : List S40) (R : Except Int ((Int × Int × Int × Int) × Int)) (hI : Rd w0 w b s a out) (h : regex_reader_class.f k s a = some R) :
    Calls Tryd.prog 47 #[.pointer (some ⟨b, 0, none⟩)] w (ToldClass w0 b s out R) := by
  unfold regex_reader_class.f at h
  by_cases hs : (s.size : Int) < 100000
  · rw [if_pos hs] at h
    obtain ⟨c, hn, h⟩ := Option.bind_eq_some_iff.mp h
    obtain ⟨RL, hl, hR⟩ : ∃ RL, regex_reader_class.l0 k s 0 0 0 0 true (if c = 94 then a + 2 else a + 1) = some RL ∧ (∀ n, RL = .error n → R = .error n) ∧ (∀ x, RL = .ok x → regex_reader_class.fin a (decide (c = 94)) x = some R) := by
      rcases Ex_some h with ⟨n, h1, h2⟩ | ⟨v, h1, h2⟩
      · exact ⟨_, h1, (fun m hm => by injection hm with hm; rw [← hm]; exact h2), (fun x hx => by cases hx)⟩
      · exact ⟨_, h1, (fun m hm => by cases hm), (fun x hx => by injection hx with hx; rw [← hx]; exact h2)⟩
    obtain ⟨n1, n2, n3, n4, n5, n6⟩ := regex_reader_next.bd hn
    have hlt := hI.lt
    have HN := Aside0.mk hn
    have HI := Aside0.mk hI
    have HL := Aside0.mk hl
    have HR := Aside0.mk hR
    have c0 := hI.c0
    have c1 := hI.c1
    have f1 := hI.f1
    clear hn hI hl hR h n5 n6
    have HGE := Aside0.mk (show w0.heap.size ≤ w.heap.size from by obtain ⟨_, _, _, _, h4⟩ := HI.out; exact h4.size)
    have hne1 : b ≠ w.heap.size := by omega
    have hne2 : b ≠ w.heap.size + 1 := by omega
    have hne3 : w.heap.size ≠ b := by omega
    have hne4 : w.heap.size + 1 ≠ b := by omega
    by_cases k1 : c = 94
    · rw [if_pos k1] at HL
      have d1 : (c == 94) = true := beq_iff_eq.mpr k1
      simp only [decide_eq_true k1] at HR
      clear k1
      go_enter Tryd.func47, Tryd.ntmps47
      go_wp2_with (first | (go_at_call 31; (with_reducible refine (regex_reader_next.calls w0 _ b s (a + 1) out c (by repeat (first | (with_reducible exact HI.out) | (with_reducible apply Rd.at_) | (with_reducible apply Rd.drewN) | (with_reducible apply Rd.drew) | (with_reducible apply Rd.alloc))) HN.out).mono ?_); rintro e' w' ⟨rfl, ⟨nd, rfl⟩⟩))
      go_loopg [6] k (fun kq v6 w' => ∃ (first : Bool) (x0 x1 x2 x3 a' : Int), v6 = .bool first ∧ Aside0 (regex_reader_class.l0 kq s x0 x1 x2 x3 first a' = some RL) ∧ Aside0 (Rd w0 w' b s a' out) ∧ Aside0 (regex_reader_class.Box w' (w.heap.size + 1) x0 x1 x2 x3 ∧ regex_reader_class.Box w' w.heap.size 0 0 0 0))
      case atStart =>
        exact ⟨true, 0, 0, 0, 0, _, rfl, HL, ⟨Rd.cast (by repeat (first | (with_reducible exact HI.out) | (with_reducible apply Rd.at_) | (with_reducible apply Rd.drewN) | (with_reducible apply Rd.drew) | (with_reducible apply Rd.alloc))) (by omega)⟩, ⟨(by unfold regex_reader_class.Box; repeat (first | (with_reducible refine blk_drewN ?_ _) | (with_reducible refine blk_drew ?_) | (refine regex_reader_class.blk_new _ _ _ ?_; focus (simp; done)) | (with_reducible refine blk_alloc ?_ _) | (refine blk_far ?_ (by first | (simp; done) | (simp; omega) | omega) _))), (by unfold regex_reader_class.Box; repeat (first | (with_reducible refine blk_drewN ?_ _) | (with_reducible refine blk_drew ?_) | (refine regex_reader_class.blk_new _ _ _ ?_; focus (simp; done)) | (with_reducible refine blk_alloc ?_ _) | (refine blk_far ?_ (by first | (simp; done) | (simp; omega) | omega) _)))⟩⟩
      case round =>
        obtain ⟨first, x0, x1, x2, x3, a', rfl, HA, HJ, HX⟩ := hrel
        cases gk with
        | zero => exact absurd HA.out (by simp [regex_reader_class.l0])
        | succ kk =>
          have h0 := HA.out
          clear HA
          simp only [regex_reader_class.l0] at h0
          obtain ⟨c', hn', h⟩ := Option.bind_eq_some_iff.mp h0
          clear h0
          obtain ⟨q1, q2, q3, q4, q5, q6⟩ := regex_reader_next.bd hn'
          have HN' := Aside0.mk hn'
          have hj := HJ.out
          have j0 := hj.c0
          have j1 := hj.c1
          have jf := hj.f1
          obtain ⟨bx, by0⟩ := HX.out
          unfold regex_reader_class.Box at bx by0
          have BX := Aside0.mk bx
          have BY := Aside0.mk by0
          have pc0 := blk_cell bx 0
          have pc1 := blk_cell bx 1
          have pc2 := blk_cell bx 2
          have pc3 := blk_cell bx 3
          have pf0 := blk_frozen bx 0
          have pf1 := blk_frozen bx 1
          have pf2 := blk_frozen bx 2
          have pf3 := blk_frozen bx 3
          simp only [List.getElem?_toArray, List.getElem?_cons_zero, List.getElem?_cons_succ] at pc0 pc1 pc2 pc3
          have zc0 := blk_cell by0 0
          have zc1 := blk_cell by0 1
          have zc2 := blk_cell by0 2
          have zc3 := blk_cell by0 3
          have zf0 := blk_frozen by0 0
          have zf1 := blk_frozen by0 1
          have zf2 := blk_frozen by0 2
          have zf3 := blk_frozen by0 3
          simp only [List.getElem?_toArray, List.getElem?_cons_zero, List.getElem?_cons_succ] at zc0 zc1 zc2 zc3
          clear hn' q5 q6 hj bx by0 HX
          by_cases e1 : first = false ∧ c' = 93
          · rw [if_pos e1] at h
            obtain rfl := Option.some.inj h
            obtain ⟨rfl, e2⟩ := e1
            have hfin := HR.out.2 _ rfl
            have g1 : (c' != 93) = false := bne_eq_false_iff_eq.mpr e2
            unfold regex_reader_class.fin at hfin
            rw [if_pos rfl] at hfin
            obtain ⟨⟨y0, y1, y2, y3⟩, hy, hfin⟩ := Option.bind_eq_some_iff.mp hfin
            have HY := Aside0.mk hy
            clear hy
            by_cases z0 : y0 = 0 ∧ y1 = 0 ∧ y2 = 0 ∧ y3 = 0
            · rw [if_pos z0] at hfin
              obtain rfl := Option.some.inj hfin
              obtain ⟨rfl, rfl, rfl, rfl⟩ := z0
              go_wp2_with (first | (go_at_call 31; (with_reducible refine (regex_reader_next.calls w0 _ b s (a') out c' (by repeat (first | (with_reducible exact HJ.out) | (with_reducible apply Rd.at_) | (with_reducible apply Rd.drewN) | (with_reducible apply Rd.drew) | (with_reducible apply Rd.alloc))) HN'.out).mono ?_); rintro e' w' ⟨rfl, ⟨nd1, rfl⟩⟩) | (go_at_call 24; (with_reducible refine (bytes_Not.calls x0 x1 x2 x3 0 0 0 0 _ HY.out).mono ?_); rintro e' w' ⟨rfl, hb⟩; have kk4 := bytes_Span.keep4 (p := w.heap.size + 1) (x0 := x0) (x1 := x1) (x2 := x2) (x3 := x3) hb (by unfold bytes_Span.S4; go_keep); obtain ⟨kc0, kc1, kc2, kc3, kc4, kc5, kc6, kc7⟩ := kk4; have kz4 := bytes_Span.keep4 (p := w.heap.size) (x0 := 0) (x1 := 0) (x2 := 0) (x3 := 0) hb (by unfold bytes_Span.S4; go_keep); obtain ⟨kz0, kz1, kz2, kz3, kz4, kz5, kz6, kz7⟩ := kz4; have HB2 := Aside0.mk hb; clear hb))
              refine ⟨rfl, rfl, a' + 1, out, ?_⟩
              refine Rd.setp4 (p := w.heap.size + 1) ?_ (by repeat (first | (with_reducible refine blk_drewN ?_ _) | (with_reducible refine blk_drew ?_) | exact BX.out | exact BY.out | (refine blk_below ?_ HB2.out) | (refine blk_far ?_ (by first | (simp; done) | (simp; omega) | omega) _))) hne2 (by have := HGE.out; omega) _ _ _ _; repeat (first | (with_reducible exact HJ.out) | (with_reducible refine Rd.below ?_ HB2.out) | (with_reducible apply Rd.at_) | (with_reducible apply Rd.drewN) | (with_reducible apply Rd.drew) | (with_reducible apply Rd.alloc))
            · rw [if_neg z0] at hfin
              obtain rfl := Option.some.inj hfin
              have gz : (y0 == 0 && (y1 == 0 && (y2 == 0 && (y3 == 0)))) = false := by rw [Bool.eq_false_iff]; intro hh; simp at hh; exact z0 hh
              clear z0
              go_wp2_with (first | (go_at_call 31; (with_reducible refine (regex_reader_next.calls w0 _ b s (a') out c' (by repeat (first | (with_reducible exact HJ.out) | (with_reducible apply Rd.at_) | (with_reducible apply Rd.drewN) | (with_reducible apply Rd.drew) | (with_reducible apply Rd.alloc))) HN'.out).mono ?_); rintro e' w' ⟨rfl, ⟨nd1, rfl⟩⟩) | (go_at_call 24; (with_reducible refine (bytes_Not.calls x0 x1 x2 x3 y0 y1 y2 y3 _ HY.out).mono ?_); rintro e' w' ⟨rfl, hb⟩; have kk4 := bytes_Span.keep4 (p := w.heap.size + 1) (x0 := x0) (x1 := x1) (x2 := x2) (x3 := x3) hb (by unfold bytes_Span.S4; go_keep); obtain ⟨kc0, kc1, kc2, kc3, kc4, kc5, kc6, kc7⟩ := kk4; have kz4 := bytes_Span.keep4 (p := w.heap.size) (x0 := 0) (x1 := 0) (x2 := 0) (x3 := 0) hb (by unfold bytes_Span.S4; go_keep); obtain ⟨kz0, kz1, kz2, kz3, kz4, kz5, kz6, kz7⟩ := kz4; have HB2 := Aside0.mk hb; clear hb))
              refine bodyPost_ret (v := .agg #[.int .u64 y0, .int .u64 y1, .int .u64 y2, .int .u64 y3]) (by simp [results, Tryd.results47, go_sem, *]) rfl ⟨rfl, ?_⟩
              refine Rd.setp4 (p := w.heap.size) ?_ (by repeat (first | (with_reducible refine blk_drewN ?_ _) | (with_reducible refine blk_drew ?_) | exact BX.out | exact BY.out | (refine blk_below ?_ HB2.out) | (refine blk_far ?_ (by first | (simp; done) | (simp; omega) | omega) _))) hne1 (by have := HGE.out; omega) _ _ _ _
              refine Rd.setp4 (p := w.heap.size + 1) ?_ (by repeat (first | (with_reducible refine blk_drewN ?_ _) | (with_reducible refine blk_drew ?_) | exact BX.out | exact BY.out | (refine blk_below ?_ HB2.out) | (refine blk_far ?_ (by first | (simp; done) | (simp; omega) | omega) _))) hne2 (by have := HGE.out; omega) _ _ _ _; repeat (first | (with_reducible exact HJ.out) | (with_reducible refine Rd.below ?_ HB2.out) | (with_reducible apply Rd.at_) | (with_reducible apply Rd.drewN) | (with_reducible apply Rd.drew) | (with_reducible apply Rd.alloc))
          · rw [if_neg e1] at h
            cases first
            case false =>
              have g1 : (c' != 93) = true := bne_iff_ne.mpr (fun hh => e1 ⟨rfl, hh⟩)
              clear e1
              by_cases e2 : c' < 0
              · rw [if_pos e2] at h
                obtain rfl := Option.some.inj h
                obtain rfl := HR.out.1 _ rfl
                have g2 : decide (c' < 0) = true := decide_eq_true e2
                go_wp2_with (first | (go_at_call 31; (with_reducible refine (regex_reader_next.calls w0 _ b s (a') out c' (by repeat (first | (with_reducible exact HJ.out) | (with_reducible apply Rd.at_) | (with_reducible apply Rd.drewN) | (with_reducible apply Rd.drew) | (with_reducible apply Rd.alloc))) HN'.out).mono ?_); rintro e' w' ⟨rfl, ⟨nd1, rfl⟩⟩))
                exact ⟨rfl, rfl, _, out, (by repeat (first | (with_reducible exact HJ.out) | (with_reducible apply Rd.at_) | (with_reducible apply Rd.drewN) | (with_reducible apply Rd.drew) | (with_reducible apply Rd.alloc)))⟩
              · rw [if_neg e2] at h
                have g2 : decide (c' < 0) = false := decide_eq_false e2
                rcases Ex_some h with ⟨n, hs1, rfl⟩ | ⟨q, hs1, h⟩
                · have HS1 := Aside0.mk hs1
                  obtain rfl := HR.out.1 _ rfl
                  clear h hs1
                  go_wp2_with (first | (go_at_call 31; (with_reducible refine (regex_reader_next.calls w0 _ b s (a') out c' (by repeat (first | (with_reducible exact HJ.out) | (with_reducible apply Rd.at_) | (with_reducible apply Rd.drewN) | (with_reducible apply Rd.drew) | (with_reducible apply Rd.alloc))) HN'.out).mono ?_); rintro e' w' ⟨rfl, ⟨nd1, rfl⟩⟩) | (go_at_call 48; (with_reducible refine (regex_reader_sign.calls w0 _ b s (a') out _ _ (.error n) (by repeat (first | (with_reducible exact HJ.out) | (with_reducible apply Rd.at_) | (with_reducible apply Rd.drewN) | (with_reducible apply Rd.drew) | (with_reducible apply Rd.alloc))) HS1.out).mono ?_); rintro e' w' ⟨rfl, ⟨a9, o9, hr⟩, hk⟩; simp only [thrown]))
                  exact ⟨rfl, rfl, a9, o9, hr⟩
                · have HS1 := Aside0.mk hs1
                  obtain ⟨qb, qa⟩ := q
                  obtain ⟨c2, hn2, h⟩ := Option.bind_eq_some_iff.mp h
                  obtain ⟨r1, r2, r3, r4, r5, r6⟩ := regex_reader_next.bd hn2
                  have HN2 := Aside0.mk hn2
                  have HH := Aside0.mk h
                  clear h hs1 hn2 r5 r6
                  by_cases e3 : c2 = 45
                  · have g3 : (c2 == 45) = true := beq_iff_eq.mpr e3
                    have h := HH.out
                    clear HH
                    rw [if_pos e3] at h
                    clear e3
                    rcases Ex_some h with ⟨n, hs2, rfl⟩ | ⟨q2, hs2, h⟩
                    · have HS2 := Aside0.mk hs2
                      obtain rfl := HR.out.1 _ rfl
                      clear h hs2
                      go_wp2_with (first | (go_at_call 31; (with_reducible refine (regex_reader_next.calls w0 _ b s (a') out c' (by repeat (first | (with_reducible exact HJ.out) | (with_reducible apply Rd.at_) | (with_reducible apply Rd.drewN) | (with_reducible apply Rd.drew) | (with_reducible apply Rd.alloc))) HN'.out).mono ?_); rintro e' w' ⟨rfl, ⟨nd1, rfl⟩⟩))
                      go_wp2_with (first | (go_at_call 48; (with_reducible refine (regex_reader_sign.calls w0 _ b s (a') out _ _ (.ok (qb, qa)) (by repeat (first | (with_reducible exact HJ.out) | (with_reducible apply Rd.at_) | (with_reducible apply Rd.drewN) | (with_reducible apply Rd.drew) | (with_reducible apply Rd.alloc))) HS1.out).mono ?_); rintro e' w' ⟨rfl, hr, hk⟩; have HJ2 := Aside0.mk hr; have t0 := hr.c0; have t1 := hr.c1; have tf := hr.f1; have HK1 := Aside0.mk hk; clear hr hk))
                      go_wp2_with (first | (go_at_call 31; (with_reducible refine (regex_reader_next.calls w0 _ b s (qa) out c2 (by repeat (first | (with_reducible exact HJ2.out) | (with_reducible apply Rd.at_) | (with_reducible apply Rd.drewN) | (with_reducible apply Rd.drew) | (with_reducible apply Rd.alloc))) HN2.out).mono ?_); rintro e' w' ⟨rfl, ⟨nd2, rfl⟩⟩))
                      go_wp2_with (first | (go_at_call 48; (with_reducible refine (regex_reader_sign.calls w0 _ b s (qa + 1) out _ _ (.error n) (by repeat (first | (with_reducible exact HJ2.out) | (with_reducible apply Rd.at_) | (with_reducible apply Rd.drewN) | (with_reducible apply Rd.drew) | (with_reducible apply Rd.alloc))) HS2.out).mono ?_); rintro e' w' ⟨rfl, ⟨a9, o9, hr⟩, hk⟩; simp only [thrown]))
                      exact ⟨rfl, rfl, a9, o9, hr⟩
                    · have HS2 := Aside0.mk hs2
                      obtain ⟨qb2, qa2⟩ := q2
                      clear hs2
                      by_cases e4 : qb > qb2
                      · rw [if_pos e4] at h
                        obtain rfl := Option.some.inj h
                        obtain rfl := HR.out.1 _ rfl
                        have g4 : decide (qb2 < qb) = true := decide_eq_true e4
                        go_wp2_with (first | (go_at_call 31; (with_reducible refine (regex_reader_next.calls w0 _ b s (a') out c' (by repeat (first | (with_reducible exact HJ.out) | (with_reducible apply Rd.at_) | (with_reducible apply Rd.drewN) | (with_reducible apply Rd.drew) | (with_reducible apply Rd.alloc))) HN'.out).mono ?_); rintro e' w' ⟨rfl, ⟨nd1, rfl⟩⟩))
                        go_wp2_with (first | (go_at_call 48; (with_reducible refine (regex_reader_sign.calls w0 _ b s (a') out _ _ (.ok (qb, qa)) (by repeat (first | (with_reducible exact HJ.out) | (with_reducible apply Rd.at_) | (with_reducible apply Rd.drewN) | (with_reducible apply Rd.drew) | (with_reducible apply Rd.alloc))) HS1.out).mono ?_); rintro e' w' ⟨rfl, hr, hk⟩; have HJ2 := Aside0.mk hr; have t0 := hr.c0; have t1 := hr.c1; have tf := hr.f1; have HK1 := Aside0.mk hk; clear hr hk))
                        go_wp2_with (first | (go_at_call 31; (with_reducible refine (regex_reader_next.calls w0 _ b s (qa) out c2 (by repeat (first | (with_reducible exact HJ2.out) | (with_reducible apply Rd.at_) | (with_reducible apply Rd.drewN) | (with_reducible apply Rd.drew) | (with_reducible apply Rd.alloc))) HN2.out).mono ?_); rintro e' w' ⟨rfl, ⟨nd2, rfl⟩⟩))
                        go_wp2_with (first | (go_at_call 48; (with_reducible refine (regex_reader_sign.calls w0 _ b s (qa + 1) out _ _ (.ok (qb2, qa2)) (by repeat (first | (with_reducible exact HJ2.out) | (with_reducible apply Rd.at_) | (with_reducible apply Rd.drewN) | (with_reducible apply Rd.drew) | (with_reducible apply Rd.alloc))) HS2.out).mono ?_); rintro e' w' ⟨rfl, hr, hk⟩; have HJ3 := Aside0.mk hr; have v0 := hr.c0; have v1 := hr.c1; have vf := hr.f1; have HK2 := Aside0.mk hk; clear hr hk))
                        exact ⟨rfl, rfl, _, out, (by repeat (first | (with_reducible exact HJ3.out) | (with_reducible exact HJ2.out) | (with_reducible apply Rd.at_) | (with_reducible apply Rd.drewN) | (with_reducible apply Rd.drew) | (with_reducible apply Rd.alloc)))⟩
                      · rw [if_neg e4] at h
                        have g4 : decide (qb2 < qb) = false := decide_eq_false e4
                        obtain ⟨⟨o0, o1, o2, o3⟩, ho, h⟩ := Option.bind_eq_some_iff.mp h
                        obtain ⟨⟨s0, s1, s2, s3⟩, hq, h⟩ := Option.bind_eq_some_iff.mp h
                        have HO := Aside0.mk ho
                        have HQ := Aside0.mk hq
                        have HN9 := Aside0.mk h
                        clear ho hq h e4
                        go_wp2_with (first | (go_at_call 31; (with_reducible refine (regex_reader_next.calls w0 _ b s (a') out c' (by repeat (first | (with_reducible exact HJ.out) | (with_reducible apply Rd.at_) | (with_reducible apply Rd.drewN) | (with_reducible apply Rd.drew) | (with_reducible apply Rd.alloc))) HN'.out).mono ?_); rintro e' w' ⟨rfl, ⟨nd1, rfl⟩⟩))
                        go_wp2_with (first | (go_at_call 48; (with_reducible refine (regex_reader_sign.calls w0 _ b s (a') out _ _ (.ok (qb, qa)) (by repeat (first | (with_reducible exact HJ.out) | (with_reducible apply Rd.at_) | (with_reducible apply Rd.drewN) | (with_reducible apply Rd.drew) | (with_reducible apply Rd.alloc))) HS1.out).mono ?_); rintro e' w' ⟨rfl, hr, hk⟩; have HJ2 := Aside0.mk hr; have t0 := hr.c0; have t1 := hr.c1; have tf := hr.f1; have HK1 := Aside0.mk hk; clear hr hk))
                        go_wp2_with (first | (go_at_call 31; (with_reducible refine (regex_reader_next.calls w0 _ b s (qa) out c2 (by repeat (first | (with_reducible exact HJ2.out) | (with_reducible apply Rd.at_) | (with_reducible apply Rd.drewN) | (with_reducible apply Rd.drew) | (with_reducible apply Rd.alloc))) HN2.out).mono ?_); rintro e' w' ⟨rfl, ⟨nd2, rfl⟩⟩))
                        go_wp2_with (first | (go_at_call 48; (with_reducible refine (regex_reader_sign.calls w0 _ b s (qa + 1) out _ _ (.ok (qb2, qa2)) (by repeat (first | (with_reducible exact HJ2.out) | (with_reducible apply Rd.at_) | (with_reducible apply Rd.drewN) | (with_reducible apply Rd.drew) | (with_reducible apply Rd.alloc))) HS2.out).mono ?_); rintro e' w' ⟨rfl, hr, hk⟩; have HJ3 := Aside0.mk hr; have v0 := hr.c0; have v1 := hr.c1; have vf := hr.f1; have HK2 := Aside0.mk hk; clear hr hk))
                        have bp1 := HK1.out.blk (g' := w.heap.size + 1) (o := .cells #[.int .u64 x0, .int .u64 x1, .int .u64 x2, .int .u64 x3] 38 (0, 0)) (by repeat (first | (with_reducible refine blk_drewN ?_ _) | (with_reducible refine blk_drew ?_) | exact BX.out | (refine blk_far ?_ (by first | (simp; done) | (simp; omega) | omega) _))) hne4 (by simp)
                        have bp := HK2.out.blk (g' := w.heap.size + 1) (o := .cells #[.int .u64 x0, .int .u64 x1, .int .u64 x2, .int .u64 x3] 38 (0, 0)) (by repeat (first | (with_reducible refine blk_drewN ?_ _) | (with_reducible refine blk_drew ?_) | exact bp1 | (refine blk_far ?_ (by first | (simp; done) | (simp; omega) | omega) _))) hne4 (by simp)
                        have bz1 := HK1.out.blk (g' := w.heap.size) (o := .cells #[.int .u64 0, .int .u64 0, .int .u64 0, .int .u64 0] 38 (0, 0)) (by repeat (first | (with_reducible refine blk_drewN ?_ _) | (with_reducible refine blk_drew ?_) | exact BY.out | (refine blk_far ?_ (by first | (simp; done) | (simp; omega) | omega) _))) hne3 (by simp)
                        have bz := HK2.out.blk (g' := w.heap.size) (o := .cells #[.int .u64 0, .int .u64 0, .int .u64 0, .int .u64 0] 38 (0, 0)) (by repeat (first | (with_reducible refine blk_drewN ?_ _) | (with_reducible refine blk_drew ?_) | exact bz1 | (refine blk_far ?_ (by first | (simp; done) | (simp; omega) | omega) _))) hne3 (by simp)
                        have BP := Aside0.mk bp
                        have BZ := Aside0.mk bz
                        have ec0 := blk_cell bp 0
                        have ec1 := blk_cell bp 1
                        have ec2 := blk_cell bp 2
                        have ec3 := blk_cell bp 3
                        have ef0 := blk_frozen bp 0
                        have ef1 := blk_frozen bp 1
                        have ef2 := blk_frozen bp 2
                        have ef3 := blk_frozen bp 3
                        simp only [List.getElem?_toArray, List.getElem?_cons_zero, List.getElem?_cons_succ] at ec0 ec1 ec2 ec3
                        clear bp bz bp1 bz1
                        go_region_with (first | (go_at_call 50; (with_reducible refine (bytes_Span.calls kk qb qb2 o0 o1 o2 o3 _ HO.out).mono ?_); rintro e' w' ⟨rfl, hb⟩; have kk4 := bytes_Span.keep4 (p := w.heap.size + 1) (x0 := x0) (x1 := x1) (x2 := x2) (x3 := x3) hb (by unfold bytes_Span.S4; go_keep); obtain ⟨kc0, kc1, kc2, kc3, kc4, kc5, kc6, kc7⟩ := kk4; have HB2 := Aside0.mk hb; clear hb) | (go_at_call 49; (with_reducible refine (bytes_Or.calls x0 x1 x2 x3 o0 o1 o2 o3 s0 s1 s2 s3 _ HQ.out).mono ?_); rintro e' w' ⟨rfl, hb⟩; have kk4 := bytes_Span.keep4 (p := w.heap.size + 1) (x0 := x0) (x1 := x1) (x2 := x2) (x3 := x3) hb (by unfold bytes_Span.S4; go_keep); obtain ⟨kc0, kc1, kc2, kc3, kc4, kc5, kc6, kc7⟩ := kk4; have HB3 := Aside0.mk hb; clear hb))
                        all_goals
                          have e1 := blk_below (g := w.heap.size + 1) (o := .cells #[.int .u64 x0, .int .u64 x1, .int .u64 x2, .int .u64 x3] 38 (0, 0)) (blk_below (g := w.heap.size + 1) (o := .cells #[.int .u64 x0, .int .u64 x1, .int .u64 x2, .int .u64 x3] 38 (0, 0)) (by repeat (first | (with_reducible refine blk_drewN ?_ _) | (with_reducible refine blk_drew ?_) | exact BP.out)) HB2.out) HB3.out
                          have e2 := blk_below (g := w.heap.size) (o := .cells #[.int .u64 0, .int .u64 0, .int .u64 0, .int .u64 0] 38 (0, 0)) (blk_below (g := w.heap.size) (o := .cells #[.int .u64 0, .int .u64 0, .int .u64 0, .int .u64 0] 38 (0, 0)) (by repeat (first | (with_reducible refine blk_drewN ?_ _) | (with_reducible refine blk_drew ?_) | exact BZ.out)) HB2.out) HB3.out
                          have e3 := Rd.below (Rd.below (w0 := w0) (b := b) (s := s) (a := qa2) (out := out) (by repeat (first | (with_reducible exact HJ3.out) | (with_reducible apply Rd.at_) | (with_reducible apply Rd.drewN) | (with_reducible apply Rd.drew) | (with_reducible apply Rd.alloc))) HB2.out) HB3.out
                          have e4 := blk_put (blk_put (blk_put (blk_put e1 0 (.int .u64 s0) rfl) 1 (.int .u64 s1) rfl) 2 (.int .u64 s2) rfl) 3 (.int .u64 s3) rfl
                          have e5 := blk_far (blk_far (blk_far (blk_far e2 (p := ⟨w.heap.size + 1, 0, none⟩) (by simp) (.int .u64 s0)) (p := ⟨w.heap.size + 1, 1, none⟩) (by simp) (.int .u64 s1)) (p := ⟨w.heap.size + 1, 2, none⟩) (by simp) (.int .u64 s2)) (p := ⟨w.heap.size + 1, 3, none⟩) (by simp) (.int .u64 s3)
                          have e6 := Rd.setp4 e3 e1 hne2 (by have := HGE.out; omega) (.int .u64 s0) (.int .u64 s1) (.int .u64 s2) (.int .u64 s3)
                          have E := Aside0.mk (And.intro e6 (And.intro e4 e5))
                          clear e1 e2 e3 e4 e5 e6
                          go_wp2
                          go_roundg kk
                          case measure => omega
                          case rel => exact ⟨false, s0, s1, s2, s3, qa2, rfl, HN9, ⟨E.out.1⟩, ⟨E.out.2⟩⟩
                  · have g3 : (c2 == 45) = false := beq_eq_false_iff_ne.mpr e3
                    have h := HH.out
                    clear HH
                    rw [if_neg e3] at h
                    clear e3
                    replace h : (if qb > qb then some (.error a') else ((bytes_Span.f kk qb qb).bind fun o => (bytes_Or.f x0 x1 x2 x3 o.1 o.2.1 o.2.2.1 o.2.2.2).bind fun r => regex_reader_class.l0 kk s r.1 r.2.1 r.2.2.1 r.2.2.2 false qa)) = some RL := h
                    by_cases e4 : qb > qb
                    · exact absurd e4 (by omega)
                    · rw [if_neg e4] at h
                      have g4 : decide (qb < qb) = false := decide_eq_false e4
                      obtain ⟨⟨o0, o1, o2, o3⟩, ho, h⟩ := Option.bind_eq_some_iff.mp h
                      obtain ⟨⟨s0, s1, s2, s3⟩, hq, h⟩ := Option.bind_eq_some_iff.mp h
                      have HO := Aside0.mk ho
                      have HQ := Aside0.mk hq
                      have HN9 := Aside0.mk h
                      clear ho hq h e4
                      go_wp2_with (first | (go_at_call 31; (with_reducible refine (regex_reader_next.calls w0 _ b s (a') out c' (by repeat (first | (with_reducible exact HJ.out) | (with_reducible apply Rd.at_) | (with_reducible apply Rd.drewN) | (with_reducible apply Rd.drew) | (with_reducible apply Rd.alloc))) HN'.out).mono ?_); rintro e' w' ⟨rfl, ⟨nd1, rfl⟩⟩))
                      go_wp2_with (first | (go_at_call 48; (with_reducible refine (regex_reader_sign.calls w0 _ b s (a') out _ _ (.ok (qb, qa)) (by repeat (first | (with_reducible exact HJ.out) | (with_reducible apply Rd.at_) | (with_reducible apply Rd.drewN) | (with_reducible apply Rd.drew) | (with_reducible apply Rd.alloc))) HS1.out).mono ?_); rintro e' w' ⟨rfl, hr, hk⟩; have HJ2 := Aside0.mk hr; have t0 := hr.c0; have t1 := hr.c1; have tf := hr.f1; have HK1 := Aside0.mk hk; clear hr hk))
                      go_wp2_with (first | (go_at_call 31; (with_reducible refine (regex_reader_next.calls w0 _ b s (qa) out c2 (by repeat (first | (with_reducible exact HJ2.out) | (with_reducible apply Rd.at_) | (with_reducible apply Rd.drewN) | (with_reducible apply Rd.drew) | (with_reducible apply Rd.alloc))) HN2.out).mono ?_); rintro e' w' ⟨rfl, ⟨nd2, rfl⟩⟩))
                      have bp1 := HK1.out.blk (g' := w.heap.size + 1) (o := .cells #[.int .u64 x0, .int .u64 x1, .int .u64 x2, .int .u64 x3] 38 (0, 0)) (by repeat (first | (with_reducible refine blk_drewN ?_ _) | (with_reducible refine blk_drew ?_) | exact BX.out | (refine blk_far ?_ (by first | (simp; done) | (simp; omega) | omega) _))) hne4 (by simp)
                      have bp := bp1
                      have bz1 := HK1.out.blk (g' := w.heap.size) (o := .cells #[.int .u64 0, .int .u64 0, .int .u64 0, .int .u64 0] 38 (0, 0)) (by repeat (first | (with_reducible refine blk_drewN ?_ _) | (with_reducible refine blk_drew ?_) | exact BY.out | (refine blk_far ?_ (by first | (simp; done) | (simp; omega) | omega) _))) hne3 (by simp)
                      have bz := bz1
                      have BP := Aside0.mk bp
                      have BZ := Aside0.mk bz
                      have ec0 := blk_cell bp 0
                      have ec1 := blk_cell bp 1
                      have ec2 := blk_cell bp 2
                      have ec3 := blk_cell bp 3
                      have ef0 := blk_frozen bp 0
                      have ef1 := blk_frozen bp 1
                      have ef2 := blk_frozen bp 2
                      have ef3 := blk_frozen bp 3
                      simp only [List.getElem?_toArray, List.getElem?_cons_zero, List.getElem?_cons_succ] at ec0 ec1 ec2 ec3
                      clear bp bz bp1 bz1
                      go_region_with (first | (go_at_call 50; (with_reducible refine (bytes_Span.calls kk qb qb o0 o1 o2 o3 _ HO.out).mono ?_); rintro e' w' ⟨rfl, hb⟩; have kk4 := bytes_Span.keep4 (p := w.heap.size + 1) (x0 := x0) (x1 := x1) (x2 := x2) (x3 := x3) hb (by unfold bytes_Span.S4; go_keep); obtain ⟨kc0, kc1, kc2, kc3, kc4, kc5, kc6, kc7⟩ := kk4; have HB2 := Aside0.mk hb; clear hb) | (go_at_call 49; (with_reducible refine (bytes_Or.calls x0 x1 x2 x3 o0 o1 o2 o3 s0 s1 s2 s3 _ HQ.out).mono ?_); rintro e' w' ⟨rfl, hb⟩; have kk4 := bytes_Span.keep4 (p := w.heap.size + 1) (x0 := x0) (x1 := x1) (x2 := x2) (x3 := x3) hb (by unfold bytes_Span.S4; go_keep); obtain ⟨kc0, kc1, kc2, kc3, kc4, kc5, kc6, kc7⟩ := kk4; have HB3 := Aside0.mk hb; clear hb))
                      all_goals
                        have e1 := blk_below (g := w.heap.size + 1) (o := .cells #[.int .u64 x0, .int .u64 x1, .int .u64 x2, .int .u64 x3] 38 (0, 0)) (blk_below (g := w.heap.size + 1) (o := .cells #[.int .u64 x0, .int .u64 x1, .int .u64 x2, .int .u64 x3] 38 (0, 0)) (by repeat (first | (with_reducible refine blk_drewN ?_ _) | (with_reducible refine blk_drew ?_) | exact BP.out)) HB2.out) HB3.out
                        have e2 := blk_below (g := w.heap.size) (o := .cells #[.int .u64 0, .int .u64 0, .int .u64 0, .int .u64 0] 38 (0, 0)) (blk_below (g := w.heap.size) (o := .cells #[.int .u64 0, .int .u64 0, .int .u64 0, .int .u64 0] 38 (0, 0)) (by repeat (first | (with_reducible refine blk_drewN ?_ _) | (with_reducible refine blk_drew ?_) | exact BZ.out)) HB2.out) HB3.out
                        have e3 := Rd.below (Rd.below (w0 := w0) (b := b) (s := s) (a := qa) (out := out) (by repeat (first | (with_reducible exact HJ2.out) | (with_reducible apply Rd.at_) | (with_reducible apply Rd.drewN) | (with_reducible apply Rd.drew) | (with_reducible apply Rd.alloc))) HB2.out) HB3.out
                        have e4 := blk_put (blk_put (blk_put (blk_put e1 0 (.int .u64 s0) rfl) 1 (.int .u64 s1) rfl) 2 (.int .u64 s2) rfl) 3 (.int .u64 s3) rfl
                        have e5 := blk_far (blk_far (blk_far (blk_far e2 (p := ⟨w.heap.size + 1, 0, none⟩) (by simp) (.int .u64 s0)) (p := ⟨w.heap.size + 1, 1, none⟩) (by simp) (.int .u64 s1)) (p := ⟨w.heap.size + 1, 2, none⟩) (by simp) (.int .u64 s2)) (p := ⟨w.heap.size + 1, 3, none⟩) (by simp) (.int .u64 s3)
                        have e6 := Rd.setp4 e3 e1 hne2 (by have := HGE.out; omega) (.int .u64 s0) (.int .u64 s1) (.int .u64 s2) (.int .u64 s3)
                        have E := Aside0.mk (And.intro e6 (And.intro e4 e5))
                        clear e1 e2 e3 e4 e5 e6
                        go_wp2
                        go_roundg kk
                        case measure => omega
                        case rel => exact ⟨false, s0, s1, s2, s3, qa, rfl, HN9, ⟨E.out.1⟩, ⟨E.out.2⟩⟩
            case true =>
              clear e1
              by_cases e2 : c' < 0
              · rw [if_pos e2] at h
                obtain rfl := Option.some.inj h
                obtain rfl := HR.out.1 _ rfl
                have g2 : decide (c' < 0) = true := decide_eq_true e2
                go_wp2_with (first | (go_at_call 31; (with_reducible refine (regex_reader_next.calls w0 _ b s (a') out c' (by repeat (first | (with_reducible exact HJ.out) | (with_reducible apply Rd.at_) | (with_reducible apply Rd.drewN) | (with_reducible apply Rd.drew) | (with_reducible apply Rd.alloc))) HN'.out).mono ?_); rintro e' w' ⟨rfl, ⟨nd1, rfl⟩⟩))
                exact ⟨rfl, rfl, _, out, (by repeat (first | (with_reducible exact HJ.out) | (with_reducible apply Rd.at_) | (with_reducible apply Rd.drewN) | (with_reducible apply Rd.drew) | (with_reducible apply Rd.alloc)))⟩
              · rw [if_neg e2] at h
                have g2 : decide (c' < 0) = false := decide_eq_false e2
                rcases Ex_some h with ⟨n, hs1, rfl⟩ | ⟨q, hs1, h⟩
                · have HS1 := Aside0.mk hs1
                  obtain rfl := HR.out.1 _ rfl
                  clear h hs1
                  go_wp2_with (first | (go_at_call 31; (with_reducible refine (regex_reader_next.calls w0 _ b s (a') out c' (by repeat (first | (with_reducible exact HJ.out) | (with_reducible apply Rd.at_) | (with_reducible apply Rd.drewN) | (with_reducible apply Rd.drew) | (with_reducible apply Rd.alloc))) HN'.out).mono ?_); rintro e' w' ⟨rfl, ⟨nd1, rfl⟩⟩) | (go_at_call 48; (with_reducible refine (regex_reader_sign.calls w0 _ b s (a') out _ _ (.error n) (by repeat (first | (with_reducible exact HJ.out) | (with_reducible apply Rd.at_) | (with_reducible apply Rd.drewN) | (with_reducible apply Rd.drew) | (with_reducible apply Rd.alloc))) HS1.out).mono ?_); rintro e' w' ⟨rfl, ⟨a9, o9, hr⟩, hk⟩; simp only [thrown]))
                  exact ⟨rfl, rfl, a9, o9, hr⟩
                · have HS1 := Aside0.mk hs1
                  obtain ⟨qb, qa⟩ := q
                  obtain ⟨c2, hn2, h⟩ := Option.bind_eq_some_iff.mp h
                  obtain ⟨r1, r2, r3, r4, r5, r6⟩ := regex_reader_next.bd hn2
                  have HN2 := Aside0.mk hn2
                  have HH := Aside0.mk h
                  clear h hs1 hn2 r5 r6
                  by_cases e3 : c2 = 45
                  · have g3 : (c2 == 45) = true := beq_iff_eq.mpr e3
                    have h := HH.out
                    clear HH
                    rw [if_pos e3] at h
                    clear e3
                    rcases Ex_some h with ⟨n, hs2, rfl⟩ | ⟨q2, hs2, h⟩
                    · have HS2 := Aside0.mk hs2
                      obtain rfl := HR.out.1 _ rfl
                      clear h hs2
                      go_wp2_with (first | (go_at_call 31; (with_reducible refine (regex_reader_next.calls w0 _ b s (a') out c' (by repeat (first | (with_reducible exact HJ.out) | (with_reducible apply Rd.at_) | (with_reducible apply Rd.drewN) | (with_reducible apply Rd.drew) | (with_reducible apply Rd.alloc))) HN'.out).mono ?_); rintro e' w' ⟨rfl, ⟨nd1, rfl⟩⟩))
                      go_wp2_with (first | (go_at_call 48; (with_reducible refine (regex_reader_sign.calls w0 _ b s (a') out _ _ (.ok (qb, qa)) (by repeat (first | (with_reducible exact HJ.out) | (with_reducible apply Rd.at_) | (with_reducible apply Rd.drewN) | (with_reducible apply Rd.drew) | (with_reducible apply Rd.alloc))) HS1.out).mono ?_); rintro e' w' ⟨rfl, hr, hk⟩; have HJ2 := Aside0.mk hr; have t0 := hr.c0; have t1 := hr.c1; have tf := hr.f1; have HK1 := Aside0.mk hk; clear hr hk))
                      go_wp2_with (first | (go_at_call 31; (with_reducible refine (regex_reader_next.calls w0 _ b s (qa) out c2 (by repeat (first | (with_reducible exact HJ2.out) | (with_reducible apply Rd.at_) | (with_reducible apply Rd.drewN) | (with_reducible apply Rd.drew) | (with_reducible apply Rd.alloc))) HN2.out).mono ?_); rintro e' w' ⟨rfl, ⟨nd2, rfl⟩⟩))
                      go_wp2_with (first | (go_at_call 48; (with_reducible refine (regex_reader_sign.calls w0 _ b s (qa + 1) out _ _ (.error n) (by repeat (first | (with_reducible exact HJ2.out) | (with_reducible apply Rd.at_) | (with_reducible apply Rd.drewN) | (with_reducible apply Rd.drew) | (with_reducible apply Rd.alloc))) HS2.out).mono ?_); rintro e' w' ⟨rfl, ⟨a9, o9, hr⟩, hk⟩; simp only [thrown]))
                      exact ⟨rfl, rfl, a9, o9, hr⟩
                    · have HS2 := Aside0.mk hs2
                      obtain ⟨qb2, qa2⟩ := q2
                      clear hs2
                      by_cases e4 : qb > qb2
                      · rw [if_pos e4] at h
                        obtain rfl := Option.some.inj h
                        obtain rfl := HR.out.1 _ rfl
                        have g4 : decide (qb2 < qb) = true := decide_eq_true e4
                        go_wp2_with (first | (go_at_call 31; (with_reducible refine (regex_reader_next.calls w0 _ b s (a') out c' (by repeat (first | (with_reducible exact HJ.out) | (with_reducible apply Rd.at_) | (with_reducible apply Rd.drewN) | (with_reducible apply Rd.drew) | (with_reducible apply Rd.alloc))) HN'.out).mono ?_); rintro e' w' ⟨rfl, ⟨nd1, rfl⟩⟩))
                        go_wp2_with (first | (go_at_call 48; (with_reducible refine (regex_reader_sign.calls w0 _ b s (a') out _ _ (.ok (qb, qa)) (by repeat (first | (with_reducible exact HJ.out) | (with_reducible apply Rd.at_) | (with_reducible apply Rd.drewN) | (with_reducible apply Rd.drew) | (with_reducible apply Rd.alloc))) HS1.out).mono ?_); rintro e' w' ⟨rfl, hr, hk⟩; have HJ2 := Aside0.mk hr; have t0 := hr.c0; have t1 := hr.c1; have tf := hr.f1; have HK1 := Aside0.mk hk; clear hr hk))
                        go_wp2_with (first | (go_at_call 31; (with_reducible refine (regex_reader_next.calls w0 _ b s (qa) out c2 (by repeat (first | (with_reducible exact HJ2.out) | (with_reducible apply Rd.at_) | (with_reducible apply Rd.drewN) | (with_reducible apply Rd.drew) | (with_reducible apply Rd.alloc))) HN2.out).mono ?_); rintro e' w' ⟨rfl, ⟨nd2, rfl⟩⟩))
                        go_wp2_with (first | (go_at_call 48; (with_reducible refine (regex_reader_sign.calls w0 _ b s (qa + 1) out _ _ (.ok (qb2, qa2)) (by repeat (first | (with_reducible exact HJ2.out) | (with_reducible apply Rd.at_) | (with_reducible apply Rd.drewN) | (with_reducible apply Rd.drew) | (with_reducible apply Rd.alloc))) HS2.out).mono ?_); rintro e' w' ⟨rfl, hr, hk⟩; have HJ3 := Aside0.mk hr; have v0 := hr.c0; have v1 := hr.c1; have vf := hr.f1; have HK2 := Aside0.mk hk; clear hr hk))
                        exact ⟨rfl, rfl, _, out, (by repeat (first | (with_reducible exact HJ3.out) | (with_reducible exact HJ2.out) | (with_reducible apply Rd.at_) | (with_reducible apply Rd.drewN) | (with_reducible apply Rd.drew) | (with_reducible apply Rd.alloc)))⟩
                      · rw [if_neg e4] at h
                        have g4 : decide (qb2 < qb) = false := decide_eq_false e4
                        obtain ⟨⟨o0, o1, o2, o3⟩, ho, h⟩ := Option.bind_eq_some_iff.mp h
                        obtain ⟨⟨s0, s1, s2, s3⟩, hq, h⟩ := Option.bind_eq_some_iff.mp h
                        have HO := Aside0.mk ho
                        have HQ := Aside0.mk hq
                        have HN9 := Aside0.mk h
                        clear ho hq h e4
                        go_wp2_with (first | (go_at_call 31; (with_reducible refine (regex_reader_next.calls w0 _ b s (a') out c' (by repeat (first | (with_reducible exact HJ.out) | (with_reducible apply Rd.at_) | (with_reducible apply Rd.drewN) | (with_reducible apply Rd.drew) | (with_reducible apply Rd.alloc))) HN'.out).mono ?_); rintro e' w' ⟨rfl, ⟨nd1, rfl⟩⟩))
                        go_wp2_with (first | (go_at_call 48; (with_reducible refine (regex_reader_sign.calls w0 _ b s (a') out _ _ (.ok (qb, qa)) (by repeat (first | (with_reducible exact HJ.out) | (with_reducible apply Rd.at_) | (with_reducible apply Rd.drewN) | (with_reducible apply Rd.drew) | (with_reducible apply Rd.alloc))) HS1.out).mono ?_); rintro e' w' ⟨rfl, hr, hk⟩; have HJ2 := Aside0.mk hr; have t0 := hr.c0; have t1 := hr.c1; have tf := hr.f1; have HK1 := Aside0.mk hk; clear hr hk))
                        go_wp2_with (first | (go_at_call 31; (with_reducible refine (regex_reader_next.calls w0 _ b s (qa) out c2 (by repeat (first | (with_reducible exact HJ2.out) | (with_reducible apply Rd.at_) | (with_reducible apply Rd.drewN) | (with_reducible apply Rd.drew) | (with_reducible apply Rd.alloc))) HN2.out).mono ?_); rintro e' w' ⟨rfl, ⟨nd2, rfl⟩⟩))
                        go_wp2_with (first | (go_at_call 48; (with_reducible refine (regex_reader_sign.calls w0 _ b s (qa + 1) out _ _ (.ok (qb2, qa2)) (by repeat (first | (with_reducible exact HJ2.out) | (with_reducible apply Rd.at_) | (with_reducible apply Rd.drewN) | (with_reducible apply Rd.drew) | (with_reducible apply Rd.alloc))) HS2.out).mono ?_); rintro e' w' ⟨rfl, hr, hk⟩; have HJ3 := Aside0.mk hr; have v0 := hr.c0; have v1 := hr.c1; have vf := hr.f1; have HK2 := Aside0.mk hk; clear hr hk))
                        have bp1 := HK1.out.blk (g' := w.heap.size + 1) (o := .cells #[.int .u64 x0, .int .u64 x1, .int .u64 x2, .int .u64 x3] 38 (0, 0)) (by repeat (first | (with_reducible refine blk_drewN ?_ _) | (with_reducible refine blk_drew ?_) | exact BX.out | (refine blk_far ?_ (by first | (simp; done) | (simp; omega) | omega) _))) hne4 (by simp)
                        have bp := HK2.out.blk (g' := w.heap.size + 1) (o := .cells #[.int .u64 x0, .int .u64 x1, .int .u64 x2, .int .u64 x3] 38 (0, 0)) (by repeat (first | (with_reducible refine blk_drewN ?_ _) | (with_reducible refine blk_drew ?_) | exact bp1 | (refine blk_far ?_ (by first | (simp; done) | (simp; omega) | omega) _))) hne4 (by simp)
                        have bz1 := HK1.out.blk (g' := w.heap.size) (o := .cells #[.int .u64 0, .int .u64 0, .int .u64 0, .int .u64 0] 38 (0, 0)) (by repeat (first | (with_reducible refine blk_drewN ?_ _) | (with_reducible refine blk_drew ?_) | exact BY.out | (refine blk_far ?_ (by first | (simp; done) | (simp; omega) | omega) _))) hne3 (by simp)
                        have bz := HK2.out.blk (g' := w.heap.size) (o := .cells #[.int .u64 0, .int .u64 0, .int .u64 0, .int .u64 0] 38 (0, 0)) (by repeat (first | (with_reducible refine blk_drewN ?_ _) | (with_reducible refine blk_drew ?_) | exact bz1 | (refine blk_far ?_ (by first | (simp; done) | (simp; omega) | omega) _))) hne3 (by simp)
                        have BP := Aside0.mk bp
                        have BZ := Aside0.mk bz
                        have ec0 := blk_cell bp 0
                        have ec1 := blk_cell bp 1
                        have ec2 := blk_cell bp 2
                        have ec3 := blk_cell bp 3
                        have ef0 := blk_frozen bp 0
                        have ef1 := blk_frozen bp 1
                        have ef2 := blk_frozen bp 2
                        have ef3 := blk_frozen bp 3
                        simp only [List.getElem?_toArray, List.getElem?_cons_zero, List.getElem?_cons_succ] at ec0 ec1 ec2 ec3
                        clear bp bz bp1 bz1
                        go_region_with (first | (go_at_call 50; (with_reducible refine (bytes_Span.calls kk qb qb2 o0 o1 o2 o3 _ HO.out).mono ?_); rintro e' w' ⟨rfl, hb⟩; have kk4 := bytes_Span.keep4 (p := w.heap.size + 1) (x0 := x0) (x1 := x1) (x2 := x2) (x3 := x3) hb (by unfold bytes_Span.S4; go_keep); obtain ⟨kc0, kc1, kc2, kc3, kc4, kc5, kc6, kc7⟩ := kk4; have HB2 := Aside0.mk hb; clear hb) | (go_at_call 49; (with_reducible refine (bytes_Or.calls x0 x1 x2 x3 o0 o1 o2 o3 s0 s1 s2 s3 _ HQ.out).mono ?_); rintro e' w' ⟨rfl, hb⟩; have kk4 := bytes_Span.keep4 (p := w.heap.size + 1) (x0 := x0) (x1 := x1) (x2 := x2) (x3 := x3) hb (by unfold bytes_Span.S4; go_keep); obtain ⟨kc0, kc1, kc2, kc3, kc4, kc5, kc6, kc7⟩ := kk4; have HB3 := Aside0.mk hb; clear hb))
                        all_goals
                          have e1 := blk_below (g := w.heap.size + 1) (o := .cells #[.int .u64 x0, .int .u64 x1, .int .u64 x2, .int .u64 x3] 38 (0, 0)) (blk_below (g := w.heap.size + 1) (o := .cells #[.int .u64 x0, .int .u64 x1, .int .u64 x2, .int .u64 x3] 38 (0, 0)) (by repeat (first | (with_reducible refine blk_drewN ?_ _) | (with_reducible refine blk_drew ?_) | exact BP.out)) HB2.out) HB3.out
                          have e2 := blk_below (g := w.heap.size) (o := .cells #[.int .u64 0, .int .u64 0, .int .u64 0, .int .u64 0] 38 (0, 0)) (blk_below (g := w.heap.size) (o := .cells #[.int .u64 0, .int .u64 0, .int .u64 0, .int .u64 0] 38 (0, 0)) (by repeat (first | (with_reducible refine blk_drewN ?_ _) | (with_reducible refine blk_drew ?_) | exact BZ.out)) HB2.out) HB3.out
                          have e3 := Rd.below (Rd.below (w0 := w0) (b := b) (s := s) (a := qa2) (out := out) (by repeat (first | (with_reducible exact HJ3.out) | (with_reducible apply Rd.at_) | (with_reducible apply Rd.drewN) | (with_reducible apply Rd.drew) | (with_reducible apply Rd.alloc))) HB2.out) HB3.out
                          have e4 := blk_put (blk_put (blk_put (blk_put e1 0 (.int .u64 s0) rfl) 1 (.int .u64 s1) rfl) 2 (.int .u64 s2) rfl) 3 (.int .u64 s3) rfl
                          have e5 := blk_far (blk_far (blk_far (blk_far e2 (p := ⟨w.heap.size + 1, 0, none⟩) (by simp) (.int .u64 s0)) (p := ⟨w.heap.size + 1, 1, none⟩) (by simp) (.int .u64 s1)) (p := ⟨w.heap.size + 1, 2, none⟩) (by simp) (.int .u64 s2)) (p := ⟨w.heap.size + 1, 3, none⟩) (by simp) (.int .u64 s3)
                          have e6 := Rd.setp4 e3 e1 hne2 (by have := HGE.out; omega) (.int .u64 s0) (.int .u64 s1) (.int .u64 s2) (.int .u64 s3)
                          have E := Aside0.mk (And.intro e6 (And.intro e4 e5))
                          clear e1 e2 e3 e4 e5 e6
                          go_wp2
                          go_roundg kk
                          case measure => omega
                          case rel => exact ⟨false, s0, s1, s2, s3, qa2, rfl, HN9, ⟨E.out.1⟩, ⟨E.out.2⟩⟩
                  · have g3 : (c2 == 45) = false := beq_eq_false_iff_ne.mpr e3
                    have h := HH.out
                    clear HH
                    rw [if_neg e3] at h
                    clear e3
                    replace h : (if qb > qb then some (.error a') else ((bytes_Span.f kk qb qb).bind fun o => (bytes_Or.f x0 x1 x2 x3 o.1 o.2.1 o.2.2.1 o.2.2.2).bind fun r => regex_reader_class.l0 kk s r.1 r.2.1 r.2.2.1 r.2.2.2 false qa)) = some RL := h
                    by_cases e4 : qb > qb
                    · exact absurd e4 (by omega)
                    · rw [if_neg e4] at h
                      have g4 : decide (qb < qb) = false := decide_eq_false e4
                      obtain ⟨⟨o0, o1, o2, o3⟩, ho, h⟩ := Option.bind_eq_some_iff.mp h
                      obtain ⟨⟨s0, s1, s2, s3⟩, hq, h⟩ := Option.bind_eq_some_iff.mp h
                      have HO := Aside0.mk ho
                      have HQ := Aside0.mk hq
                      have HN9 := Aside0.mk h
                      clear ho hq h e4
                      go_wp2_with (first | (go_at_call 31; (with_reducible refine (regex_reader_next.calls w0 _ b s (a') out c' (by repeat (first | (with_reducible exact HJ.out) | (with_reducible apply Rd.at_) | (with_reducible apply Rd.drewN) | (with_reducible apply Rd.drew) | (with_reducible apply Rd.alloc))) HN'.out).mono ?_); rintro e' w' ⟨rfl, ⟨nd1, rfl⟩⟩))
                      go_wp2_with (first | (go_at_call 48; (with_reducible refine (regex_reader_sign.calls w0 _ b s (a') out _ _ (.ok (qb, qa)) (by repeat (first | (with_reducible exact HJ.out) | (with_reducible apply Rd.at_) | (with_reducible apply Rd.drewN) | (with_reducible apply Rd.drew) | (with_reducible apply Rd.alloc))) HS1.out).mono ?_); rintro e' w' ⟨rfl, hr, hk⟩; have HJ2 := Aside0.mk hr; have t0 := hr.c0; have t1 := hr.c1; have tf := hr.f1; have HK1 := Aside0.mk hk; clear hr hk))
                      go_wp2_with (first | (go_at_call 31; (with_reducible refine (regex_reader_next.calls w0 _ b s (qa) out c2 (by repeat (first | (with_reducible exact HJ2.out) | (with_reducible apply Rd.at_) | (with_reducible apply Rd.drewN) | (with_reducible apply Rd.drew) | (with_reducible apply Rd.alloc))) HN2.out).mono ?_); rintro e' w' ⟨rfl, ⟨nd2, rfl⟩⟩))
                      have bp1 := HK1.out.blk (g' := w.heap.size + 1) (o := .cells #[.int .u64 x0, .int .u64 x1, .int .u64 x2, .int .u64 x3] 38 (0, 0)) (by repeat (first | (with_reducible refine blk_drewN ?_ _) | (with_reducible refine blk_drew ?_) | exact BX.out | (refine blk_far ?_ (by first | (simp; done) | (simp; omega) | omega) _))) hne4 (by simp)
                      have bp := bp1
                      have bz1 := HK1.out.blk (g' := w.heap.size) (o := .cells #[.int .u64 0, .int .u64 0, .int .u64 0, .int .u64 0] 38 (0, 0)) (by repeat (first | (with_reducible refine blk_drewN ?_ _) | (with_reducible refine blk_drew ?_) | exact BY.out | (refine blk_far ?_ (by first | (simp; done) | (simp; omega) | omega) _))) hne3 (by simp)
                      have bz := bz1
                      have BP := Aside0.mk bp
                      have BZ := Aside0.mk bz
                      have ec0 := blk_cell bp 0
                      have ec1 := blk_cell bp 1
                      have ec2 := blk_cell bp 2
                      have ec3 := blk_cell bp 3
                      have ef0 := blk_frozen bp 0
                      have ef1 := blk_frozen bp 1
                      have ef2 := blk_frozen bp 2
                      have ef3 := blk_frozen bp 3
                      simp only [List.getElem?_toArray, List.getElem?_cons_zero, List.getElem?_cons_succ] at ec0 ec1 ec2 ec3
                      clear bp bz bp1 bz1
                      go_region_with (first | (go_at_call 50; (with_reducible refine (bytes_Span.calls kk qb qb o0 o1 o2 o3 _ HO.out).mono ?_); rintro e' w' ⟨rfl, hb⟩; have kk4 := bytes_Span.keep4 (p := w.heap.size + 1) (x0 := x0) (x1 := x1) (x2 := x2) (x3 := x3) hb (by unfold bytes_Span.S4; go_keep); obtain ⟨kc0, kc1, kc2, kc3, kc4, kc5, kc6, kc7⟩ := kk4; have HB2 := Aside0.mk hb; clear hb) | (go_at_call 49; (with_reducible refine (bytes_Or.calls x0 x1 x2 x3 o0 o1 o2 o3 s0 s1 s2 s3 _ HQ.out).mono ?_); rintro e' w' ⟨rfl, hb⟩; have kk4 := bytes_Span.keep4 (p := w.heap.size + 1) (x0 := x0) (x1 := x1) (x2 := x2) (x3 := x3) hb (by unfold bytes_Span.S4; go_keep); obtain ⟨kc0, kc1, kc2, kc3, kc4, kc5, kc6, kc7⟩ := kk4; have HB3 := Aside0.mk hb; clear hb))
                      all_goals
                        have e1 := blk_below (g := w.heap.size + 1) (o := .cells #[.int .u64 x0, .int .u64 x1, .int .u64 x2, .int .u64 x3] 38 (0, 0)) (blk_below (g := w.heap.size + 1) (o := .cells #[.int .u64 x0, .int .u64 x1, .int .u64 x2, .int .u64 x3] 38 (0, 0)) (by repeat (first | (with_reducible refine blk_drewN ?_ _) | (with_reducible refine blk_drew ?_) | exact BP.out)) HB2.out) HB3.out
                        have e2 := blk_below (g := w.heap.size) (o := .cells #[.int .u64 0, .int .u64 0, .int .u64 0, .int .u64 0] 38 (0, 0)) (blk_below (g := w.heap.size) (o := .cells #[.int .u64 0, .int .u64 0, .int .u64 0, .int .u64 0] 38 (0, 0)) (by repeat (first | (with_reducible refine blk_drewN ?_ _) | (with_reducible refine blk_drew ?_) | exact BZ.out)) HB2.out) HB3.out
                        have e3 := Rd.below (Rd.below (w0 := w0) (b := b) (s := s) (a := qa) (out := out) (by repeat (first | (with_reducible exact HJ2.out) | (with_reducible apply Rd.at_) | (with_reducible apply Rd.drewN) | (with_reducible apply Rd.drew) | (with_reducible apply Rd.alloc))) HB2.out) HB3.out
                        have e4 := blk_put (blk_put (blk_put (blk_put e1 0 (.int .u64 s0) rfl) 1 (.int .u64 s1) rfl) 2 (.int .u64 s2) rfl) 3 (.int .u64 s3) rfl
                        have e5 := blk_far (blk_far (blk_far (blk_far e2 (p := ⟨w.heap.size + 1, 0, none⟩) (by simp) (.int .u64 s0)) (p := ⟨w.heap.size + 1, 1, none⟩) (by simp) (.int .u64 s1)) (p := ⟨w.heap.size + 1, 2, none⟩) (by simp) (.int .u64 s2)) (p := ⟨w.heap.size + 1, 3, none⟩) (by simp) (.int .u64 s3)
                        have e6 := Rd.setp4 e3 e1 hne2 (by have := HGE.out; omega) (.int .u64 s0) (.int .u64 s1) (.int .u64 s2) (.int .u64 s3)
                        have E := Aside0.mk (And.intro e6 (And.intro e4 e5))
                        clear e1 e2 e3 e4 e5 e6
                        go_wp2
                        go_roundg kk
                        case measure => omega
                        case rel => exact ⟨false, s0, s1, s2, s3, qa, rfl, HN9, ⟨E.out.1⟩, ⟨E.out.2⟩⟩
    · rw [if_neg k1] at HL
      have d1 : (c == 94) = false := beq_eq_false_iff_ne.mpr k1
      simp only [decide_eq_false k1] at HR
      clear k1
      go_enter Tryd.func47, Tryd.ntmps47
      go_wp2_with (first | (go_at_call 31; (with_reducible refine (regex_reader_next.calls w0 _ b s (a + 1) out c (by repeat (first | (with_reducible exact HI.out) | (with_reducible apply Rd.at_) | (with_reducible apply Rd.drewN) | (with_reducible apply Rd.drew) | (with_reducible apply Rd.alloc))) HN.out).mono ?_); rintro e' w' ⟨rfl, ⟨nd, rfl⟩⟩))
      go_loopg [6] k (fun kq v6 w' => ∃ (first : Bool) (x0 x1 x2 x3 a' : Int), v6 = .bool first ∧ Aside0 (regex_reader_class.l0 kq s x0 x1 x2 x3 first a' = some RL) ∧ Aside0 (Rd w0 w' b s a' out) ∧ Aside0 (regex_reader_class.Box w' (w.heap.size + 1) x0 x1 x2 x3 ∧ regex_reader_class.Box w' w.heap.size 0 0 0 0))
      case atStart =>
        exact ⟨true, 0, 0, 0, 0, _, rfl, HL, ⟨Rd.cast (by repeat (first | (with_reducible exact HI.out) | (with_reducible apply Rd.at_) | (with_reducible apply Rd.drewN) | (with_reducible apply Rd.drew) | (with_reducible apply Rd.alloc))) (by omega)⟩, ⟨(by unfold regex_reader_class.Box; repeat (first | (with_reducible refine blk_drewN ?_ _) | (with_reducible refine blk_drew ?_) | (refine regex_reader_class.blk_new _ _ _ ?_; focus (simp; done)) | (with_reducible refine blk_alloc ?_ _) | (refine blk_far ?_ (by first | (simp; done) | (simp; omega) | omega) _))), (by unfold regex_reader_class.Box; repeat (first | (with_reducible refine blk_drewN ?_ _) | (with_reducible refine blk_drew ?_) | (refine regex_reader_class.blk_new _ _ _ ?_; focus (simp; done)) | (with_reducible refine blk_alloc ?_ _) | (refine blk_far ?_ (by first | (simp; done) | (simp; omega) | omega) _)))⟩⟩
      case round =>
        obtain ⟨first, x0, x1, x2, x3, a', rfl, HA, HJ, HX⟩ := hrel
        cases gk with
        | zero => exact absurd HA.out (by simp [regex_reader_class.l0])
        | succ kk =>
          have h0 := HA.out
          clear HA
          simp only [regex_reader_class.l0] at h0
          obtain ⟨c', hn', h⟩ := Option.bind_eq_some_iff.mp h0
          clear h0
          obtain ⟨q1, q2, q3, q4, q5, q6⟩ := regex_reader_next.bd hn'
          have HN' := Aside0.mk hn'
          have hj := HJ.out
          have j0 := hj.c0
          have j1 := hj.c1
          have jf := hj.f1
          obtain ⟨bx, by0⟩ := HX.out
          unfold regex_reader_class.Box at bx by0
          have BX := Aside0.mk bx
          have BY := Aside0.mk by0
          have pc0 := blk_cell bx 0
          have pc1 := blk_cell bx 1
          have pc2 := blk_cell bx 2
          have pc3 := blk_cell bx 3
          have pf0 := blk_frozen bx 0
          have pf1 := blk_frozen bx 1
          have pf2 := blk_frozen bx 2
          have pf3 := blk_frozen bx 3
          simp only [List.getElem?_toArray, List.getElem?_cons_zero, List.getElem?_cons_succ] at pc0 pc1 pc2 pc3
          have zc0 := blk_cell by0 0
          have zc1 := blk_cell by0 1
          have zc2 := blk_cell by0 2
          have zc3 := blk_cell by0 3
          have zf0 := blk_frozen by0 0
          have zf1 := blk_frozen by0 1
          have zf2 := blk_frozen by0 2
          have zf3 := blk_frozen by0 3
          simp only [List.getElem?_toArray, List.getElem?_cons_zero, List.getElem?_cons_succ] at zc0 zc1 zc2 zc3
          clear hn' q5 q6 hj bx by0 HX
          by_cases e1 : first = false ∧ c' = 93
          · rw [if_pos e1] at h
            obtain rfl := Option.some.inj h
            obtain ⟨rfl, e2⟩ := e1
            have hfin := HR.out.2 _ rfl
            have g1 : (c' != 93) = false := bne_eq_false_iff_eq.mpr e2
            unfold regex_reader_class.fin at hfin
            rw [if_neg (by decide), Option.bind_some] at hfin
            by_cases z0 : x0 = 0 ∧ x1 = 0 ∧ x2 = 0 ∧ x3 = 0
            · rw [if_pos z0] at hfin
              obtain rfl := Option.some.inj hfin
              obtain ⟨rfl, rfl, rfl, rfl⟩ := z0
              go_wp2_with (first | (go_at_call 31; (with_reducible refine (regex_reader_next.calls w0 _ b s (a') out c' (by repeat (first | (with_reducible exact HJ.out) | (with_reducible apply Rd.at_) | (with_reducible apply Rd.drewN) | (with_reducible apply Rd.drew) | (with_reducible apply Rd.alloc))) HN'.out).mono ?_); rintro e' w' ⟨rfl, ⟨nd1, rfl⟩⟩))
              refine ⟨rfl, rfl, a' + 1, out, ?_⟩
              repeat (first | (with_reducible exact HJ.out) | (with_reducible apply Rd.at_) | (with_reducible apply Rd.drewN) | (with_reducible apply Rd.drew) | (with_reducible apply Rd.alloc))
            · rw [if_neg z0] at hfin
              obtain rfl := Option.some.inj hfin
              have gz : (x0 == 0 && (x1 == 0 && (x2 == 0 && (x3 == 0)))) = false := by rw [Bool.eq_false_iff]; intro hh; simp at hh; exact z0 hh
              clear z0
              go_wp2_with (first | (go_at_call 31; (with_reducible refine (regex_reader_next.calls w0 _ b s (a') out c' (by repeat (first | (with_reducible exact HJ.out) | (with_reducible apply Rd.at_) | (with_reducible apply Rd.drewN) | (with_reducible apply Rd.drew) | (with_reducible apply Rd.alloc))) HN'.out).mono ?_); rintro e' w' ⟨rfl, ⟨nd1, rfl⟩⟩))
              refine bodyPost_ret (v := .agg #[.int .u64 x0, .int .u64 x1, .int .u64 x2, .int .u64 x3]) (by simp [results, Tryd.results47, go_sem, *]) rfl ⟨rfl, ?_⟩
              refine Rd.setp4 (p := w.heap.size) ?_ (by repeat (first | (with_reducible refine blk_drewN ?_ _) | (with_reducible refine blk_drew ?_) | exact BX.out | exact BY.out | (refine blk_far ?_ (by first | (simp; done) | (simp; omega) | omega) _))) hne1 (by have := HGE.out; omega) _ _ _ _
              repeat (first | (with_reducible exact HJ.out) | (with_reducible apply Rd.at_) | (with_reducible apply Rd.drewN) | (with_reducible apply Rd.drew) | (with_reducible apply Rd.alloc))
          · rw [if_neg e1] at h
            cases first
            case false =>
              have g1 : (c' != 93) = true := bne_iff_ne.mpr (fun hh => e1 ⟨rfl, hh⟩)
              clear e1
              by_cases e2 : c' < 0
              · rw [if_pos e2] at h
                obtain rfl := Option.some.inj h
                obtain rfl := HR.out.1 _ rfl
                have g2 : decide (c' < 0) = true := decide_eq_true e2
                go_wp2_with (first | (go_at_call 31; (with_reducible refine (regex_reader_next.calls w0 _ b s (a') out c' (by repeat (first | (with_reducible exact HJ.out) | (with_reducible apply Rd.at_) | (with_reducible apply Rd.drewN) | (with_reducible apply Rd.drew) | (with_reducible apply Rd.alloc))) HN'.out).mono ?_); rintro e' w' ⟨rfl, ⟨nd1, rfl⟩⟩))
                exact ⟨rfl, rfl, _, out, (by repeat (first | (with_reducible exact HJ.out) | (with_reducible apply Rd.at_) | (with_reducible apply Rd.drewN) | (with_reducible apply Rd.drew) | (with_reducible apply Rd.alloc)))⟩
              · rw [if_neg e2] at h
                have g2 : decide (c' < 0) = false := decide_eq_false e2
                rcases Ex_some h with ⟨n, hs1, rfl⟩ | ⟨q, hs1, h⟩
                · have HS1 := Aside0.mk hs1
                  obtain rfl := HR.out.1 _ rfl
                  clear h hs1
                  go_wp2_with (first | (go_at_call 31; (with_reducible refine (regex_reader_next.calls w0 _ b s (a') out c' (by repeat (first | (with_reducible exact HJ.out) | (with_reducible apply Rd.at_) | (with_reducible apply Rd.drewN) | (with_reducible apply Rd.drew) | (with_reducible apply Rd.alloc))) HN'.out).mono ?_); rintro e' w' ⟨rfl, ⟨nd1, rfl⟩⟩) | (go_at_call 48; (with_reducible refine (regex_reader_sign.calls w0 _ b s (a') out _ _ (.error n) (by repeat (first | (with_reducible exact HJ.out) | (with_reducible apply Rd.at_) | (with_reducible apply Rd.drewN) | (with_reducible apply Rd.drew) | (with_reducible apply Rd.alloc))) HS1.out).mono ?_); rintro e' w' ⟨rfl, ⟨a9, o9, hr⟩, hk⟩; simp only [thrown]))
                  exact ⟨rfl, rfl, a9, o9, hr⟩
                · have HS1 := Aside0.mk hs1
                  obtain ⟨qb, qa⟩ := q
                  obtain ⟨c2, hn2, h⟩ := Option.bind_eq_some_iff.mp h
                  obtain ⟨r1, r2, r3, r4, r5, r6⟩ := regex_reader_next.bd hn2
                  have HN2 := Aside0.mk hn2
                  have HH := Aside0.mk h
                  clear h hs1 hn2 r5 r6
                  by_cases e3 : c2 = 45
                  · have g3 : (c2 == 45) = true := beq_iff_eq.mpr e3
                    have h := HH.out
                    clear HH
                    rw [if_pos e3] at h
                    clear e3
                    rcases Ex_some h with ⟨n, hs2, rfl⟩ | ⟨q2, hs2, h⟩
                    · have HS2 := Aside0.mk hs2
                      obtain rfl := HR.out.1 _ rfl
                      clear h hs2
                      go_wp2_with (first | (go_at_call 31; (with_reducible refine (regex_reader_next.calls w0 _ b s (a') out c' (by repeat (first | (with_reducible exact HJ.out) | (with_reducible apply Rd.at_) | (with_reducible apply Rd.drewN) | (with_reducible apply Rd.drew) | (with_reducible apply Rd.alloc))) HN'.out).mono ?_); rintro e' w' ⟨rfl, ⟨nd1, rfl⟩⟩))
                      go_wp2_with (first | (go_at_call 48; (with_reducible refine (regex_reader_sign.calls w0 _ b s (a') out _ _ (.ok (qb, qa)) (by repeat (first | (with_reducible exact HJ.out) | (with_reducible apply Rd.at_) | (with_reducible apply Rd.drewN) | (with_reducible apply Rd.drew) | (with_reducible apply Rd.alloc))) HS1.out).mono ?_); rintro e' w' ⟨rfl, hr, hk⟩; have HJ2 := Aside0.mk hr; have t0 := hr.c0; have t1 := hr.c1; have tf := hr.f1; have HK1 := Aside0.mk hk; clear hr hk))
                      go_wp2_with (first | (go_at_call 31; (with_reducible refine (regex_reader_next.calls w0 _ b s (qa) out c2 (by repeat (first | (with_reducible exact HJ2.out) | (with_reducible apply Rd.at_) | (with_reducible apply Rd.drewN) | (with_reducible apply Rd.drew) | (with_reducible apply Rd.alloc))) HN2.out).mono ?_); rintro e' w' ⟨rfl, ⟨nd2, rfl⟩⟩))
                      go_wp2_with (first | (go_at_call 48; (with_reducible refine (regex_reader_sign.calls w0 _ b s (qa + 1) out _ _ (.error n) (by repeat (first | (with_reducible exact HJ2.out) | (with_reducible apply Rd.at_) | (with_reducible apply Rd.drewN) | (with_reducible apply Rd.drew) | (with_reducible apply Rd.alloc))) HS2.out).mono ?_); rintro e' w' ⟨rfl, ⟨a9, o9, hr⟩, hk⟩; simp only [thrown]))
                      exact ⟨rfl, rfl, a9, o9, hr⟩
                    · have HS2 := Aside0.mk hs2
                      obtain ⟨qb2, qa2⟩ := q2
                      clear hs2
                      by_cases e4 : qb > qb2
                      · rw [if_pos e4] at h
                        obtain rfl := Option.some.inj h
                        obtain rfl := HR.out.1 _ rfl
                        have g4 : decide (qb2 < qb) = true := decide_eq_true e4
                        go_wp2_with (first | (go_at_call 31; (with_reducible refine (regex_reader_next.calls w0 _ b s (a') out c' (by repeat (first | (with_reducible exact HJ.out) | (with_reducible apply Rd.at_) | (with_reducible apply Rd.drewN) | (with_reducible apply Rd.drew) | (with_reducible apply Rd.alloc))) HN'.out).mono ?_); rintro e' w' ⟨rfl, ⟨nd1, rfl⟩⟩))
                        go_wp2_with (first | (go_at_call 48; (with_reducible refine (regex_reader_sign.calls w0 _ b s (a') out _ _ (.ok (qb, qa)) (by repeat (first | (with_reducible exact HJ.out) | (with_reducible apply Rd.at_) | (with_reducible apply Rd.drewN) | (with_reducible apply Rd.drew) | (with_reducible apply Rd.alloc))) HS1.out).mono ?_); rintro e' w' ⟨rfl, hr, hk⟩; have HJ2 := Aside0.mk hr; have t0 := hr.c0; have t1 := hr.c1; have tf := hr.f1; have HK1 := Aside0.mk hk; clear hr hk))
                        go_wp2_with (first | (go_at_call 31; (with_reducible refine (regex_reader_next.calls w0 _ b s (qa) out c2 (by repeat (first | (with_reducible exact HJ2.out) | (with_reducible apply Rd.at_) | (with_reducible apply Rd.drewN) | (with_reducible apply Rd.drew) | (with_reducible apply Rd.alloc))) HN2.out).mono ?_); rintro e' w' ⟨rfl, ⟨nd2, rfl⟩⟩))
                        go_wp2_with (first | (go_at_call 48; (with_reducible refine (regex_reader_sign.calls w0 _ b s (qa + 1) out _ _ (.ok (qb2, qa2)) (by repeat (first | (with_reducible exact HJ2.out) | (with_reducible apply Rd.at_) | (with_reducible apply Rd.drewN) | (with_reducible apply Rd.drew) | (with_reducible apply Rd.alloc))) HS2.out).mono ?_); rintro e' w' ⟨rfl, hr, hk⟩; have HJ3 := Aside0.mk hr; have v0 := hr.c0; have v1 := hr.c1; have vf := hr.f1; have HK2 := Aside0.mk hk; clear hr hk))
                        exact ⟨rfl, rfl, _, out, (by repeat (first | (with_reducible exact HJ3.out) | (with_reducible exact HJ2.out) | (with_reducible apply Rd.at_) | (with_reducible apply Rd.drewN) | (with_reducible apply Rd.drew) | (with_reducible apply Rd.alloc)))⟩
                      · rw [if_neg e4] at h
                        have g4 : decide (qb2 < qb) = false := decide_eq_false e4
                        obtain ⟨⟨o0, o1, o2, o3⟩, ho, h⟩ := Option.bind_eq_some_iff.mp h
                        obtain ⟨⟨s0, s1, s2, s3⟩, hq, h⟩ := Option.bind_eq_some_iff.mp h
                        have HO := Aside0.mk ho
                        have HQ := Aside0.mk hq
                        have HN9 := Aside0.mk h
                        clear ho hq h e4
                        go_wp2_with (first | (go_at_call 31; (with_reducible refine (regex_reader_next.calls w0 _ b s (a') out c' (by repeat (first | (with_reducible exact HJ.out) | (with_reducible apply Rd.at_) | (with_reducible apply Rd.drewN) | (with_reducible apply Rd.drew) | (with_reducible apply Rd.alloc))) HN'.out).mono ?_); rintro e' w' ⟨rfl, ⟨nd1, rfl⟩⟩))
                        go_wp2_with (first | (go_at_call 48; (with_reducible refine (regex_reader_sign.calls w0 _ b s (a') out _ _ (.ok (qb, qa)) (by repeat (first | (with_reducible exact HJ.out) | (with_reducible apply Rd.at_) | (with_reducible apply Rd.drewN) | (with_reducible apply Rd.drew) | (with_reducible apply Rd.alloc))) HS1.out).mono ?_); rintro e' w' ⟨rfl, hr, hk⟩; have HJ2 := Aside0.mk hr; have t0 := hr.c0; have t1 := hr.c1; have tf := hr.f1; have HK1 := Aside0.mk hk; clear hr hk))
                        go_wp2_with (first | (go_at_call 31; (with_reducible refine (regex_reader_next.calls w0 _ b s (qa) out c2 (by repeat (first | (with_reducible exact HJ2.out) | (with_reducible apply Rd.at_) | (with_reducible apply Rd.drewN) | (with_reducible apply Rd.drew) | (with_reducible apply Rd.alloc))) HN2.out).mono ?_); rintro e' w' ⟨rfl, ⟨nd2, rfl⟩⟩))
                        go_wp2_with (first | (go_at_call 48; (with_reducible refine (regex_reader_sign.calls w0 _ b s (qa + 1) out _ _ (.ok (qb2, qa2)) (by repeat (first | (with_reducible exact HJ2.out) | (with_reducible apply Rd.at_) | (with_reducible apply Rd.drewN) | (with_reducible apply Rd.drew) | (with_reducible apply Rd.alloc))) HS2.out).mono ?_); rintro e' w' ⟨rfl, hr, hk⟩; have HJ3 := Aside0.mk hr; have v0 := hr.c0; have v1 := hr.c1; have vf := hr.f1; have HK2 := Aside0.mk hk; clear hr hk))
                        have bp1 := HK1.out.blk (g' := w.heap.size + 1) (o := .cells #[.int .u64 x0, .int .u64 x1, .int .u64 x2, .int .u64 x3] 38 (0, 0)) (by repeat (first | (with_reducible refine blk_drewN ?_ _) | (with_reducible refine blk_drew ?_) | exact BX.out | (refine blk_far ?_ (by first | (simp; done) | (simp; omega) | omega) _))) hne4 (by simp)
                        have bp := HK2.out.blk (g' := w.heap.size + 1) (o := .cells #[.int .u64 x0, .int .u64 x1, .int .u64 x2, .int .u64 x3] 38 (0, 0)) (by repeat (first | (with_reducible refine blk_drewN ?_ _) | (with_reducible refine blk_drew ?_) | exact bp1 | (refine blk_far ?_ (by first | (simp; done) | (simp; omega) | omega) _))) hne4 (by simp)
                        have bz1 := HK1.out.blk (g' := w.heap.size) (o := .cells #[.int .u64 0, .int .u64 0, .int .u64 0, .int .u64 0] 38 (0, 0)) (by repeat (first | (with_reducible refine blk_drewN ?_ _) | (with_reducible refine blk_drew ?_) | exact BY.out | (refine blk_far ?_ (by first | (simp; done) | (simp; omega) | omega) _))) hne3 (by simp)
                        have bz := HK2.out.blk (g' := w.heap.size) (o := .cells #[.int .u64 0, .int .u64 0, .int .u64 0, .int .u64 0] 38 (0, 0)) (by repeat (first | (with_reducible refine blk_drewN ?_ _) | (with_reducible refine blk_drew ?_) | exact bz1 | (refine blk_far ?_ (by first | (simp; done) | (simp; omega) | omega) _))) hne3 (by simp)
                        have BP := Aside0.mk bp
                        have BZ := Aside0.mk bz
                        have ec0 := blk_cell bp 0
                        have ec1 := blk_cell bp 1
                        have ec2 := blk_cell bp 2
                        have ec3 := blk_cell bp 3
                        have ef0 := blk_frozen bp 0
                        have ef1 := blk_frozen bp 1
                        have ef2 := blk_frozen bp 2
                        have ef3 := blk_frozen bp 3
                        simp only [List.getElem?_toArray, List.getElem?_cons_zero, List.getElem?_cons_succ] at ec0 ec1 ec2 ec3
                        clear bp bz bp1 bz1
                        go_region_with (first | (go_at_call 50; (with_reducible refine (bytes_Span.calls kk qb qb2 o0 o1 o2 o3 _ HO.out).mono ?_); rintro e' w' ⟨rfl, hb⟩; have kk4 := bytes_Span.keep4 (p := w.heap.size + 1) (x0 := x0) (x1 := x1) (x2 := x2) (x3 := x3) hb (by unfold bytes_Span.S4; go_keep); obtain ⟨kc0, kc1, kc2, kc3, kc4, kc5, kc6, kc7⟩ := kk4; have HB2 := Aside0.mk hb; clear hb) | (go_at_call 49; (with_reducible refine (bytes_Or.calls x0 x1 x2 x3 o0 o1 o2 o3 s0 s1 s2 s3 _ HQ.out).mono ?_); rintro e' w' ⟨rfl, hb⟩; have kk4 := bytes_Span.keep4 (p := w.heap.size + 1) (x0 := x0) (x1 := x1) (x2 := x2) (x3 := x3) hb (by unfold bytes_Span.S4; go_keep); obtain ⟨kc0, kc1, kc2, kc3, kc4, kc5, kc6, kc7⟩ := kk4; have HB3 := Aside0.mk hb; clear hb))
                        all_goals
                          have e1 := blk_below (g := w.heap.size + 1) (o := .cells #[.int .u64 x0, .int .u64 x1, .int .u64 x2, .int .u64 x3] 38 (0, 0)) (blk_below (g := w.heap.size + 1) (o := .cells #[.int .u64 x0, .int .u64 x1, .int .u64 x2, .int .u64 x3] 38 (0, 0)) (by repeat (first | (with_reducible refine blk_drewN ?_ _) | (with_reducible refine blk_drew ?_) | exact BP.out)) HB2.out) HB3.out
                          have e2 := blk_below (g := w.heap.size) (o := .cells #[.int .u64 0, .int .u64 0, .int .u64 0, .int .u64 0] 38 (0, 0)) (blk_below (g := w.heap.size) (o := .cells #[.int .u64 0, .int .u64 0, .int .u64 0, .int .u64 0] 38 (0, 0)) (by repeat (first | (with_reducible refine blk_drewN ?_ _) | (with_reducible refine blk_drew ?_) | exact BZ.out)) HB2.out) HB3.out
                          have e3 := Rd.below (Rd.below (w0 := w0) (b := b) (s := s) (a := qa2) (out := out) (by repeat (first | (with_reducible exact HJ3.out) | (with_reducible apply Rd.at_) | (with_reducible apply Rd.drewN) | (with_reducible apply Rd.drew) | (with_reducible apply Rd.alloc))) HB2.out) HB3.out
                          have e4 := blk_put (blk_put (blk_put (blk_put e1 0 (.int .u64 s0) rfl) 1 (.int .u64 s1) rfl) 2 (.int .u64 s2) rfl) 3 (.int .u64 s3) rfl
                          have e5 := blk_far (blk_far (blk_far (blk_far e2 (p := ⟨w.heap.size + 1, 0, none⟩) (by simp) (.int .u64 s0)) (p := ⟨w.heap.size + 1, 1, none⟩) (by simp) (.int .u64 s1)) (p := ⟨w.heap.size + 1, 2, none⟩) (by simp) (.int .u64 s2)) (p := ⟨w.heap.size + 1, 3, none⟩) (by simp) (.int .u64 s3)
                          have e6 := Rd.setp4 e3 e1 hne2 (by have := HGE.out; omega) (.int .u64 s0) (.int .u64 s1) (.int .u64 s2) (.int .u64 s3)
                          have E := Aside0.mk (And.intro e6 (And.intro e4 e5))
                          clear e1 e2 e3 e4 e5 e6
                          go_wp2
                          go_roundg kk
                          case measure => omega
                          case rel => exact ⟨false, s0, s1, s2, s3, qa2, rfl, HN9, ⟨E.out.1⟩, ⟨E.out.2⟩⟩
                  · have g3 : (c2 == 45) = false := beq_eq_false_iff_ne.mpr e3
                    have h := HH.out
                    clear HH
                    rw [if_neg e3] at h
                    clear e3
                    replace h : (if qb > qb then some (.error a') else ((bytes_Span.f kk qb qb).bind fun o => (bytes_Or.f x0 x1 x2 x3 o.1 o.2.1 o.2.2.1 o.2.2.2).bind fun r => regex_reader_class.l0 kk s r.1 r.2.1 r.2.2.1 r.2.2.2 false qa)) = some RL := h
                    by_cases e4 : qb > qb
                    · exact absurd e4 (by omega)
                    · rw [if_neg e4] at h
                      have g4 : decide (qb < qb) = false := decide_eq_false e4
                      obtain ⟨⟨o0, o1, o2, o3⟩, ho, h⟩ := Option.bind_eq_some_iff.mp h
                      obtain ⟨⟨s0, s1, s2, s3⟩, hq, h⟩ := Option.bind_eq_some_iff.mp h
                      have HO := Aside0.mk ho
                      have HQ := Aside0.mk hq
                      have HN9 := Aside0.mk h
                      clear ho hq h e4
                      go_wp2_with (first | (go_at_call 31; (with_reducible refine (regex_reader_next.calls w0 _ b s (a') out c' (by repeat (first | (with_reducible exact HJ.out) | (with_reducible apply Rd.at_) | (with_reducible apply Rd.drewN) | (with_reducible apply Rd.drew) | (with_reducible apply Rd.alloc))) HN'.out).mono ?_); rintro e' w' ⟨rfl, ⟨nd1, rfl⟩⟩))
                      go_wp2_with (first | (go_at_call 48; (with_reducible refine (regex_reader_sign.calls w0 _ b s (a') out _ _ (.ok (qb, qa)) (by repeat (first | (with_reducible exact HJ.out) | (with_reducible apply Rd.at_) | (with_reducible apply Rd.drewN) | (with_reducible apply Rd.drew) | (with_reducible apply Rd.alloc))) HS1.out).mono ?_); rintro e' w' ⟨rfl, hr, hk⟩; have HJ2 := Aside0.mk hr; have t0 := hr.c0; have t1 := hr.c1; have tf := hr.f1; have HK1 := Aside0.mk hk; clear hr hk))
                      go_wp2_with (first | (go_at_call 31; (with_reducible refine (regex_reader_next.calls w0 _ b s (qa) out c2 (by repeat (first | (with_reducible exact HJ2.out) | (with_reducible apply Rd.at_) | (with_reducible apply Rd.drewN) | (with_reducible apply Rd.drew) | (with_reducible apply Rd.alloc))) HN2.out).mono ?_); rintro e' w' ⟨rfl, ⟨nd2, rfl⟩⟩))
                      have bp1 := HK1.out.blk (g' := w.heap.size + 1) (o := .cells #[.int .u64 x0, .int .u64 x1, .int .u64 x2, .int .u64 x3] 38 (0, 0)) (by repeat (first | (with_reducible refine blk_drewN ?_ _) | (with_reducible refine blk_drew ?_) | exact BX.out | (refine blk_far ?_ (by first | (simp; done) | (simp; omega) | omega) _))) hne4 (by simp)
                      have bp := bp1
                      have bz1 := HK1.out.blk (g' := w.heap.size) (o := .cells #[.int .u64 0, .int .u64 0, .int .u64 0, .int .u64 0] 38 (0, 0)) (by repeat (first | (with_reducible refine blk_drewN ?_ _) | (with_reducible refine blk_drew ?_) | exact BY.out | (refine blk_far ?_ (by first | (simp; done) | (simp; omega) | omega) _))) hne3 (by simp)
                      have bz := bz1
                      have BP := Aside0.mk bp
                      have BZ := Aside0.mk bz
                      have ec0 := blk_cell bp 0
                      have ec1 := blk_cell bp 1
                      have ec2 := blk_cell bp 2
                      have ec3 := blk_cell bp 3
                      have ef0 := blk_frozen bp 0
                      have ef1 := blk_frozen bp 1
                      have ef2 := blk_frozen bp 2
                      have ef3 := blk_frozen bp 3
                      simp only [List.getElem?_toArray, List.getElem?_cons_zero, List.getElem?_cons_succ] at ec0 ec1 ec2 ec3
                      clear bp bz bp1 bz1
                      go_region_with (first | (go_at_call 50; (with_reducible refine (bytes_Span.calls kk qb qb o0 o1 o2 o3 _ HO.out).mono ?_); rintro e' w' ⟨rfl, hb⟩; have kk4 := bytes_Span.keep4 (p := w.heap.size + 1) (x0 := x0) (x1 := x1) (x2 := x2) (x3 := x3) hb (by unfold bytes_Span.S4; go_keep); obtain ⟨kc0, kc1, kc2, kc3, kc4, kc5, kc6, kc7⟩ := kk4; have HB2 := Aside0.mk hb; clear hb) | (go_at_call 49; (with_reducible refine (bytes_Or.calls x0 x1 x2 x3 o0 o1 o2 o3 s0 s1 s2 s3 _ HQ.out).mono ?_); rintro e' w' ⟨rfl, hb⟩; have kk4 := bytes_Span.keep4 (p := w.heap.size + 1) (x0 := x0) (x1 := x1) (x2 := x2) (x3 := x3) hb (by unfold bytes_Span.S4; go_keep); obtain ⟨kc0, kc1, kc2, kc3, kc4, kc5, kc6, kc7⟩ := kk4; have HB3 := Aside0.mk hb; clear hb))
                      all_goals
                        have e1 := blk_below (g := w.heap.size + 1) (o := .cells #[.int .u64 x0, .int .u64 x1, .int .u64 x2, .int .u64 x3] 38 (0, 0)) (blk_below (g := w.heap.size + 1) (o := .cells #[.int .u64 x0, .int .u64 x1, .int .u64 x2, .int .u64 x3] 38 (0, 0)) (by repeat (first | (with_reducible refine blk_drewN ?_ _) | (with_reducible refine blk_drew ?_) | exact BP.out)) HB2.out) HB3.out
                        have e2 := blk_below (g := w.heap.size) (o := .cells #[.int .u64 0, .int .u64 0, .int .u64 0, .int .u64 0] 38 (0, 0)) (blk_below (g := w.heap.size) (o := .cells #[.int .u64 0, .int .u64 0, .int .u64 0, .int .u64 0] 38 (0, 0)) (by repeat (first | (with_reducible refine blk_drewN ?_ _) | (with_reducible refine blk_drew ?_) | exact BZ.out)) HB2.out) HB3.out
                        have e3 := Rd.below (Rd.below (w0 := w0) (b := b) (s := s) (a := qa) (out := out) (by repeat (first | (with_reducible exact HJ2.out) | (with_reducible apply Rd.at_) | (with_reducible apply Rd.drewN) | (with_reducible apply Rd.drew) | (with_reducible apply Rd.alloc))) HB2.out) HB3.out
                        have e4 := blk_put (blk_put (blk_put (blk_put e1 0 (.int .u64 s0) rfl) 1 (.int .u64 s1) rfl) 2 (.int .u64 s2) rfl) 3 (.int .u64 s3) rfl
                        have e5 := blk_far (blk_far (blk_far (blk_far e2 (p := ⟨w.heap.size + 1, 0, none⟩) (by simp) (.int .u64 s0)) (p := ⟨w.heap.size + 1, 1, none⟩) (by simp) (.int .u64 s1)) (p := ⟨w.heap.size + 1, 2, none⟩) (by simp) (.int .u64 s2)) (p := ⟨w.heap.size + 1, 3, none⟩) (by simp) (.int .u64 s3)
                        have e6 := Rd.setp4 e3 e1 hne2 (by have := HGE.out; omega) (.int .u64 s0) (.int .u64 s1) (.int .u64 s2) (.int .u64 s3)
                        have E := Aside0.mk (And.intro e6 (And.intro e4 e5))
                        clear e1 e2 e3 e4 e5 e6
                        go_wp2
                        go_roundg kk
                        case measure => omega
                        case rel => exact ⟨false, s0, s1, s2, s3, qa, rfl, HN9, ⟨E.out.1⟩, ⟨E.out.2⟩⟩
            case true =>
              clear e1
              by_cases e2 : c' < 0
              · rw [if_pos e2] at h
                obtain rfl := Option.some.inj h
                obtain rfl := HR.out.1 _ rfl
                have g2 : decide (c' < 0) = true := decide_eq_true e2
                go_wp2_with (first | (go_at_call 31; (with_reducible refine (regex_reader_next.calls w0 _ b s (a') out c' (by repeat (first | (with_reducible exact HJ.out) | (with_reducible apply Rd.at_) | (with_reducible apply Rd.drewN) | (with_reducible apply Rd.drew) | (with_reducible apply Rd.alloc))) HN'.out).mono ?_); rintro e' w' ⟨rfl, ⟨nd1, rfl⟩⟩))
                exact ⟨rfl, rfl, _, out, (by repeat (first | (with_reducible exact HJ.out) | (with_reducible apply Rd.at_) | (with_reducible apply Rd.drewN) | (with_reducible apply Rd.drew) | (with_reducible apply Rd.alloc)))⟩
              · rw [if_neg e2] at h
                have g2 : decide (c' < 0) = false := decide_eq_false e2
                rcases Ex_some h with ⟨n, hs1, rfl⟩ | ⟨q, hs1, h⟩
                · have HS1 := Aside0.mk hs1
                  obtain rfl := HR.out.1 _ rfl
                  clear h hs1
                  go_wp2_with (first | (go_at_call 31; (with_reducible refine (regex_reader_next.calls w0 _ b s (a') out c' (by repeat (first | (with_reducible exact HJ.out) | (with_reducible apply Rd.at_) | (with_reducible apply Rd.drewN) | (with_reducible apply Rd.drew) | (with_reducible apply Rd.alloc))) HN'.out).mono ?_); rintro e' w' ⟨rfl, ⟨nd1, rfl⟩⟩) | (go_at_call 48; (with_reducible refine (regex_reader_sign.calls w0 _ b s (a') out _ _ (.error n) (by repeat (first | (with_reducible exact HJ.out) | (with_reducible apply Rd.at_) | (with_reducible apply Rd.drewN) | (with_reducible apply Rd.drew) | (with_reducible apply Rd.alloc))) HS1.out).mono ?_); rintro e' w' ⟨rfl, ⟨a9, o9, hr⟩, hk⟩; simp only [thrown]))
                  exact ⟨rfl, rfl, a9, o9, hr⟩
                · have HS1 := Aside0.mk hs1
                  obtain ⟨qb, qa⟩ := q
                  obtain ⟨c2, hn2, h⟩ := Option.bind_eq_some_iff.mp h
                  obtain ⟨r1, r2, r3, r4, r5, r6⟩ := regex_reader_next.bd hn2
                  have HN2 := Aside0.mk hn2
                  have HH := Aside0.mk h
                  clear h hs1 hn2 r5 r6
                  by_cases e3 : c2 = 45
                  · have g3 : (c2 == 45) = true := beq_iff_eq.mpr e3
                    have h := HH.out
                    clear HH
                    rw [if_pos e3] at h
                    clear e3
                    rcases Ex_some h with ⟨n, hs2, rfl⟩ | ⟨q2, hs2, h⟩
                    · have HS2 := Aside0.mk hs2
                      obtain rfl := HR.out.1 _ rfl
                      clear h hs2
                      go_wp2_with (first | (go_at_call 31; (with_reducible refine (regex_reader_next.calls w0 _ b s (a') out c' (by repeat (first | (with_reducible exact HJ.out) | (with_reducible apply Rd.at_) | (with_reducible apply Rd.drewN) | (with_reducible apply Rd.drew) | (with_reducible apply Rd.alloc))) HN'.out).mono ?_); rintro e' w' ⟨rfl, ⟨nd1, rfl⟩⟩))
                      go_wp2_with (first | (go_at_call 48; (with_reducible refine (regex_reader_sign.calls w0 _ b s (a') out _ _ (.ok (qb, qa)) (by repeat (first | (with_reducible exact HJ.out) | (with_reducible apply Rd.at_) | (with_reducible apply Rd.drewN) | (with_reducible apply Rd.drew) | (with_reducible apply Rd.alloc))) HS1.out).mono ?_); rintro e' w' ⟨rfl, hr, hk⟩; have HJ2 := Aside0.mk hr; have t0 := hr.c0; have t1 := hr.c1; have tf := hr.f1; have HK1 := Aside0.mk hk; clear hr hk))
                      go_wp2_with (first | (go_at_call 31; (with_reducible refine (regex_reader_next.calls w0 _ b s (qa) out c2 (by repeat (first | (with_reducible exact HJ2.out) | (with_reducible apply Rd.at_) | (with_reducible apply Rd.drewN) | (with_reducible apply Rd.drew) | (with_reducible apply Rd.alloc))) HN2.out).mono ?_); rintro e' w' ⟨rfl, ⟨nd2, rfl⟩⟩))
                      go_wp2_with (first | (go_at_call 48; (with_reducible refine (regex_reader_sign.calls w0 _ b s (qa + 1) out _ _ (.error n) (by repeat (first | (with_reducible exact HJ2.out) | (with_reducible apply Rd.at_) | (with_reducible apply Rd.drewN) | (with_reducible apply Rd.drew) | (with_reducible apply Rd.alloc))) HS2.out).mono ?_); rintro e' w' ⟨rfl, ⟨a9, o9, hr⟩, hk⟩; simp only [thrown]))
                      exact ⟨rfl, rfl, a9, o9, hr⟩
                    · have HS2 := Aside0.mk hs2
                      obtain ⟨qb2, qa2⟩ := q2
                      clear hs2
                      by_cases e4 : qb > qb2
                      · rw [if_pos e4] at h
                        obtain rfl := Option.some.inj h
                        obtain rfl := HR.out.1 _ rfl
                        have g4 : decide (qb2 < qb) = true := decide_eq_true e4
                        go_wp2_with (first | (go_at_call 31; (with_reducible refine (regex_reader_next.calls w0 _ b s (a') out c' (by repeat (first | (with_reducible exact HJ.out) | (with_reducible apply Rd.at_) | (with_reducible apply Rd.drewN) | (with_reducible apply Rd.drew) | (with_reducible apply Rd.alloc))) HN'.out).mono ?_); rintro e' w' ⟨rfl, ⟨nd1, rfl⟩⟩))
                        go_wp2_with (first | (go_at_call 48; (with_reducible refine (regex_reader_sign.calls w0 _ b s (a') out _ _ (.ok (qb, qa)) (by repeat (first | (with_reducible exact HJ.out) | (with_reducible apply Rd.at_) | (with_reducible apply Rd.drewN) | (with_reducible apply Rd.drew) | (with_reducible apply Rd.alloc))) HS1.out).mono ?_); rintro e' w' ⟨rfl, hr, hk⟩; have HJ2 := Aside0.mk hr; have t0 := hr.c0; have t1 := hr.c1; have tf := hr.f1; have HK1 := Aside0.mk hk; clear hr hk))
                        go_wp2_with (first | (go_at_call 31; (with_reducible refine (regex_reader_next.calls w0 _ b s (qa) out c2 (by repeat (first | (with_reducible exact HJ2.out) | (with_reducible apply Rd.at_) | (with_reducible apply Rd.drewN) | (with_reducible apply Rd.drew) | (with_reducible apply Rd.alloc))) HN2.out).mono ?_); rintro e' w' ⟨rfl, ⟨nd2, rfl⟩⟩))
                        go_wp2_with (first | (go_at_call 48; (with_reducible refine (regex_reader_sign.calls w0 _ b s (qa + 1) out _ _ (.ok (qb2, qa2)) (by repeat (first | (with_reducible exact HJ2.out) | (with_reducible apply Rd.at_) | (with_reducible apply Rd.drewN) | (with_reducible apply Rd.drew) | (with_reducible apply Rd.alloc))) HS2.out).mono ?_); rintro e' w' ⟨rfl, hr, hk⟩; have HJ3 := Aside0.mk hr; have v0 := hr.c0; have v1 := hr.c1; have vf := hr.f1; have HK2 := Aside0.mk hk; clear hr hk))
                        exact ⟨rfl, rfl, _, out, (by repeat (first | (with_reducible exact HJ3.out) | (with_reducible exact HJ2.out) | (with_reducible apply Rd.at_) | (with_reducible apply Rd.drewN) | (with_reducible apply Rd.drew) | (with_reducible apply Rd.alloc)))⟩
                      · rw [if_neg e4] at h
                        have g4 : decide (qb2 < qb) = false := decide_eq_false e4
                        obtain ⟨⟨o0, o1, o2, o3⟩, ho, h⟩ := Option.bind_eq_some_iff.mp h
                        obtain ⟨⟨s0, s1, s2, s3⟩, hq, h⟩ := Option.bind_eq_some_iff.mp h
                        have HO := Aside0.mk ho
                        have HQ := Aside0.mk hq
                        have HN9 := Aside0.mk h
                        clear ho hq h e4
                        go_wp2_with (first | (go_at_call 31; (with_reducible refine (regex_reader_next.calls w0 _ b s (a') out c' (by repeat (first | (with_reducible exact HJ.out) | (with_reducible apply Rd.at_) | (with_reducible apply Rd.drewN) | (with_reducible apply Rd.drew) | (with_reducible apply Rd.alloc))) HN'.out).mono ?_); rintro e' w' ⟨rfl, ⟨nd1, rfl⟩⟩))
                        go_wp2_with (first | (go_at_call 48; (with_reducible refine (regex_reader_sign.calls w0 _ b s (a') out _ _ (.ok (qb, qa)) (by repeat (first | (with_reducible exact HJ.out) | (with_reducible apply Rd.at_) | (with_reducible apply Rd.drewN) | (with_reducible apply Rd.drew) | (with_reducible apply Rd.alloc))) HS1.out).mono ?_); rintro e' w' ⟨rfl, hr, hk⟩; have HJ2 := Aside0.mk hr; have t0 := hr.c0; have t1 := hr.c1; have tf := hr.f1; have HK1 := Aside0.mk hk; clear hr hk))
                        go_wp2_with (first | (go_at_call 31; (with_reducible refine (regex_reader_next.calls w0 _ b s (qa) out c2 (by repeat (first | (with_reducible exact HJ2.out) | (with_reducible apply Rd.at_) | (with_reducible apply Rd.drewN) | (with_reducible apply Rd.drew) | (with_reducible apply Rd.alloc))) HN2.out).mono ?_); rintro e' w' ⟨rfl, ⟨nd2, rfl⟩⟩))
                        go_wp2_with (first | (go_at_call 48; (with_reducible refine (regex_reader_sign.calls w0 _ b s (qa + 1) out _ _ (.ok (qb2, qa2)) (by repeat (first | (with_reducible exact HJ2.out) | (with_reducible apply Rd.at_) | (with_reducible apply Rd.drewN) | (with_reducible apply Rd.drew) | (with_reducible apply Rd.alloc))) HS2.out).mono ?_); rintro e' w' ⟨rfl, hr, hk⟩; have HJ3 := Aside0.mk hr; have v0 := hr.c0; have v1 := hr.c1; have vf := hr.f1; have HK2 := Aside0.mk hk; clear hr hk))
                        have bp1 := HK1.out.blk (g' := w.heap.size + 1) (o := .cells #[.int .u64 x0, .int .u64 x1, .int .u64 x2, .int .u64 x3] 38 (0, 0)) (by repeat (first | (with_reducible refine blk_drewN ?_ _) | (with_reducible refine blk_drew ?_) | exact BX.out | (refine blk_far ?_ (by first | (simp; done) | (simp; omega) | omega) _))) hne4 (by simp)
                        have bp := HK2.out.blk (g' := w.heap.size + 1) (o := .cells #[.int .u64 x0, .int .u64 x1, .int .u64 x2, .int .u64 x3] 38 (0, 0)) (by repeat (first | (with_reducible refine blk_drewN ?_ _) | (with_reducible refine blk_drew ?_) | exact bp1 | (refine blk_far ?_ (by first | (simp; done) | (simp; omega) | omega) _))) hne4 (by simp)
                        have bz1 := HK1.out.blk (g' := w.heap.size) (o := .cells #[.int .u64 0, .int .u64 0, .int .u64 0, .int .u64 0] 38 (0, 0)) (by repeat (first | (with_reducible refine blk_drewN ?_ _) | (with_reducible refine blk_drew ?_) | exact BY.out | (refine blk_far ?_ (by first | (simp; done) | (simp; omega) | omega) _))) hne3 (by simp)
                        have bz := HK2.out.blk (g' := w.heap.size) (o := .cells #[.int .u64 0, .int .u64 0, .int .u64 0, .int .u64 0] 38 (0, 0)) (by repeat (first | (with_reducible refine blk_drewN ?_ _) | (with_reducible refine blk_drew ?_) | exact bz1 | (refine blk_far ?_ (by first | (simp; done) | (simp; omega) | omega) _))) hne3 (by simp)
                        have BP := Aside0.mk bp
                        have BZ := Aside0.mk bz
                        have ec0 := blk_cell bp 0
                        have ec1 := blk_cell bp 1
                        have ec2 := blk_cell bp 2
                        have ec3 := blk_cell bp 3
                        have ef0 := blk_frozen bp 0
                        have ef1 := blk_frozen bp 1
                        have ef2 := blk_frozen bp 2
                        have ef3 := blk_frozen bp 3
                        simp only [List.getElem?_toArray, List.getElem?_cons_zero, List.getElem?_cons_succ] at ec0 ec1 ec2 ec3
                        clear bp bz bp1 bz1
                        go_region_with (first | (go_at_call 50; (with_reducible refine (bytes_Span.calls kk qb qb2 o0 o1 o2 o3 _ HO.out).mono ?_); rintro e' w' ⟨rfl, hb⟩; have kk4 := bytes_Span.keep4 (p := w.heap.size + 1) (x0 := x0) (x1 := x1) (x2 := x2) (x3 := x3) hb (by unfold bytes_Span.S4; go_keep); obtain ⟨kc0, kc1, kc2, kc3, kc4, kc5, kc6, kc7⟩ := kk4; have HB2 := Aside0.mk hb; clear hb) | (go_at_call 49; (with_reducible refine (bytes_Or.calls x0 x1 x2 x3 o0 o1 o2 o3 s0 s1 s2 s3 _ HQ.out).mono ?_); rintro e' w' ⟨rfl, hb⟩; have kk4 := bytes_Span.keep4 (p := w.heap.size + 1) (x0 := x0) (x1 := x1) (x2 := x2) (x3 := x3) hb (by unfold bytes_Span.S4; go_keep); obtain ⟨kc0, kc1, kc2, kc3, kc4, kc5, kc6, kc7⟩ := kk4; have HB3 := Aside0.mk hb; clear hb))
                        all_goals
                          have e1 := blk_below (g := w.heap.size + 1) (o := .cells #[.int .u64 x0, .int .u64 x1, .int .u64 x2, .int .u64 x3] 38 (0, 0)) (blk_below (g := w.heap.size + 1) (o := .cells #[.int .u64 x0, .int .u64 x1, .int .u64 x2, .int .u64 x3] 38 (0, 0)) (by repeat (first | (with_reducible refine blk_drewN ?_ _) | (with_reducible refine blk_drew ?_) | exact BP.out)) HB2.out) HB3.out
                          have e2 := blk_below (g := w.heap.size) (o := .cells #[.int .u64 0, .int .u64 0, .int .u64 0, .int .u64 0] 38 (0, 0)) (blk_below (g := w.heap.size) (o := .cells #[.int .u64 0, .int .u64 0, .int .u64 0, .int .u64 0] 38 (0, 0)) (by repeat (first | (with_reducible refine blk_drewN ?_ _) | (with_reducible refine blk_drew ?_) | exact BZ.out)) HB2.out) HB3.out
                          have e3 := Rd.below (Rd.below (w0 := w0) (b := b) (s := s) (a := qa2) (out := out) (by repeat (first | (with_reducible exact HJ3.out) | (with_reducible apply Rd.at_) | (with_reducible apply Rd.drewN) | (with_reducible apply Rd.drew) | (with_reducible apply Rd.alloc))) HB2.out) HB3.out
                          have e4 := blk_put (blk_put (blk_put (blk_put e1 0 (.int .u64 s0) rfl) 1 (.int .u64 s1) rfl) 2 (.int .u64 s2) rfl) 3 (.int .u64 s3) rfl
                          have e5 := blk_far (blk_far (blk_far (blk_far e2 (p := ⟨w.heap.size + 1, 0, none⟩) (by simp) (.int .u64 s0)) (p := ⟨w.heap.size + 1, 1, none⟩) (by simp) (.int .u64 s1)) (p := ⟨w.heap.size + 1, 2, none⟩) (by simp) (.int .u64 s2)) (p := ⟨w.heap.size + 1, 3, none⟩) (by simp) (.int .u64 s3)
                          have e6 := Rd.setp4 e3 e1 hne2 (by have := HGE.out; omega) (.int .u64 s0) (.int .u64 s1) (.int .u64 s2) (.int .u64 s3)
                          have E := Aside0.mk (And.intro e6 (And.intro e4 e5))
                          clear e1 e2 e3 e4 e5 e6
                          go_wp2
                          go_roundg kk
                          case measure => omega
                          case rel => exact ⟨false, s0, s1, s2, s3, qa2, rfl, HN9, ⟨E.out.1⟩, ⟨E.out.2⟩⟩
                  · have g3 : (c2 == 45) = false := beq_eq_false_iff_ne.mpr e3
                    have h := HH.out
                    clear HH
                    rw [if_neg e3] at h
                    clear e3
                    replace h : (if qb > qb then some (.error a') else ((bytes_Span.f kk qb qb).bind fun o => (bytes_Or.f x0 x1 x2 x3 o.1 o.2.1 o.2.2.1 o.2.2.2).bind fun r => regex_reader_class.l0 kk s r.1 r.2.1 r.2.2.1 r.2.2.2 false qa)) = some RL := h
                    by_cases e4 : qb > qb
                    · exact absurd e4 (by omega)
                    · rw [if_neg e4] at h
                      have g4 : decide (qb < qb) = false := decide_eq_false e4
                      obtain ⟨⟨o0, o1, o2, o3⟩, ho, h⟩ := Option.bind_eq_some_iff.mp h
                      obtain ⟨⟨s0, s1, s2, s3⟩, hq, h⟩ := Option.bind_eq_some_iff.mp h
                      have HO := Aside0.mk ho
                      have HQ := Aside0.mk hq
                      have HN9 := Aside0.mk h
                      clear ho hq h e4
                      go_wp2_with (first | (go_at_call 31; (with_reducible refine (regex_reader_next.calls w0 _ b s (a') out c' (by repeat (first | (with_reducible exact HJ.out) | (with_reducible apply Rd.at_) | (with_reducible apply Rd.drewN) | (with_reducible apply Rd.drew) | (with_reducible apply Rd.alloc))) HN'.out).mono ?_); rintro e' w' ⟨rfl, ⟨nd1, rfl⟩⟩))
                      go_wp2_with (first | (go_at_call 48; (with_reducible refine (regex_reader_sign.calls w0 _ b s (a') out _ _ (.ok (qb, qa)) (by repeat (first | (with_reducible exact HJ.out) | (with_reducible apply Rd.at_) | (with_reducible apply Rd.drewN) | (with_reducible apply Rd.drew) | (with_reducible apply Rd.alloc))) HS1.out).mono ?_); rintro e' w' ⟨rfl, hr, hk⟩; have HJ2 := Aside0.mk hr; have t0 := hr.c0; have t1 := hr.c1; have tf := hr.f1; have HK1 := Aside0.mk hk; clear hr hk))
                      go_wp2_with (first | (go_at_call 31; (with_reducible refine (regex_reader_next.calls w0 _ b s (qa) out c2 (by repeat (first | (with_reducible exact HJ2.out) | (with_reducible apply Rd.at_) | (with_reducible apply Rd.drewN) | (with_reducible apply Rd.drew) | (with_reducible apply Rd.alloc))) HN2.out).mono ?_); rintro e' w' ⟨rfl, ⟨nd2, rfl⟩⟩))
                      have bp1 := HK1.out.blk (g' := w.heap.size + 1) (o := .cells #[.int .u64 x0, .int .u64 x1, .int .u64 x2, .int .u64 x3] 38 (0, 0)) (by repeat (first | (with_reducible refine blk_drewN ?_ _) | (with_reducible refine blk_drew ?_) | exact BX.out | (refine blk_far ?_ (by first | (simp; done) | (simp; omega) | omega) _))) hne4 (by simp)
                      have bp := bp1
                      have bz1 := HK1.out.blk (g' := w.heap.size) (o := .cells #[.int .u64 0, .int .u64 0, .int .u64 0, .int .u64 0] 38 (0, 0)) (by repeat (first | (with_reducible refine blk_drewN ?_ _) | (with_reducible refine blk_drew ?_) | exact BY.out | (refine blk_far ?_ (by first | (simp; done) | (simp; omega) | omega) _))) hne3 (by simp)
                      have bz := bz1
                      have BP := Aside0.mk bp
                      have BZ := Aside0.mk bz
                      have ec0 := blk_cell bp 0
                      have ec1 := blk_cell bp 1
                      have ec2 := blk_cell bp 2
                      have ec3 := blk_cell bp 3
                      have ef0 := blk_frozen bp 0
                      have ef1 := blk_frozen bp 1
                      have ef2 := blk_frozen bp 2
                      have ef3 := blk_frozen bp 3
                      simp only [List.getElem?_toArray, List.getElem?_cons_zero, List.getElem?_cons_succ] at ec0 ec1 ec2 ec3
                      clear bp bz bp1 bz1
                      go_region_with (first | (go_at_call 50; (with_reducible refine (bytes_Span.calls kk qb qb o0 o1 o2 o3 _ HO.out).mono ?_); rintro e' w' ⟨rfl, hb⟩; have kk4 := bytes_Span.keep4 (p := w.heap.size + 1) (x0 := x0) (x1 := x1) (x2 := x2) (x3 := x3) hb (by unfold bytes_Span.S4; go_keep); obtain ⟨kc0, kc1, kc2, kc3, kc4, kc5, kc6, kc7⟩ := kk4; have HB2 := Aside0.mk hb; clear hb) | (go_at_call 49; (with_reducible refine (bytes_Or.calls x0 x1 x2 x3 o0 o1 o2 o3 s0 s1 s2 s3 _ HQ.out).mono ?_); rintro e' w' ⟨rfl, hb⟩; have kk4 := bytes_Span.keep4 (p := w.heap.size + 1) (x0 := x0) (x1 := x1) (x2 := x2) (x3 := x3) hb (by unfold bytes_Span.S4; go_keep); obtain ⟨kc0, kc1, kc2, kc3, kc4, kc5, kc6, kc7⟩ := kk4; have HB3 := Aside0.mk hb; clear hb))
                      all_goals
                        have e1 := blk_below (g := w.heap.size + 1) (o := .cells #[.int .u64 x0, .int .u64 x1, .int .u64 x2, .int .u64 x3] 38 (0, 0)) (blk_below (g := w.heap.size + 1) (o := .cells #[.int .u64 x0, .int .u64 x1, .int .u64 x2, .int .u64 x3] 38 (0, 0)) (by repeat (first | (with_reducible refine blk_drewN ?_ _) | (with_reducible refine blk_drew ?_) | exact BP.out)) HB2.out) HB3.out
                        have e2 := blk_below (g := w.heap.size) (o := .cells #[.int .u64 0, .int .u64 0, .int .u64 0, .int .u64 0] 38 (0, 0)) (blk_below (g := w.heap.size) (o := .cells #[.int .u64 0, .int .u64 0, .int .u64 0, .int .u64 0] 38 (0, 0)) (by repeat (first | (with_reducible refine blk_drewN ?_ _) | (with_reducible refine blk_drew ?_) | exact BZ.out)) HB2.out) HB3.out
                        have e3 := Rd.below (Rd.below (w0 := w0) (b := b) (s := s) (a := qa) (out := out) (by repeat (first | (with_reducible exact HJ2.out) | (with_reducible apply Rd.at_) | (with_reducible apply Rd.drewN) | (with_reducible apply Rd.drew) | (with_reducible apply Rd.alloc))) HB2.out) HB3.out
                        have e4 := blk_put (blk_put (blk_put (blk_put e1 0 (.int .u64 s0) rfl) 1 (.int .u64 s1) rfl) 2 (.int .u64 s2) rfl) 3 (.int .u64 s3) rfl
                        have e5 := blk_far (blk_far (blk_far (blk_far e2 (p := ⟨w.heap.size + 1, 0, none⟩) (by simp) (.int .u64 s0)) (p := ⟨w.heap.size + 1, 1, none⟩) (by simp) (.int .u64 s1)) (p := ⟨w.heap.size + 1, 2, none⟩) (by simp) (.int .u64 s2)) (p := ⟨w.heap.size + 1, 3, none⟩) (by simp) (.int .u64 s3)
                        have e6 := Rd.setp4 e3 e1 hne2 (by have := HGE.out; omega) (.int .u64 s0) (.int .u64 s1) (.int .u64 s2) (.int .u64 s3)
                        have E := Aside0.mk (And.intro e6 (And.intro e4 e5))
                        clear e1 e2 e3 e4 e5 e6
                        go_wp2
                        go_roundg kk
                        case measure => omega
                        case rel => exact ⟨false, s0, s1, s2, s3, qa, rfl, HN9, ⟨E.out.1⟩, ⟨E.out.2⟩⟩
  · rw [if_neg hs] at h
    cases h

end Go.Proofs.YtkabcjchgaokoaaDoor.PSj
