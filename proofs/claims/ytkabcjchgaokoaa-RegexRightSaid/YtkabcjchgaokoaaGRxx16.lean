/- Proved here: what the functions below come to: walks printed by a program, over contracts of this claim. -/
import Derived.Test.YtkabcjchgaokoaaGRxx0
import Derived.Test.YtkabcjchgaokoaaGRxx13
namespace Go.Proofs.Ytkabcjchgaokoaa.PRx
open Go.RowKit Go.Proofs.YtkabcjchgaokoaaW.PrintWords Go.Proofs.YtkabcjchgaokoaaW.PrintLast Go.Proofs.YtkabcjchgaokoaaW.PrintMore
attribute [local go_sem] max2_int min2_int max_two min_two max_three min_three max_four min_four   -- for this text's walks alone
set_option linter.unusedVariables false
set_option linter.unusedSimpArgs false

/-! ### regex_Null: function 11 -/
def regex_Null.step (st : List Bool) (op : Int) : Option (List Bool) :=
  if op = 1 then some (st ++ [false]) else if op = 2 then some (st ++ [true]) else if op = 5 ∨ op = 7 then (if 1 ≤ st.length then some (st.set (st.length - 1) true) else none)
  else if op = 3 then (if 2 ≤ st.length then some (st.take (st.length - 2) ++ [st.getD (st.length - 2) false && st.getD (st.length - 1) false]) else none)
  else if op = 4 then (if 2 ≤ st.length then some (st.take (st.length - 2) ++ [st.getD (st.length - 2) false || st.getD (st.length - 1) false]) else none)
  else some st
def regex_Null.l0 : Nat → List S32 → List Bool → Int → Option Bool
  | 0, _, _, _ => none
  | k + 1, l, st, i => if i < (l.length : Int) then (if 0 ≤ i ∧ st.length < 1000000 then (regex_Null.step st (rd_T32 l i).f0).bind fun st' => regex_Null.l0 k l st' (i + 1) else none) else (if 0 < st.length then some (st.getD 0 false) else none)
def regex_Null.f (k : Nat) (l : List S32) : Option Bool := (regex_Right.f k l).bind fun t => if t = true then regex_Null.l0 k l [] 0 else some false
theorem regex_Null.mono_l : ∀ k, (∀ y0 y1 y2, LeO (regex_Null.l0 k y0 y1 y2) (regex_Null.l0 (k + 1) y0 y1 y2))
  | 0 => fun _ _ _ r h => by rw [regex_Null.l0] at h; cases h
  | k + 1 => by
    have ih0 := regex_Null.mono_l k
    intro y0 y1 y2
    rw [regex_Null.l0, regex_Null.l0]
    repeat' first
    | (with_reducible exact ih0 _ _ _)
    | (with_reducible exact LeO.refl _)
    | (with_reducible refine LeO.ite ?_ ?_)
    | (with_reducible refine LeO.bind ?_ (fun _ => ?_))
theorem regex_Null.mono : ∀ l k, LeO (regex_Null.f k l) (regex_Null.f (k + 1) l) := by
  intro l k
  have ih0 := regex_Null.mono_l k
  unfold regex_Null.f
  repeat' first
  | (with_reducible exact ih0 _ _ _)
  | (with_reducible exact regex_Right.mono _ _)
  | (with_reducible exact LeO.refl _)
  | (with_reducible refine LeO.ite ?_ ?_)
  | (with_reducible refine LeO.bind ?_ (fun _ => ?_))
theorem regex_Null.info4 : (Try.prog.info? 4).map (fun i => (i.zero, i.size, i.bytes)) = some (some (.bool false), 1, 1) := by kernel_rfl
theorem regex_Null.form {w : World} {base : Nat} {ok : Nat → Prop} {A : Option Addr} {n c : Nat} {xs : List Bool} (h : Kd.R Kd.bool 4 w base ok (.slice A n c) xs) (hp : 0 < xs.length) :
    ∃ g, A = some ⟨g, 0, none⟩ ∧ base ≤ g ∧ (∃ cells, w.heap[g]? = some (.cells cells 4 (0, 0))) ∧ ∀ j x, xs[j]? = some x → w.cell? ⟨g, j, none⟩ = some (.bool x) := by
  obtain ⟨inner, ho⟩ := Kd.R_own h
  obtain ⟨A', c', he, _, hC⟩ := Kd.R_reads h
  injection he with e1 e2 e3
  subst e1 e2 e3
  obtain ⟨ad, ha, hcell⟩ := hC.2.2 hp
  rcases ho.2 with ⟨h1, _⟩ | ⟨g, cap, cur, h1, hg, hh, _⟩
  · injection h1 with e1 e2 e3
    omega
  · injection h1 with e1 e2 e3
    subst e1
    cases ha
    refine ⟨g, rfl, hg, ⟨cur, hh⟩, fun j x hj => ?_⟩
    obtain ⟨cs, _, hcs, hc⟩ := hcell j x hj
    have hcs' : cs = [.bool x] := hcs
    subst hcs'
    have := hc 0 (.bool x) rfl
    rcases Nat.eq_zero_or_pos j with rfl | hj0
    · simpa [Addr.add, Kd.bool, Kd.scalar] using this
    · have hne : j ≠ 0 := by omega
      simpa [Addr.add, Kd.bool, Kd.scalar, hne] using this
theorem regex_Null.snoc {α : Type} (l : List α) (h : 1 ≤ l.length) : ∃ s x, l = s ++ [x] := by
  have hne : l ≠ [] := by intro e; rw [e] at h; simp at h
  exact ⟨l.dropLast, l.getLast hne, (List.dropLast_concat_getLast hne).symm⟩
theorem regex_Null.drew_alloc (W : World) (o : Obj) : (W.alloc o).drew = W.drew.alloc o := rfl
set_option maxHeartbeats 8000000 in
set_option maxRecDepth 100000 in
theorem regex_Null.calls (k : Nat) (A0 : Option Addr) (c0 : Nat) (l0 : List S32) (r : Bool) (w : World) (hr0 : Kd.C k32 w A0 l0.length l0) (hc0 : l0.length ≤ c0) (h : regex_Null.f k l0 = some r) :
    Calls Try.prog 11 #[.slice A0 l0.length c0] w fun e w' => e = .returned (.bool r) ∧ Below w.heap.size w w' := by
  unfold regex_Null.f at h
  obtain ⟨t, ht, h⟩ := Option.bind_eq_some_iff.mp h
  have HT := Aside0.mk ht
  have HC := Aside0.mk hr0
  have HC0 := Aside0.mk hc0
  have HL := Aside0.mk h
  have hlen : l0.length ≤ 9223372036854775807 := by have := hr0.2.1; omega
  clear ht hr0 hc0 h
  cases t with
  | false =>
    have h := HL.out
    rw [if_neg (by decide)] at h
    obtain rfl := Option.some.inj h
    clear h
    go_enter Try.func11, Try.ntmps11
    go_wp2_with fail
    (go_at_call 9; (with_reducible refine (regex_Right.calls k _ _ l0 false _ HC.out HC0.out HT.out).mono ?_); rintro e' w' ⟨rfl, hb⟩; have HB := Aside0.mk hb; clear hb)
    go_wp2_with fail
    go_ret
    exact ⟨rfl, HB.out⟩
  | true =>
    have h := HL.out
    rw [if_pos rfl] at h
    have HL2 := Aside0.mk h
    clear h HL
    go_enter Try.func11, Try.ntmps11
    go_wp2_with fail
    (go_at_call 9; (with_reducible refine (regex_Right.calls k _ _ l0 true _ HC.out HC0.out HT.out).mono ?_); rintro e' w' ⟨rfl, hb⟩; have HB := Aside0.mk hb; clear hb)
    go_wp2_with fail
    go_loopg [3, 12] k (fun kq v3 v12 w' => ∃ (u3 : Value) (st : List Bool) (i : Int), v3 = u3 ∧ v12 = .int .i64 i ∧ Aside0 (regex_Null.l0 kq l0 st i = some r) ∧ Aside0 (Kd.R Kd.bool 4 w' w.heap.size (fun _ => True) u3 st) ∧ Aside0 (Below w.heap.size w w'))
    case atStart => exact ⟨_, [], 0, rfl, rfl, HL2, ⟨Kd.R_nil _ _ _ _ _⟩, HB⟩
    case round =>
      obtain ⟨u3, st, i, rfl, rfl, HA, HR, HB⟩ := hrel
      cases gk with
      | zero => exact absurd HA.out (by simp [regex_Null.l0])
      | succ kk =>
        have h0 := HA.out
        clear HA
        rw [regex_Null.l0] at h0
        obtain ⟨A, cc, rfl⟩ := Kd.R_slice HR.out
        by_cases d0 : i < (l0.length : Int)
        · rw [if_pos d0] at h0
          by_cases d1 : 0 ≤ i ∧ st.length < 1000000
          · rw [if_pos d1] at h0
            obtain ⟨st', hs, h0⟩ := Option.bind_eq_some_iff.mp h0
            have HN := Aside0.mk h0
            obtain ⟨d2, d3⟩ := d1
            obtain ⟨ad, ead, x0, x1, x2, x3, x4⟩ := at_T32 (Kd.C_below HC.out HB.out) i d2 d0
            cases ead
            have e0 : decide (i < (l0.length : Int)) = true := decide_eq_true d0
            have p := eq_true d2
            have q := eq_true d0
            have st3 : (st.length : Int) < 1000000 := by omega
            unfold regex_Null.step at hs
            clear h0
            by_cases o1 : (rd_T32 l0 i).f0 = 1
            · rw [if_pos o1] at hs
              obtain rfl := Option.some.inj hs
              have g1 : ((rd_T32 l0 i).f0 == 1) = true := beq_iff_eq.mpr o1
              clear hs
              go_wp2_with (first | ((with_reducible refine gate_builtin (b := .append) (xs := #[.tmp 22, .tmp 23]) rfl ?_); at_builtin; refine Kd.R_append Kd.bool (w0 := w) w.heap.size rfl (.tmp 22) (.tmp 23) 42 4 (.bool false) 1 rfl Try.underlying42 regex_Null.info4 rfl (by decide) (by decide) (.slice A st.length cc) st false [.bool false] (fun _ => True) (fun _ => False) rfl (by first | (go_simp; done) | (go_simp; rfl)) ?aP (fun _ hk => hk.elim) ?aF ?aO ?aB ?aS ?aL ?_; (case aP => exact rfl); (case aF => exact (fun _ _ => trivial)); (case aO => exact (by (with_reducible repeat (first | apply Kd.R_alloc | apply Kd.R_drewN | apply Kd.R_drew)); exact HR.out)); (case aB => exact (by repeat (first | (with_reducible first | exact HB.out | apply below_alloc | apply pw_below_drewN | apply below_drew1) | exact HB.out))); (case aS => exact (below_size (by repeat (first | (with_reducible first | exact HB.out | apply below_alloc | apply pw_below_drewN | apply below_drew1) | exact HB.out)))); (case aL => omega); intro v1 w1 ho hb hg hat; have n0_ := Aside0.mk ho; have n1_ := Aside0.mk hb; clear HR HB ho hb hg hat; have HR := n0_; have HB := n1_; clear n0_ n1_))
              go_roundg kk
              case measure => omega
              case rel => exact ⟨_, (st ++ [false]), i + 1, rfl, (by first | rfl | (simp; done)), HN, ⟨(by (with_reducible repeat (first | apply Kd.R_alloc | apply Kd.R_drewN | apply Kd.R_drew)); exact HR.out)⟩, ⟨(by repeat (first | (with_reducible first | exact HB.out | apply below_alloc | apply pw_below_drewN | apply below_drew1) | exact HB.out))⟩⟩
            · rw [if_neg o1] at hs
              have g1 : ((rd_T32 l0 i).f0 == 1) = false := beq_eq_false_iff_ne.mpr o1
              by_cases o2 : (rd_T32 l0 i).f0 = 2
              · rw [if_pos o2] at hs
                obtain rfl := Option.some.inj hs
                have g2 : ((rd_T32 l0 i).f0 == 2) = true := beq_iff_eq.mpr o2
                clear hs
                go_wp2_with (first | ((with_reducible refine gate_builtin (b := .append) (xs := #[.tmp 27, .tmp 28]) rfl ?_); at_builtin; refine Kd.R_append Kd.bool (w0 := w) w.heap.size rfl (.tmp 27) (.tmp 28) 42 4 (.bool false) 1 rfl Try.underlying42 regex_Null.info4 rfl (by decide) (by decide) (.slice A st.length cc) st true [.bool true] (fun _ => True) (fun _ => False) rfl (by first | (go_simp; done) | (go_simp; rfl)) ?aP (fun _ hk => hk.elim) ?aF ?aO ?aB ?aS ?aL ?_; (case aP => exact rfl); (case aF => exact (fun _ _ => trivial)); (case aO => exact (by (with_reducible repeat (first | apply Kd.R_alloc | apply Kd.R_drewN | apply Kd.R_drew)); exact HR.out)); (case aB => exact (by repeat (first | (with_reducible first | exact HB.out | apply below_alloc | apply pw_below_drewN | apply below_drew1) | exact HB.out))); (case aS => exact (below_size (by repeat (first | (with_reducible first | exact HB.out | apply below_alloc | apply pw_below_drewN | apply below_drew1) | exact HB.out)))); (case aL => omega); intro v1 w1 ho hb hg hat; have n0_ := Aside0.mk ho; have n1_ := Aside0.mk hb; clear HR HB ho hb hg hat; have HR := n0_; have HB := n1_; clear n0_ n1_))
                go_roundg kk
                case measure => omega
                case rel => exact ⟨_, (st ++ [true]), i + 1, rfl, (by first | rfl | (simp; done)), HN, ⟨(by (with_reducible repeat (first | apply Kd.R_alloc | apply Kd.R_drewN | apply Kd.R_drew)); exact HR.out)⟩, ⟨(by repeat (first | (with_reducible first | exact HB.out | apply below_alloc | apply pw_below_drewN | apply below_drew1) | exact HB.out))⟩⟩
              · rw [if_neg o2] at hs
                have g2 : ((rd_T32 l0 i).f0 == 2) = false := beq_eq_false_iff_ne.mpr o2
                by_cases o57 : (rd_T32 l0 i).f0 = 5 ∨ (rd_T32 l0 i).f0 = 7
                · rw [if_pos o57] at hs
                  by_cases m1 : 1 ≤ st.length
                  · rw [if_pos m1] at hs
                    obtain rfl := Option.some.inj hs
                    obtain ⟨g, rfl, hg, ⟨cells, hblk⟩, hcell⟩ := regex_Null.form HR.out (by omega)
                    have cx : ∃ x, wr.cell? ⟨g, st.length - 1, none⟩ = some (.bool x) := ⟨_, hcell (st.length - 1) _ (List.getElem?_eq_getElem (by omega))⟩
                    obtain ⟨x, cx⟩ := cx
                    have fx := blk_frozen hblk (st.length - 1)
                    have hlt := blk_lt hblk
                    have CXA : ∀ c t, (wr.alloc (.cells c t)).cell? ⟨g, st.length - 1, none⟩ = some (.bool x) := fun c t => (World.cell?_alloc_lt _ _ _ hlt).trans cx
                    have FXA : ∀ c t, (wr.alloc (.cells c t)).frozen? ⟨g, st.length - 1, none⟩ = false := fun c t => (frozen?_alloc_cells _ _ _ _).trans fx
                    have GG := Aside0.mk hg
                    have HR2 := HR.out
                    have HN2 := HN.out
                    clear hs hblk hcell hg HR HN cx fx hlt
                    generalize hN : st.length = N at HR2 HN2 CXA FXA d3 st3 m1 ⊢
                    have HR3 := Aside0.mk HR2
                    have HN := Aside0.mk HN2
                    have HCX := Aside0.mk CXA
                    have HFX := Aside0.mk FXA
                    clear HR2 hN HN2 CXA FXA
                    rcases o57 with o5 | o7
                    · have g5 : ((rd_T32 l0 i).f0 == 5) = true := beq_iff_eq.mpr o5
                      repeat (first | go_values | go_skip | go_guarded | go_step | go_upon | go_back)
                      simp only [HCX.out, HFX.out, Bool.false_eq_true, if_false]
                      repeat (first | go_values | go_skip | go_guarded | go_step | go_upon | go_back)
                      
                      go_roundg kk
                      case measure => omega
                      case rel =>
                        refine ⟨.slice (some ⟨g, 0, none⟩) N cc, st.set (N - 1) true, i + 1, (by first | rfl | (simp; done)), (by first | rfl | (simp; done)), HN, ⟨?_⟩, ⟨?_⟩⟩
                        · exact Kd.R_putn (enc := .bool) (h1 := fun _ => rfl) (Kd.R_alloc HR3.out _) ((N - 1 : Nat) : Int) true
                        · refine below_set ?_ GG.out
                          exact (by repeat (first | (with_reducible first | exact HB.out | apply below_alloc | apply pw_below_drewN | apply below_drew1) | exact HB.out))
                    · have o5 : (rd_T32 l0 i).f0 ≠ 5 := by omega
                      have g5 : ((rd_T32 l0 i).f0 == 5) = false := beq_eq_false_iff_ne.mpr o5
                      have g7 : ((rd_T32 l0 i).f0 == 7) = true := beq_iff_eq.mpr o7
                      repeat (first | go_values | go_skip | go_guarded | go_step | go_upon | go_back)
                      simp only [HCX.out, HFX.out, Bool.false_eq_true, if_false]
                      repeat (first | go_values | go_skip | go_guarded | go_step | go_upon | go_back)
                      
                      go_roundg kk
                      case measure => omega
                      case rel =>
                        refine ⟨.slice (some ⟨g, 0, none⟩) N cc, st.set (N - 1) true, i + 1, (by first | rfl | (simp; done)), (by first | rfl | (simp; done)), HN, ⟨?_⟩, ⟨?_⟩⟩
                        · exact Kd.R_putn (enc := .bool) (h1 := fun _ => rfl) (Kd.R_alloc HR3.out _) ((N - 1 : Nat) : Int) true
                        · refine below_set ?_ GG.out
                          exact (by repeat (first | (with_reducible first | exact HB.out | apply below_alloc | apply pw_below_drewN | apply below_drew1) | exact HB.out))
                  · rw [if_neg m1] at hs; cases hs
                · rw [if_neg o57] at hs
                  have o5 : (rd_T32 l0 i).f0 ≠ 5 := by omega
                  have o7 : (rd_T32 l0 i).f0 ≠ 7 := by omega
                  have g5 : ((rd_T32 l0 i).f0 == 5) = false := beq_eq_false_iff_ne.mpr o5
                  have g7 : ((rd_T32 l0 i).f0 == 7) = false := beq_eq_false_iff_ne.mpr o7
                  by_cases o3 : (rd_T32 l0 i).f0 = 3
                  · rw [if_pos o3] at hs
                    by_cases m2 : 2 ≤ st.length
                    · rw [if_pos m2] at hs
                      obtain rfl := Option.some.inj hs
                      obtain ⟨_, hcc, _⟩ := Kd.R_reads' HR.out
                      obtain ⟨g, rfl, hg, ⟨cells, hblk⟩, hcell⟩ := regex_Null.form HR.out (by omega)
                      obtain ⟨a, ha⟩ : ∃ a, st[st.length - 2]? = some a := ⟨_, List.getElem?_eq_getElem (by omega)⟩
                      obtain ⟨b, hb⟩ : ∃ b, st[st.length - 1]? = some b := ⟨_, List.getElem?_eq_getElem (by omega)⟩
                      have hlt := blk_lt hblk
                      have CXA : ∀ c t, (wr.alloc (.cells c t)).cell? ⟨g, st.length - 2, none⟩ = some (.bool a) := fun c t => (World.cell?_alloc_lt _ _ _ hlt).trans (hcell _ _ ha)
                      have CXB : ∀ c t, (wr.alloc (.cells c t)).cell? ⟨g, st.length - 1, none⟩ = some (.bool b) := fun c t => (World.cell?_alloc_lt _ _ _ hlt).trans (hcell _ _ hb)
                      have HRT := Aside0.mk (Kd.R_take (m := st.length - 2) HR.out (by omega))
                      have HTL := Aside0.mk (show (st.take (st.length - 2)).length ≤ 1000000 by rw [List.length_take]; omega)
                      have HN2 := HN.out
                      rw [List.getD_eq_getElem?_getD, List.getD_eq_getElem?_getD, ha, hb] at HN2
                      clear hs hblk hcell hg hlt HN ha hb
                      have HNA := Aside0.mk HN2
                      clear HN2
                      generalize hN : st.length = N at *
                      clear hN
                      have hw2 : IntKind.i64.wrap ((N : Int) - 2) = (N : Int) - 2 := IntWalk.i64_in _ (by (try clear hw2); omega)
                      have hw1 : IntKind.i64.wrap ((N : Int) - 1) = (N : Int) - 1 := IntWalk.i64_in _ (by (try clear hw2); omega)
                      have z1 : ((0 : Int) ≤ (N : Int) - 2) = True := eq_true (by clear hw1 hw2; omega)
                      have z8 : ((2 : Int) ≤ (N : Int)) = True := eq_true (by clear hw1 hw2; omega)
                      have z9 : ((1 : Int) ≤ (N : Int)) = True := eq_true (by clear hw1 hw2; omega)
                      have z2 : ((N : Int) - 2 ≤ (cc : Int)) = True := eq_true (by clear hw1 hw2; omega)
                      have z3 : ((N : Int) - 2 < (N : Int)) = True := eq_true (by clear hw1 hw2; omega)
                      have z4 : ((0 : Int) ≤ (N : Int) - 1) = True := eq_true (by clear hw1 hw2; omega)
                      have z5 : ((N : Int) - 1 < (N : Int)) = True := eq_true (by clear hw1 hw2; omega)
                      have z6 : ((N : Int) - 2).toNat = N - 2 := by clear hw1 hw2; omega
                      have z7 : ((N : Int) - 1).toNat = N - 1 := by clear hw1 hw2; omega
                      have CXA2 : ∀ c t, (wr.alloc (.cells c t)).drew.cell? ⟨g, N - 2, none⟩ = some (.bool a) := CXA
                      have CXB2 : ∀ c t, (wr.alloc (.cells c t)).drew.cell? ⟨g, N - 1, none⟩ = some (.bool b) := CXB
                      cases a with
                      | false =>
                        repeat (first | go_values | go_skip | go_guarded | go_step | go_upon | go_back)
                        first | (go_region_law (rw [regex_Null.drew_alloc]; (refine Kd.R_append_step Kd.bool (w0 := w) w.heap.size (by first | rfl | (go_simp; done) | (simp; done)) (.tmp 42) (.tmp 55) 42 4 (.bool false) 1 (by rfl) Try.underlying42 regex_Null.info4 rfl (by decide) (by decide) (.slice (some ⟨g, 0, none⟩) (N - 2) cc) (st.take (N - 2)) false [.bool false] (fun _ => True) (fun _ => False) (by first | rfl | (go_simp; done)) (by first | rfl | (go_simp; done)) ?aP (fun _ hk => hk.elim) ?aF ?aO ?aB ?aS ?aL ?_); (case aP => exact rfl); (case aF => exact (fun _ _ => trivial)); (case aO => exact (by (with_reducible repeat (first | apply Kd.R_alloc | apply Kd.R_drewN | apply Kd.R_drew)); exact HRT.out)); (case aB => exact (by repeat (first | (with_reducible first | exact HB.out | apply below_alloc | apply pw_below_drewN | apply below_drew1) | exact HB.out))); (case aS => exact (below_size (by repeat (first | (with_reducible first | exact HB.out | apply below_alloc | apply pw_below_drewN | apply below_drew1) | exact HB.out)))); (case aL => (have hz := HTL.out; clear hw1 hw2; omega)); intro v1 w1 ho hb hg hat; have n0_ := Aside0.mk ho; have n1_ := Aside0.mk hb; clear HR HB ho hb hg hat; have HR := n0_; have HB := n1_; clear n0_ n1_)) | fail "no law"
                        all_goals (go_wp2_with fail)
                        all_goals go_roundg kk
                        all_goals (first | omega | exact ⟨_, st.take (N - 2) ++ [false], i + 1, rfl, (by first | rfl | (simp; done)), HNA, ⟨(by (with_reducible repeat (first | apply Kd.R_alloc | apply Kd.R_drewN | apply Kd.R_drew)); exact HR.out)⟩, ⟨(by repeat (first | (with_reducible first | exact HB.out | apply below_alloc | apply pw_below_drewN | apply below_drew1) | exact HB.out))⟩⟩)
                      | true =>
                        repeat (first | go_values | go_skip | go_guarded | go_step | go_upon | go_back)
                        first | (go_region_law (rw [regex_Null.drew_alloc]; (refine Kd.R_append_step Kd.bool (w0 := w) w.heap.size (by first | rfl | (go_simp; done) | (simp; done)) (.tmp 42) (.tmp 55) 42 4 (.bool false) 1 (by rfl) Try.underlying42 regex_Null.info4 rfl (by decide) (by decide) (.slice (some ⟨g, 0, none⟩) (N - 2) cc) (st.take (N - 2)) b [.bool b] (fun _ => True) (fun _ => False) (by first | rfl | (go_simp; done)) (by first | rfl | (go_simp; done)) ?aP (fun _ hk => hk.elim) ?aF ?aO ?aB ?aS ?aL ?_); (case aP => exact rfl); (case aF => exact (fun _ _ => trivial)); (case aO => exact (by (with_reducible repeat (first | apply Kd.R_alloc | apply Kd.R_drewN | apply Kd.R_drew)); exact HRT.out)); (case aB => exact (by repeat (first | (with_reducible first | exact HB.out | apply below_alloc | apply pw_below_drewN | apply below_drew1) | exact HB.out))); (case aS => exact (below_size (by repeat (first | (with_reducible first | exact HB.out | apply below_alloc | apply pw_below_drewN | apply below_drew1) | exact HB.out)))); (case aL => (have hz := HTL.out; clear hw1 hw2; omega)); intro v1 w1 ho hb hg hat; have n0_ := Aside0.mk ho; have n1_ := Aside0.mk hb; clear HR HB ho hb hg hat; have HR := n0_; have HB := n1_; clear n0_ n1_)) | fail "no law"
                        all_goals (go_wp2_with fail)
                        all_goals go_roundg kk
                        all_goals (first | omega | exact ⟨_, st.take (N - 2) ++ [b], i + 1, rfl, (by first | rfl | (simp; done)), HNA, ⟨(by (with_reducible repeat (first | apply Kd.R_alloc | apply Kd.R_drewN | apply Kd.R_drew)); exact HR.out)⟩, ⟨(by repeat (first | (with_reducible first | exact HB.out | apply below_alloc | apply pw_below_drewN | apply below_drew1) | exact HB.out))⟩⟩)
                    · rw [if_neg m2] at hs; cases hs
                  · rw [if_neg o3] at hs
                    have g3 : ((rd_T32 l0 i).f0 == 3) = false := beq_eq_false_iff_ne.mpr o3
                    by_cases o4 : (rd_T32 l0 i).f0 = 4
                    · rw [if_pos o4] at hs
                      by_cases m2 : 2 ≤ st.length
                      · rw [if_pos m2] at hs
                        obtain rfl := Option.some.inj hs
                        obtain ⟨_, hcc, _⟩ := Kd.R_reads' HR.out
                        obtain ⟨g, rfl, hg, ⟨cells, hblk⟩, hcell⟩ := regex_Null.form HR.out (by omega)
                        obtain ⟨a, ha⟩ : ∃ a, st[st.length - 2]? = some a := ⟨_, List.getElem?_eq_getElem (by omega)⟩
                        obtain ⟨b, hb⟩ : ∃ b, st[st.length - 1]? = some b := ⟨_, List.getElem?_eq_getElem (by omega)⟩
                        have hlt := blk_lt hblk
                        have CXA : ∀ c t, (wr.alloc (.cells c t)).cell? ⟨g, st.length - 2, none⟩ = some (.bool a) := fun c t => (World.cell?_alloc_lt _ _ _ hlt).trans (hcell _ _ ha)
                        have CXB : ∀ c t, (wr.alloc (.cells c t)).cell? ⟨g, st.length - 1, none⟩ = some (.bool b) := fun c t => (World.cell?_alloc_lt _ _ _ hlt).trans (hcell _ _ hb)
                        have HRT := Aside0.mk (Kd.R_take (m := st.length - 2) HR.out (by omega))
                        have HTL := Aside0.mk (show (st.take (st.length - 2)).length ≤ 1000000 by rw [List.length_take]; omega)
                        have HN2 := HN.out
                        rw [List.getD_eq_getElem?_getD, List.getD_eq_getElem?_getD, ha, hb] at HN2
                        clear hs hblk hcell hg hlt HN ha hb
                        have HNA := Aside0.mk HN2
                        clear HN2
                        generalize hN : st.length = N at *
                        clear hN
                        have hw2 : IntKind.i64.wrap ((N : Int) - 2) = (N : Int) - 2 := IntWalk.i64_in _ (by (try clear hw2); omega)
                        have hw1 : IntKind.i64.wrap ((N : Int) - 1) = (N : Int) - 1 := IntWalk.i64_in _ (by (try clear hw2); omega)
                        have z1 : ((0 : Int) ≤ (N : Int) - 2) = True := eq_true (by clear hw1 hw2; omega)
                        have z8 : ((2 : Int) ≤ (N : Int)) = True := eq_true (by clear hw1 hw2; omega)
                        have z9 : ((1 : Int) ≤ (N : Int)) = True := eq_true (by clear hw1 hw2; omega)
                        have z2 : ((N : Int) - 2 ≤ (cc : Int)) = True := eq_true (by clear hw1 hw2; omega)
                        have z3 : ((N : Int) - 2 < (N : Int)) = True := eq_true (by clear hw1 hw2; omega)
                        have z4 : ((0 : Int) ≤ (N : Int) - 1) = True := eq_true (by clear hw1 hw2; omega)
                        have z5 : ((N : Int) - 1 < (N : Int)) = True := eq_true (by clear hw1 hw2; omega)
                        have z6 : ((N : Int) - 2).toNat = N - 2 := by clear hw1 hw2; omega
                        have z7 : ((N : Int) - 1).toNat = N - 1 := by clear hw1 hw2; omega
                        have CXA2 : ∀ c t, (wr.alloc (.cells c t)).drew.cell? ⟨g, N - 2, none⟩ = some (.bool a) := CXA
                        have CXB2 : ∀ c t, (wr.alloc (.cells c t)).drew.cell? ⟨g, N - 1, none⟩ = some (.bool b) := CXB
                        cases a with
                        | false =>
                          repeat (first | go_values | go_skip | go_guarded | go_step | go_upon | go_back)
                          first | (go_region_law (rw [regex_Null.drew_alloc]; (refine Kd.R_append_step Kd.bool (w0 := w) w.heap.size (by first | rfl | (go_simp; done) | (simp; done)) (.tmp 62) (.tmp 75) 42 4 (.bool false) 1 (by rfl) Try.underlying42 regex_Null.info4 rfl (by decide) (by decide) (.slice (some ⟨g, 0, none⟩) (N - 2) cc) (st.take (N - 2)) b [.bool b] (fun _ => True) (fun _ => False) (by first | rfl | (go_simp; done)) (by first | rfl | (go_simp; done)) ?aP (fun _ hk => hk.elim) ?aF ?aO ?aB ?aS ?aL ?_); (case aP => exact rfl); (case aF => exact (fun _ _ => trivial)); (case aO => exact (by (with_reducible repeat (first | apply Kd.R_alloc | apply Kd.R_drewN | apply Kd.R_drew)); exact HRT.out)); (case aB => exact (by repeat (first | (with_reducible first | exact HB.out | apply below_alloc | apply pw_below_drewN | apply below_drew1) | exact HB.out))); (case aS => exact (below_size (by repeat (first | (with_reducible first | exact HB.out | apply below_alloc | apply pw_below_drewN | apply below_drew1) | exact HB.out)))); (case aL => (have hz := HTL.out; clear hw1 hw2; omega)); intro v1 w1 ho hb hg hat; have n0_ := Aside0.mk ho; have n1_ := Aside0.mk hb; clear HR HB ho hb hg hat; have HR := n0_; have HB := n1_; clear n0_ n1_)) | fail "no law"
                          all_goals (go_wp2_with fail)
                          all_goals go_roundg kk
                          all_goals (first | omega | exact ⟨_, st.take (N - 2) ++ [b], i + 1, rfl, (by first | rfl | (simp; done)), HNA, ⟨(by (with_reducible repeat (first | apply Kd.R_alloc | apply Kd.R_drewN | apply Kd.R_drew)); exact HR.out)⟩, ⟨(by repeat (first | (with_reducible first | exact HB.out | apply below_alloc | apply pw_below_drewN | apply below_drew1) | exact HB.out))⟩⟩)
                        | true =>
                          repeat (first | go_values | go_skip | go_guarded | go_step | go_upon | go_back)
                          first | (go_region_law (rw [regex_Null.drew_alloc]; (refine Kd.R_append_step Kd.bool (w0 := w) w.heap.size (by first | rfl | (go_simp; done) | (simp; done)) (.tmp 62) (.tmp 75) 42 4 (.bool false) 1 (by rfl) Try.underlying42 regex_Null.info4 rfl (by decide) (by decide) (.slice (some ⟨g, 0, none⟩) (N - 2) cc) (st.take (N - 2)) true [.bool true] (fun _ => True) (fun _ => False) (by first | rfl | (go_simp; done)) (by first | rfl | (go_simp; done)) ?aP (fun _ hk => hk.elim) ?aF ?aO ?aB ?aS ?aL ?_); (case aP => exact rfl); (case aF => exact (fun _ _ => trivial)); (case aO => exact (by (with_reducible repeat (first | apply Kd.R_alloc | apply Kd.R_drewN | apply Kd.R_drew)); exact HRT.out)); (case aB => exact (by repeat (first | (with_reducible first | exact HB.out | apply below_alloc | apply pw_below_drewN | apply below_drew1) | exact HB.out))); (case aS => exact (below_size (by repeat (first | (with_reducible first | exact HB.out | apply below_alloc | apply pw_below_drewN | apply below_drew1) | exact HB.out)))); (case aL => (have hz := HTL.out; clear hw1 hw2; omega)); intro v1 w1 ho hb hg hat; have n0_ := Aside0.mk ho; have n1_ := Aside0.mk hb; clear HR HB ho hb hg hat; have HR := n0_; have HB := n1_; clear n0_ n1_)) | fail "no law"
                          all_goals (go_wp2_with fail)
                          all_goals go_roundg kk
                          all_goals (first | omega | exact ⟨_, st.take (N - 2) ++ [true], i + 1, rfl, (by first | rfl | (simp; done)), HNA, ⟨(by (with_reducible repeat (first | apply Kd.R_alloc | apply Kd.R_drewN | apply Kd.R_drew)); exact HR.out)⟩, ⟨(by repeat (first | (with_reducible first | exact HB.out | apply below_alloc | apply pw_below_drewN | apply below_drew1) | exact HB.out))⟩⟩)
                      · rw [if_neg m2] at hs; cases hs
                    · rw [if_neg o4] at hs
                      have g4 : ((rd_T32 l0 i).f0 == 4) = false := beq_eq_false_iff_ne.mpr o4
                      obtain rfl := Option.some.inj hs
                      clear hs
                      go_wp2_with fail
                      go_roundg kk
                      case measure => omega
                      case rel => exact ⟨_, st, i + 1, rfl, (by first | rfl | (simp; done)), HN, ⟨(by (with_reducible repeat (first | apply Kd.R_alloc | apply Kd.R_drewN | apply Kd.R_drew)); exact HR.out)⟩, ⟨(by repeat (first | (with_reducible first | exact HB.out | apply below_alloc | apply pw_below_drewN | apply below_drew1) | exact HB.out))⟩⟩
          · rw [if_neg d1] at h0; cases h0
        · rw [if_neg d0] at h0
          by_cases d1 : 0 < st.length
          · rw [if_pos d1] at h0
            obtain rfl := Option.some.inj h0
            have e0 : decide (i < (l0.length : Int)) = false := decide_eq_false d0
            obtain ⟨g, rfl, hg, ⟨cells, hblk⟩, hcell⟩ := regex_Null.form HR.out d1
            have cx := hcell 0 _ (List.getElem?_eq_getElem d1)
            have q1 : (0 : Int) < (st.length : Int) := by omega
            have ee : st.getD 0 false = st[0] := by rw [List.getD_eq_getElem?_getD, List.getElem?_eq_getElem d1]; rfl
            have EE := Aside0.mk ee
            clear h0 hblk hcell hg ee
            go_wp2_with fail
            go_ret
            exact ⟨by first | rfl | (rw [EE.out]; rfl) | simp [EE.out], HB.out⟩
          · rw [if_neg d1] at h0; cases h0

end Go.Proofs.Ytkabcjchgaokoaa.PRx
