/- Proved here: edit.Diff (function 30) of two texts answers the longest common beginning and end, whatever they are; condition: the texts' sizes fit. -/
import Derived.Test.YtfdpaaacgakaaaaPEditBothx0
import Derived.IntWalk
namespace Go.Proofs.Ytfdpaaacgakaaaa.PEditBoth
open Go.RowKit Go.Proofs.YtfdpaaacgakaaaaW.PrintWords Go.Proofs.YtfdpaaacgakaaaaW.PrintLast Go.Proofs.YtfdpaaacgakaaaaW.PrintMore
set_option linter.unusedVariables false
set_option linter.unusedSimpArgs false
/-- p is how many of the first numbers are alike. -/
structure IsCommon (n m : Nat) (f g : Int → Int) (p : Nat) : Prop where
  le1 : p ≤ n
  le2 : p ≤ m
  same : ∀ j : Int, 0 ≤ j → j < p → f j = g j
  ends : p < n → p < m → f p ≠ g p
set_option maxHeartbeats 4000000 in
set_option maxRecDepth 100000 in
theorem diff_calls (a b : ByteArray) (p q : Nat) (ha : a.size ≤ 140737488351232) (hb : b.size ≤ 140737488351232)
    (hp : IsCommon a.size b.size (fun j => bt a j) (fun j => bt b j) p)
    (hq : IsCommon (a.extract p a.size).size (b.extract p b.size).size (fun j => bt (a.extract p a.size) (((a.extract p a.size).size : Int) - 1 - j)) (fun j => bt (b.extract p b.size) (((b.extract p b.size).size : Int) - 1 - j)) q) (w : World) :
    Calls Try.prog 30 #[.string a, .string b] w fun e w' => e = .returned (.agg #[.int .i64 (p : Int), .int .i64 (((a.extract p a.size).size : Int) - (q : Int)), .string ((b.extract p b.size).extract 0 (((b.extract p b.size).size : Int) - (q : Int)).toNat)]) ∧ Below w.heap.size w w' := by
  have HB := Aside0.mk (Below.refl w.heap.size w)
  have HP := Aside0.mk hp
  have HQ := Aside0.mk hq
  have hpa := hp.le1
  have hpb := hp.le2
  clear hp hq
  go_enter Try.func30, Try.ntmps30
  go_upto_block 0 with (first | ((with_reducible refine gate_dst (N := 4) rfl ?_); (try (refine gate_guard (by rfl) ?_; dsimp only)); refine box_event ?hg (N := 4) ?hd (cs := #[.int .i64 0, .int .i64 0, .string (⟨#[]⟩ : ByteArray)]) (t := 23) ?hr ?_; (case hd => rfl); (case hg => rfl); (case hr => first | (go_simp; done) | (go_simp; rfl)); intro gb hg w4 hbox hb; have n0_ := Aside0.mk (below_step (by repeat (first | (with_reducible first | exact HB.out | apply below_alloc | apply pw_below_drewN | apply below_drew1) | exact HB.out)) hb); have n1_ := Aside0.mk (hbox); have n2_ := Aside0.mk ((by rw [hg]; exact (below_size (by repeat (first | (with_reducible first | exact HB.out | apply below_alloc | apply pw_below_drewN | apply below_drew1) | exact HB.out))) : w.heap.size ≤ gb)); clear HB; have HB := n0_; have BK := n1_; have GE := n2_; clear n0_ n1_ n2_; clear hb hbox hg))
  (try simp only [Act.put, List.setIfInBounds_toArray, List.set_cons_zero, List.set_cons_succ])
  go_cut [5] (fun v5 w' => v5 = .int .i64 (p : Int) ∧ Aside0 (w'.heap[gb]? = some (.cells #[.int .i64 0, .int .i64 0, .string (⟨#[]⟩ : ByteArray)] 23 (0, 0))) ∧ Aside0 (Below w.heap.size w w'))
  case first =>
    go_wp2
    repeat (go_quiet (fail); try go_wp2)
    go_loopg [5] (p + 1) (fun kq v5 w' => ∃ x : Int, v5 = .int .i64 x ∧ Aside0 (0 ≤ x ∧ x + kq = p + 1 ∧ 1 ≤ kq) ∧ Aside0 (w'.heap[gb]? = some (.cells #[.int .i64 0, .int .i64 0, .string (⟨#[]⟩ : ByteArray)] 23 (0, 0))) ∧ Aside0 (Below w.heap.size w w'))
    case atStart => exact ⟨0, rfl, ⟨by omega⟩, ⟨by (with_reducible repeat (first | refine blk_drewN ?_ _ | refine blk_drew ?_ | refine blk_alloc ?_ _)); exact BK.out⟩, ⟨by repeat (first | (with_reducible first | exact HB.out | apply below_alloc | apply pw_below_drewN | apply below_drew1 | refine below_set ?_ GE.out) | exact HB.out)⟩⟩
    case round =>
      obtain ⟨x, rfl, HX, BK, HB⟩ := hrel
      obtain ⟨x0, x1, x2⟩ := HX.out
      obtain ⟨kq, rfl⟩ : ∃ m, gk = m + 1 := ⟨gk - 1, by omega⟩
      by_cases hlt : x < (p : Int)
      · have c5 : decide (x < (a.size : Int)) = true := decide_eq_true (by omega)
        have c6 : decide (x < (b.size : Int)) = true := decide_eq_true (by omega)
        have c10 : ((bt a x) == (bt b x)) = true := beq_iff_eq.mpr (HP.out.same x x0 hlt)
        have hw : IntKind.i64.wrap (x + 1) = x + 1 := IntWalk.i64_in _ (by omega)
        have W' := Aside0.mk hw
        clear hw
        have p8 : 0 ≤ (x : Int) := by omega
        have q8 : (x : Int) < (a.size : Int) := by omega
        have hx8 := bt_at a (x)
        replace p8 := eq_true p8
        replace q8 := eq_true q8
        have p9 : 0 ≤ (x : Int) := by omega
        have q9 : (x : Int) < (b.size : Int) := by omega
        have hx9 := bt_at b (x)
        replace p9 := eq_true p9
        replace q9 := eq_true q9

        go_wp2
        repeat (go_quiet (fail); try go_wp2)
        go_roundg kq
        case measure => omega
        case rel => exact ⟨x + 1, by first | rfl | (simp [W'.out]; done) , ⟨by omega⟩, ⟨by (with_reducible repeat (first | refine blk_drewN ?_ _ | refine blk_drew ?_ | refine blk_alloc ?_ _)); exact BK.out⟩, ⟨by repeat (first | (with_reducible first | exact HB.out | apply below_alloc | apply pw_below_drewN | apply below_drew1 | refine below_set ?_ GE.out) | exact HB.out)⟩⟩
      · have HE : Aside0 (x = (p : Int)) := ⟨by omega⟩
        have hends := HP.out.ends
        rw [← HE.out] at hends
        by_cases e1 : x < (a.size : Int)
        · by_cases e2 : x < (b.size : Int)
          · have HN := hends (by omega) (by omega)
            have c5 : decide (x < (a.size : Int)) = true := decide_eq_true e1
            have c6 : decide (x < (b.size : Int)) = true := decide_eq_true e2
            have c10 : ((bt a x) == (bt b x)) = false := beq_eq_false_iff_ne.mpr HN
            clear hends HN
            have p8 : 0 ≤ (x : Int) := by omega
            have q8 : (x : Int) < (a.size : Int) := by omega
            have hx8 := bt_at a (x)
            replace p8 := eq_true p8
            replace q8 := eq_true q8
            have p9 : 0 ≤ (x : Int) := by omega
            have q9 : (x : Int) < (b.size : Int) := by omega
            have hx9 := bt_at b (x)
            replace p9 := eq_true p9
            replace q9 := eq_true q9

            clear e1 e2
            go_wp2
            repeat (go_quiet (fail); try go_wp2)
            go_meet
            case rel => exact ⟨by rw [HE.out], ⟨by (with_reducible repeat (first | refine blk_drewN ?_ _ | refine blk_drew ?_ | refine blk_alloc ?_ _)); exact BK.out⟩, ⟨by repeat (first | (with_reducible first | exact HB.out | apply below_alloc | apply pw_below_drewN | apply below_drew1 | refine below_set ?_ GE.out) | exact HB.out)⟩⟩
          · have c5 : decide (x < (a.size : Int)) = true := decide_eq_true e1
            have c6 : decide (x < (b.size : Int)) = false := decide_eq_false e2
            clear hends e1 e2
            go_wp2
            repeat (go_quiet (fail); try go_wp2)
            go_meet
            case rel => exact ⟨by rw [HE.out], ⟨by (with_reducible repeat (first | refine blk_drewN ?_ _ | refine blk_drew ?_ | refine blk_alloc ?_ _)); exact BK.out⟩, ⟨by repeat (first | (with_reducible first | exact HB.out | apply below_alloc | apply pw_below_drewN | apply below_drew1 | refine below_set ?_ GE.out) | exact HB.out)⟩⟩
        · have c5 : decide (x < (a.size : Int)) = false := decide_eq_false e1
          clear hends e1
          go_wp2
          repeat (go_quiet (fail); try go_wp2)
          go_meet
          case rel => exact ⟨by rw [HE.out], ⟨by (with_reducible repeat (first | refine blk_drewN ?_ _ | refine blk_drew ?_ | refine blk_alloc ?_ _)); exact BK.out⟩, ⟨by repeat (first | (with_reducible first | exact HB.out | apply below_alloc | apply pw_below_drewN | apply below_drew1 | refine below_set ?_ GE.out) | exact HB.out)⟩⟩
  case rest =>
    obtain ⟨rfl, BK, HB⟩ := hcut
    have c11 := eq_true (show 0 ≤ (p : Int) by omega)
    have c12 := eq_true (show (p : Int) ≤ (a.size : Int) by omega)
    have c13 := eq_true (show (p : Int) ≤ (b.size : Int) by omega)
    go_wp2
    repeat (go_quiet (fail); try go_wp2)
    have hxs : (a.extract p a.size).size ≤ 140737488351232 := by rw [ByteArray.size_extract]; omega
    have hys : (b.extract p b.size).size ≤ 140737488351232 := by rw [ByteArray.size_extract]; omega
    have hqa := HQ.out.le1
    have hqb := HQ.out.le2
    clear c11 c12 c13
    generalize hs : a.extract p a.size = s at *
    generalize ht : b.extract p b.size = t at *
    have HS := Aside0.mk hs
    have HT := Aside0.mk ht
    clear hs ht
    go_loopg [6] (q + 1) (fun kq v6 w' => ∃ x : Int, v6 = .int .i64 x ∧ Aside0 (0 ≤ x ∧ x + kq = q + 1 ∧ 1 ≤ kq) ∧ Aside0 (w'.heap[gb]? = some (.cells #[.int .i64 0, .int .i64 0, .string (⟨#[]⟩ : ByteArray)] 23 (0, 0))) ∧ Aside0 (Below w.heap.size w w'))
    case atStart => exact ⟨0, rfl, ⟨by omega⟩, ⟨by (with_reducible repeat (first | refine blk_drewN ?_ _ | refine blk_drew ?_ | refine blk_alloc ?_ _)); exact BK.out⟩, ⟨by repeat (first | (with_reducible first | exact HB.out | apply below_alloc | apply pw_below_drewN | apply below_drew1 | refine below_set ?_ GE.out) | exact HB.out)⟩⟩
    case round =>
      obtain ⟨x, rfl, HX, BK, HB⟩ := hrel
      obtain ⟨x0, x1, x2⟩ := HX.out
      obtain ⟨kq, rfl⟩ : ∃ m, gk = m + 1 := ⟨gk - 1, by omega⟩
      by_cases hlt : x < (q : Int)
      · have c5 : decide (x < (s.size : Int)) = true := decide_eq_true (by omega)
        have c6 : decide (x < (t.size : Int)) = true := decide_eq_true (by omega)
        have c10 : ((bt s ((s.size : Int) - 1 - x)) == (bt t ((t.size : Int) - 1 - x))) = true := beq_iff_eq.mpr (HQ.out.same x x0 hlt)
        have p8 : 0 ≤ ((s.size : Int) - 1 - x : Int) := by omega
        have q8 : ((s.size : Int) - 1 - x : Int) < (s.size : Int) := by omega
        have hx8 := bt_at s ((s.size : Int) - 1 - x)
        replace p8 := eq_true p8
        replace q8 := eq_true q8
        have p9 : 0 ≤ ((t.size : Int) - 1 - x : Int) := by omega
        have q9 : ((t.size : Int) - 1 - x : Int) < (t.size : Int) := by omega
        have hx9 := bt_at t ((t.size : Int) - 1 - x)
        replace p9 := eq_true p9
        replace q9 := eq_true q9

        have W1 := Aside0.mk (IntWalk.i64_in (x + 1) (by omega))
        have W2 : IntKind.i64.wrap ((s.size : Int) - 1) = (s.size : Int) - 1 := IntWalk.i64_in _ (by omega)
        have W3 : IntKind.i64.wrap ((s.size : Int) - 1 - x) = (s.size : Int) - 1 - x := IntWalk.i64_in _ (by omega)
        have W4 : IntKind.i64.wrap ((t.size : Int) - 1) = (t.size : Int) - 1 := IntWalk.i64_in _ (by omega)
        have W5 : IntKind.i64.wrap ((t.size : Int) - 1 - x) = (t.size : Int) - 1 - x := IntWalk.i64_in _ (by omega)
        go_wp2
        repeat (go_quiet (fail); try go_wp2)
        go_roundg kq
        case measure => omega
        case rel => exact ⟨x + 1, by first | rfl | (simp [W1.out]; done) , ⟨by omega⟩, ⟨by (with_reducible repeat (first | refine blk_drewN ?_ _ | refine blk_drew ?_ | refine blk_alloc ?_ _)); exact BK.out⟩, ⟨by repeat (first | (with_reducible first | exact HB.out | apply below_alloc | apply pw_below_drewN | apply below_drew1 | refine below_set ?_ GE.out) | exact HB.out)⟩⟩
      · have HE : Aside0 (x = (q : Int)) := ⟨by omega⟩
        have hends := HQ.out.ends
        rw [← HE.out] at hends
        by_cases e1 : x < (s.size : Int)
        · by_cases e2 : x < (t.size : Int)
          · have HN := hends (by omega) (by omega)
            have c5 : decide (x < (s.size : Int)) = true := decide_eq_true e1
            have c6 : decide (x < (t.size : Int)) = true := decide_eq_true e2
            have c10 : ((bt s ((s.size : Int) - 1 - x)) == (bt t ((t.size : Int) - 1 - x))) = false := beq_eq_false_iff_ne.mpr HN
            clear hends HN
            have p8 : 0 ≤ ((s.size : Int) - 1 - x : Int) := by omega
            have q8 : ((s.size : Int) - 1 - x : Int) < (s.size : Int) := by omega
            have hx8 := bt_at s ((s.size : Int) - 1 - x)
            replace p8 := eq_true p8
            replace q8 := eq_true q8
            have p9 : 0 ≤ ((t.size : Int) - 1 - x : Int) := by omega
            have q9 : ((t.size : Int) - 1 - x : Int) < (t.size : Int) := by omega
            have hx9 := bt_at t ((t.size : Int) - 1 - x)
            replace p9 := eq_true p9
            replace q9 := eq_true q9

            have W12 : IntKind.i64.wrap ((s.size : Int) - 1) = (s.size : Int) - 1 := IntWalk.i64_in _ (by omega)
            have W13 : IntKind.i64.wrap ((s.size : Int) - 1 - x) = (s.size : Int) - 1 - x := IntWalk.i64_in _ (by omega)
            have W14 : IntKind.i64.wrap ((t.size : Int) - 1) = (t.size : Int) - 1 := IntWalk.i64_in _ (by omega)
            have W15 : IntKind.i64.wrap ((t.size : Int) - 1 - x) = (t.size : Int) - 1 - x := IntWalk.i64_in _ (by omega)
            have hcz_0 : wr.cell? ⟨gb, 0, none⟩ = some (.int .i64 0) := (blk_cell BK.out 0).trans rfl
            have hcz_1 : wr.cell? ⟨gb, 1, none⟩ = some (.int .i64 0) := (blk_cell BK.out 1).trans rfl
            have hcz_2 : wr.cell? ⟨gb, 2, none⟩ = some (.string (⟨#[]⟩ : ByteArray)) := (blk_cell BK.out 2).trans rfl
            have hfz_0 := blk_frozen BK.out 0
            have hfz_1 := blk_frozen BK.out 1
            have hfz_2 := blk_frozen BK.out 2
            have W2 : IntKind.i64.wrap ((s.size : Int) - x) = (s.size : Int) - x := IntWalk.i64_in _ (by omega)
            have W4 : IntKind.i64.wrap ((t.size : Int) - x) = (t.size : Int) - x := IntWalk.i64_in _ (by omega)
            have g0 := eq_true (show 0 ≤ (t.size : Int) - x by omega)
            have g1 := eq_true (show (t.size : Int) - x ≤ (t.size : Int) by omega)
            have g2 : x ≤ (t.size : Int) := by omega
            clear hxs hys hqa hqb hpa hpb ha hb
            go_wp2
            repeat (go_quiet (fail); try go_wp2)
            refine bodyPost_ret (results_cell_row rfl _ _ gb 23 #[.int .i64 (p : Int), .int .i64 ((s.size : Int) - x), .string (t.extract 0 ((t.size : Int) - x).toNat)] (0, 0) _ rfl (by (with_reducible repeat (first | refine blk_drewN ?_ _ | refine blk_drew ?_ | refine blk_alloc ?_ _)); refine blk_put (cs := #[.int .i64 (p : Int), .int .i64 ((s.size : Int) - x), .string (⟨#[]⟩ : ByteArray)]) ?_ 2 _ rfl; (with_reducible repeat (first | refine blk_drewN ?_ _ | refine blk_drew ?_ | refine blk_alloc ?_ _)); refine blk_put (cs := #[.int .i64 (p : Int), .int .i64 0, .string (⟨#[]⟩ : ByteArray)]) ?_ 1 _ rfl; (with_reducible repeat (first | refine blk_drewN ?_ _ | refine blk_drew ?_ | refine blk_alloc ?_ _)); refine blk_put (cs := #[.int .i64 0, .int .i64 0, .string (⟨#[]⟩ : ByteArray)]) ?_ 0 _ rfl; (with_reducible repeat (first | refine blk_drewN ?_ _ | refine blk_drew ?_ | refine blk_alloc ?_ _)); exact BK.out) Try.underlying23 rfl (by kernel_rfl)) rfl ?_
            exact ⟨by rw [HS.out, HT.out, HE.out], by repeat (first | (with_reducible first | exact HB.out | apply below_alloc | apply pw_below_drewN | apply below_drew1 | refine below_set ?_ GE.out) | exact HB.out)⟩
          · have c5 : decide (x < (s.size : Int)) = true := decide_eq_true e1
            have c6 : decide (x < (t.size : Int)) = false := decide_eq_false e2
            clear hends e1 e2
            have hcz_0 : wr.cell? ⟨gb, 0, none⟩ = some (.int .i64 0) := (blk_cell BK.out 0).trans rfl
            have hcz_1 : wr.cell? ⟨gb, 1, none⟩ = some (.int .i64 0) := (blk_cell BK.out 1).trans rfl
            have hcz_2 : wr.cell? ⟨gb, 2, none⟩ = some (.string (⟨#[]⟩ : ByteArray)) := (blk_cell BK.out 2).trans rfl
            have hfz_0 := blk_frozen BK.out 0
            have hfz_1 := blk_frozen BK.out 1
            have hfz_2 := blk_frozen BK.out 2
            have W2 : IntKind.i64.wrap ((s.size : Int) - x) = (s.size : Int) - x := IntWalk.i64_in _ (by omega)
            have W4 : IntKind.i64.wrap ((t.size : Int) - x) = (t.size : Int) - x := IntWalk.i64_in _ (by omega)
            have g0 := eq_true (show 0 ≤ (t.size : Int) - x by omega)
            have g1 := eq_true (show (t.size : Int) - x ≤ (t.size : Int) by omega)
            have g2 : x ≤ (t.size : Int) := by omega
            clear hxs hys hqa hqb hpa hpb ha hb
            go_wp2
            repeat (go_quiet (fail); try go_wp2)
            refine bodyPost_ret (results_cell_row rfl _ _ gb 23 #[.int .i64 (p : Int), .int .i64 ((s.size : Int) - x), .string (t.extract 0 ((t.size : Int) - x).toNat)] (0, 0) _ rfl (by (with_reducible repeat (first | refine blk_drewN ?_ _ | refine blk_drew ?_ | refine blk_alloc ?_ _)); refine blk_put (cs := #[.int .i64 (p : Int), .int .i64 ((s.size : Int) - x), .string (⟨#[]⟩ : ByteArray)]) ?_ 2 _ rfl; (with_reducible repeat (first | refine blk_drewN ?_ _ | refine blk_drew ?_ | refine blk_alloc ?_ _)); refine blk_put (cs := #[.int .i64 (p : Int), .int .i64 0, .string (⟨#[]⟩ : ByteArray)]) ?_ 1 _ rfl; (with_reducible repeat (first | refine blk_drewN ?_ _ | refine blk_drew ?_ | refine blk_alloc ?_ _)); refine blk_put (cs := #[.int .i64 0, .int .i64 0, .string (⟨#[]⟩ : ByteArray)]) ?_ 0 _ rfl; (with_reducible repeat (first | refine blk_drewN ?_ _ | refine blk_drew ?_ | refine blk_alloc ?_ _)); exact BK.out) Try.underlying23 rfl (by kernel_rfl)) rfl ?_
            exact ⟨by rw [HS.out, HT.out, HE.out], by repeat (first | (with_reducible first | exact HB.out | apply below_alloc | apply pw_below_drewN | apply below_drew1 | refine below_set ?_ GE.out) | exact HB.out)⟩
        · have c5 : decide (x < (s.size : Int)) = false := decide_eq_false e1
          clear hends e1
          have hcz_0 : wr.cell? ⟨gb, 0, none⟩ = some (.int .i64 0) := (blk_cell BK.out 0).trans rfl
          have hcz_1 : wr.cell? ⟨gb, 1, none⟩ = some (.int .i64 0) := (blk_cell BK.out 1).trans rfl
          have hcz_2 : wr.cell? ⟨gb, 2, none⟩ = some (.string (⟨#[]⟩ : ByteArray)) := (blk_cell BK.out 2).trans rfl
          have hfz_0 := blk_frozen BK.out 0
          have hfz_1 := blk_frozen BK.out 1
          have hfz_2 := blk_frozen BK.out 2
          have W2 : IntKind.i64.wrap ((s.size : Int) - x) = (s.size : Int) - x := IntWalk.i64_in _ (by omega)
          have W4 : IntKind.i64.wrap ((t.size : Int) - x) = (t.size : Int) - x := IntWalk.i64_in _ (by omega)
          have g0 := eq_true (show 0 ≤ (t.size : Int) - x by omega)
          have g1 := eq_true (show (t.size : Int) - x ≤ (t.size : Int) by omega)
          have g2 : x ≤ (t.size : Int) := by omega
          clear hxs hys hqa hqb hpa hpb ha hb
          go_wp2
          repeat (go_quiet (fail); try go_wp2)
          refine bodyPost_ret (results_cell_row rfl _ _ gb 23 #[.int .i64 (p : Int), .int .i64 ((s.size : Int) - x), .string (t.extract 0 ((t.size : Int) - x).toNat)] (0, 0) _ rfl (by (with_reducible repeat (first | refine blk_drewN ?_ _ | refine blk_drew ?_ | refine blk_alloc ?_ _)); refine blk_put (cs := #[.int .i64 (p : Int), .int .i64 ((s.size : Int) - x), .string (⟨#[]⟩ : ByteArray)]) ?_ 2 _ rfl; (with_reducible repeat (first | refine blk_drewN ?_ _ | refine blk_drew ?_ | refine blk_alloc ?_ _)); refine blk_put (cs := #[.int .i64 (p : Int), .int .i64 0, .string (⟨#[]⟩ : ByteArray)]) ?_ 1 _ rfl; (with_reducible repeat (first | refine blk_drewN ?_ _ | refine blk_drew ?_ | refine blk_alloc ?_ _)); refine blk_put (cs := #[.int .i64 0, .int .i64 0, .string (⟨#[]⟩ : ByteArray)]) ?_ 0 _ rfl; (with_reducible repeat (first | refine blk_drewN ?_ _ | refine blk_drew ?_ | refine blk_alloc ?_ _)); exact BK.out) Try.underlying23 rfl (by kernel_rfl)) rfl ?_
          exact ⟨by rw [HS.out, HT.out, HE.out], by repeat (first | (with_reducible first | exact HB.out | apply below_alloc | apply pw_below_drewN | apply below_drew1 | refine below_set ?_ GE.out) | exact HB.out)⟩

set_option maxHeartbeats 4000000 in
set_option maxRecDepth 100000 in
theorem rdiff_calls (a b : ByteArray) (p q : Nat) (ha : a.size ≤ 140737488351232) (hb : b.size ≤ 140737488351232)
    (hp : IsCommon a.size b.size (fun j => bt a j) (fun j => bt b j) p)
    (hq : IsCommon (a.extract p a.size).size (b.extract p b.size).size (fun j => bt (a.extract p a.size) (((a.extract p a.size).size : Int) - 1 - j)) (fun j => bt (b.extract p b.size) (((b.extract p b.size).size : Int) - 1 - j)) q) (w : World) :
    Calls Try.prog 31 #[.string a, .string b] w fun e w' => e = .returned (.agg #[.int .i64 (p : Int), .int .i64 (((a.extract p a.size).size : Int) - (q : Int)), .string ((b.extract p b.size).extract 0 (((b.extract p b.size).size : Int) - (q : Int)).toNat)]) ∧ Below w.heap.size w w' := by
  have HB := Aside0.mk (Below.refl w.heap.size w)
  have HP := Aside0.mk hp
  have HQ := Aside0.mk hq
  have hpa := hp.le1
  have hpb := hp.le2
  clear hp hq
  go_enter Try.func31, Try.ntmps31
  go_upto_block 0 with (first | ((with_reducible refine gate_dst (N := 4) rfl ?_); (try (refine gate_guard (by rfl) ?_; dsimp only)); refine box_event ?hg (N := 4) ?hd (cs := #[.int .i64 0, .int .i64 0, .string (⟨#[]⟩ : ByteArray)]) (t := 23) ?hr ?_; (case hd => rfl); (case hg => rfl); (case hr => first | (go_simp; done) | (go_simp; rfl)); intro gb hg w4 hbox hb; have n0_ := Aside0.mk (below_step (by repeat (first | (with_reducible first | exact HB.out | apply below_alloc | apply pw_below_drewN | apply below_drew1) | exact HB.out)) hb); have n1_ := Aside0.mk (hbox); have n2_ := Aside0.mk ((by rw [hg]; exact (below_size (by repeat (first | (with_reducible first | exact HB.out | apply below_alloc | apply pw_below_drewN | apply below_drew1) | exact HB.out))) : w.heap.size ≤ gb)); clear HB; have HB := n0_; have BK := n1_; have GE := n2_; clear n0_ n1_ n2_; clear hb hbox hg))
  (try simp only [Act.put, List.setIfInBounds_toArray, List.set_cons_zero, List.set_cons_succ])
  go_cut [5] (fun v5 w' => v5 = .int .i64 (p : Int) ∧ Aside0 (w'.heap[gb]? = some (.cells #[.int .i64 0, .int .i64 0, .string (⟨#[]⟩ : ByteArray)] 23 (0, 0))) ∧ Aside0 (Below w.heap.size w w'))
  case first =>
    go_wp2
    repeat (go_quiet (fail); try go_wp2)
    go_loopg [5, 6] (p + 1) (fun kq v5 v6 w' => ∃ y : Int, v5 = .int .i64 y ∧ v6 = .int .i64 (y + 1) ∧ Aside0 (0 ≤ y ∧ y + kq = p + 1 ∧ 1 ≤ kq) ∧ Aside0 (w'.heap[gb]? = some (.cells #[.int .i64 0, .int .i64 0, .string (⟨#[]⟩ : ByteArray)] 23 (0, 0))) ∧ Aside0 (Below w.heap.size w w'))
    case atStart => exact ⟨0, rfl, rfl, ⟨by omega⟩, ⟨by (with_reducible repeat (first | refine blk_drewN ?_ _ | refine blk_drew ?_ | refine blk_alloc ?_ _)); exact BK.out⟩, ⟨by repeat (first | (with_reducible first | exact HB.out | apply below_alloc | apply pw_below_drewN | apply below_drew1 | refine below_set ?_ GE.out) | exact HB.out)⟩⟩
    case round =>
      obtain ⟨y, rfl, rfl, HX, BK, HB⟩ := hrel
      obtain ⟨x0, x1, x2⟩ := HX.out
      obtain ⟨kq, rfl⟩ : ∃ m, gk = m + 1 := ⟨gk - 1, by omega⟩
      by_cases hlt : y < (p : Int)
      · have c10 : ((bt a y) != (bt b y)) = false := bne_eq_false_iff_eq.mpr (HP.out.same y (by omega) (by omega))
        have c11 : ((bt a y) == (bt b y)) = true := beq_iff_eq.mpr (HP.out.same y (by omega) (by omega))
        have hw : IntKind.i64.wrap (y + 1) = y + 1 := IntWalk.i64_in _ (by omega)
        have hw2 : IntKind.i64.wrap (y + 1 + 1) = y + 1 + 1 := IntWalk.i64_in _ (by omega)
        have e1 : y < (a.size : Int) := by omega
        have e2 : y < (b.size : Int) := by omega
        have c5 : decide (y + 1 ≤ (a.size : Int)) = true := decide_eq_true (by omega)
        have d5 : decide (y < (a.size : Int)) = true := decide_eq_true (by omega)
        have c6 : decide (y + 1 ≤ (b.size : Int)) = true := decide_eq_true (by omega)
        have d6 : decide (y < (b.size : Int)) = true := decide_eq_true (by omega)
        have p8 : 0 ≤ (y : Int) := by omega
        have q8 : (y : Int) < (a.size : Int) := by omega
        have hx8 := bt_at a (y)
        replace p8 := eq_true p8
        replace q8 := eq_true q8
        have p9 : 0 ≤ (y : Int) := by omega
        have q9 : (y : Int) < (b.size : Int) := by omega
        have hx9 := bt_at b (y)
        replace p9 := eq_true p9
        replace q9 := eq_true q9

        go_wp2
        repeat (go_quiet (fail); try go_wp2)
        go_roundg kq
        case measure => omega
        case rel => exact ⟨y + 1, rfl, rfl, ⟨by omega⟩, ⟨by (with_reducible repeat (first | refine blk_drewN ?_ _ | refine blk_drew ?_ | refine blk_alloc ?_ _)); exact BK.out⟩, ⟨by repeat (first | (with_reducible first | exact HB.out | apply below_alloc | apply pw_below_drewN | apply below_drew1 | refine below_set ?_ GE.out) | exact HB.out)⟩⟩
      · have HE : Aside0 (y = (p : Int)) := ⟨by omega⟩
        have hends := HP.out.ends
        rw [← HE.out] at hends
        by_cases e1 : y < (a.size : Int)
        · by_cases e2 : y < (b.size : Int)
          · have HN := hends (by omega) (by omega)
            have c10 : ((bt a y) != (bt b y)) = true := bne_iff_ne.mpr HN
            have c11 : ((bt a y) == (bt b y)) = false := beq_eq_false_iff_ne.mpr HN
            have hw : IntKind.i64.wrap (y + 1) = y + 1 := IntWalk.i64_in _ (by omega)
            clear hends HN
            have c5 : decide (y + 1 ≤ (a.size : Int)) = true := decide_eq_true (by omega)
            have d5 : decide (y < (a.size : Int)) = true := decide_eq_true (by omega)
            have c6 : decide (y + 1 ≤ (b.size : Int)) = true := decide_eq_true (by omega)
            have d6 : decide (y < (b.size : Int)) = true := decide_eq_true (by omega)
            have p8 : 0 ≤ (y : Int) := by omega
            have q8 : (y : Int) < (a.size : Int) := by omega
            have hx8 := bt_at a (y)
            replace p8 := eq_true p8
            replace q8 := eq_true q8
            have p9 : 0 ≤ (y : Int) := by omega
            have q9 : (y : Int) < (b.size : Int) := by omega
            have hx9 := bt_at b (y)
            replace p9 := eq_true p9
            replace q9 := eq_true q9

            go_wp2
            repeat (go_quiet (fail); try go_wp2)
            go_meet
            case rel => exact ⟨by rw [HE.out], ⟨by (with_reducible repeat (first | refine blk_drewN ?_ _ | refine blk_drew ?_ | refine blk_alloc ?_ _)); exact BK.out⟩, ⟨by repeat (first | (with_reducible first | exact HB.out | apply below_alloc | apply pw_below_drewN | apply below_drew1 | refine below_set ?_ GE.out) | exact HB.out)⟩⟩
          · clear hends
            have c5 : decide (y + 1 ≤ (a.size : Int)) = true := decide_eq_true (by omega)
            have d5 : decide (y < (a.size : Int)) = true := decide_eq_true (by omega)
            have c6 : decide (y + 1 ≤ (b.size : Int)) = false := decide_eq_false (by omega)
            have d6 : decide (y < (b.size : Int)) = false := decide_eq_false (by omega)

            clear e1 e2
            go_wp2
            repeat (go_quiet (fail); try go_wp2)
            go_meet
            case rel => exact ⟨by rw [HE.out], ⟨by (with_reducible repeat (first | refine blk_drewN ?_ _ | refine blk_drew ?_ | refine blk_alloc ?_ _)); exact BK.out⟩, ⟨by repeat (first | (with_reducible first | exact HB.out | apply below_alloc | apply pw_below_drewN | apply below_drew1 | refine below_set ?_ GE.out) | exact HB.out)⟩⟩
        · clear hends
          have c5 : decide (y + 1 ≤ (a.size : Int)) = false := decide_eq_false (by omega)
          have d5 : decide (y < (a.size : Int)) = false := decide_eq_false (by omega)

          clear e1
          go_wp2
          repeat (go_quiet (fail); try go_wp2)
          go_meet
          case rel => exact ⟨by rw [HE.out], ⟨by (with_reducible repeat (first | refine blk_drewN ?_ _ | refine blk_drew ?_ | refine blk_alloc ?_ _)); exact BK.out⟩, ⟨by repeat (first | (with_reducible first | exact HB.out | apply below_alloc | apply pw_below_drewN | apply below_drew1 | refine below_set ?_ GE.out) | exact HB.out)⟩⟩
  case rest =>
    obtain ⟨rfl, BK, HB⟩ := hcut
    have c11 := eq_true (show 0 ≤ (p : Int) by omega)
    have c12 := eq_true (show (p : Int) ≤ (a.size : Int) by omega)
    have c13 := eq_true (show (p : Int) ≤ (b.size : Int) by omega)
    go_wp2
    repeat (go_quiet (fail); try go_wp2)
    have hxs : (a.extract p a.size).size ≤ 140737488351232 := by rw [ByteArray.size_extract]; omega
    have hys : (b.extract p b.size).size ≤ 140737488351232 := by rw [ByteArray.size_extract]; omega
    have hqa := HQ.out.le1
    have hqb := HQ.out.le2
    clear c11 c12 c13
    have HZ : Aside0 (a.size - p = (a.extract p a.size).size) := ⟨by rw [ByteArray.size_extract]; omega⟩
    have HZ2 : Aside0 (b.size - p = (b.extract p b.size).size) := ⟨by rw [ByteArray.size_extract]; omega⟩
    generalize hs : a.extract p a.size = s at *
    generalize ht : b.extract p b.size = t at *
    have HS := Aside0.mk hs
    have HT := Aside0.mk ht
    clear hs ht
    go_loopg [9, 10] (q + 1) (fun kq v9 v10 w' => ∃ y : Int, v9 = .int .i64 y ∧ v10 = .int .i64 (y + 1) ∧ Aside0 (0 ≤ y ∧ y + kq = q + 1 ∧ 1 ≤ kq) ∧ Aside0 (w'.heap[gb]? = some (.cells #[.int .i64 0, .int .i64 0, .string (⟨#[]⟩ : ByteArray)] 23 (0, 0))) ∧ Aside0 (Below w.heap.size w w'))
    case atStart => exact ⟨0, rfl, rfl, ⟨by omega⟩, ⟨by (with_reducible repeat (first | refine blk_drewN ?_ _ | refine blk_drew ?_ | refine blk_alloc ?_ _)); exact BK.out⟩, ⟨by repeat (first | (with_reducible first | exact HB.out | apply below_alloc | apply pw_below_drewN | apply below_drew1 | refine below_set ?_ GE.out) | exact HB.out)⟩⟩
    case round =>
      obtain ⟨y, rfl, rfl, HX, BK, HB⟩ := hrel
      obtain ⟨x0, x1, x2⟩ := HX.out
      obtain ⟨kq, rfl⟩ : ∃ m, gk = m + 1 := ⟨gk - 1, by omega⟩
      by_cases hlt : y < (q : Int)
      · have hsame : bt s ((s.size : Int) - (y + 1)) = bt t ((t.size : Int) - (y + 1)) := by
          have := HQ.out.same y (by omega) (by omega)
          rw [show (s.size : Int) - (y + 1) = (s.size : Int) - 1 - y by omega, show (t.size : Int) - (y + 1) = (t.size : Int) - 1 - y by omega]
          exact this
        have c10 : ((bt s ((s.size : Int) - (y + 1))) != (bt t ((t.size : Int) - (y + 1)))) = false := bne_eq_false_iff_eq.mpr hsame
        have c11 : ((bt s ((s.size : Int) - (y + 1))) == (bt t ((t.size : Int) - (y + 1)))) = true := beq_iff_eq.mpr hsame
        clear hsame
        have c5 : decide (y + 1 ≤ (s.size : Int)) = true := decide_eq_true (by omega)
        have d5 : decide (y < (s.size : Int)) = true := decide_eq_true (by omega)
        have c6 : decide (y + 1 ≤ (t.size : Int)) = true := decide_eq_true (by omega)
        have d6 : decide (y < (t.size : Int)) = true := decide_eq_true (by omega)
        have p8 : 0 ≤ ((s.size : Int) - (y + 1) : Int) := by omega
        have q8 : ((s.size : Int) - (y + 1) : Int) < (s.size : Int) := by omega
        have hx8 := bt_at s ((s.size : Int) - (y + 1))
        replace p8 := eq_true p8
        replace q8 := eq_true q8
        have p9 : 0 ≤ ((t.size : Int) - (y + 1) : Int) := by omega
        have q9 : ((t.size : Int) - (y + 1) : Int) < (t.size : Int) := by omega
        have hx9 := bt_at t ((t.size : Int) - (y + 1))
        replace p9 := eq_true p9
        replace q9 := eq_true q9

        have W3 : IntKind.i64.wrap ((s.size : Int) - (y + 1)) = (s.size : Int) - (y + 1) := IntWalk.i64_in _ (by omega)
        have W5 : IntKind.i64.wrap ((t.size : Int) - (y + 1)) = (t.size : Int) - (y + 1) := IntWalk.i64_in _ (by omega)
        have hw2 : IntKind.i64.wrap (y + 1 + 1) = y + 1 + 1 := IntWalk.i64_in _ (by omega)
        have g2 : y < (s.size : Int) := by omega
        have g3 : y < (t.size : Int) := by omega
        have g4 : 0 < y + 1 := by omega
        go_wp2
        repeat (go_quiet (fail); try go_wp2)
        go_roundg kq
        case measure => omega
        case rel => exact ⟨y + 1, rfl, rfl, ⟨by omega⟩, ⟨by (with_reducible repeat (first | refine blk_drewN ?_ _ | refine blk_drew ?_ | refine blk_alloc ?_ _)); exact BK.out⟩, ⟨by repeat (first | (with_reducible first | exact HB.out | apply below_alloc | apply pw_below_drewN | apply below_drew1 | refine below_set ?_ GE.out) | exact HB.out)⟩⟩
      · have HE : Aside0 (y = (q : Int)) := ⟨by omega⟩
        have hends := HQ.out.ends
        rw [← HE.out] at hends
        by_cases e1 : y < (s.size : Int)
        · by_cases e2 : y < (t.size : Int)
          · have HN : bt s ((s.size : Int) - (y + 1)) ≠ bt t ((t.size : Int) - (y + 1)) := by
              have := hends (by omega) (by omega)
              rw [show (s.size : Int) - (y + 1) = (s.size : Int) - 1 - y by omega, show (t.size : Int) - (y + 1) = (t.size : Int) - 1 - y by omega]
              exact this
            have c10 : ((bt s ((s.size : Int) - (y + 1))) != (bt t ((t.size : Int) - (y + 1)))) = true := bne_iff_ne.mpr HN
            have c11 : ((bt s ((s.size : Int) - (y + 1))) == (bt t ((t.size : Int) - (y + 1)))) = false := beq_eq_false_iff_ne.mpr HN
            have W3 : IntKind.i64.wrap ((s.size : Int) - (y + 1)) = (s.size : Int) - (y + 1) := IntWalk.i64_in _ (by omega)
            have W5 : IntKind.i64.wrap ((t.size : Int) - (y + 1)) = (t.size : Int) - (y + 1) := IntWalk.i64_in _ (by omega)
            have g4 : 0 < y + 1 := by omega
            clear hends HN
            have c5 : decide (y + 1 ≤ (s.size : Int)) = true := decide_eq_true (by omega)
            have d5 : decide (y < (s.size : Int)) = true := decide_eq_true (by omega)
            have c6 : decide (y + 1 ≤ (t.size : Int)) = true := decide_eq_true (by omega)
            have d6 : decide (y < (t.size : Int)) = true := decide_eq_true (by omega)
            have p8 : 0 ≤ ((s.size : Int) - (y + 1) : Int) := by omega
            have q8 : ((s.size : Int) - (y + 1) : Int) < (s.size : Int) := by omega
            have hx8 := bt_at s ((s.size : Int) - (y + 1))
            replace p8 := eq_true p8
            replace q8 := eq_true q8
            have p9 : 0 ≤ ((t.size : Int) - (y + 1) : Int) := by omega
            have q9 : ((t.size : Int) - (y + 1) : Int) < (t.size : Int) := by omega
            have hx9 := bt_at t ((t.size : Int) - (y + 1))
            replace p9 := eq_true p9
            replace q9 := eq_true q9

            have hcz_0 : wr.cell? ⟨gb, 0, none⟩ = some (.int .i64 0) := (blk_cell BK.out 0).trans rfl
            have hcz_1 : wr.cell? ⟨gb, 1, none⟩ = some (.int .i64 0) := (blk_cell BK.out 1).trans rfl
            have hcz_2 : wr.cell? ⟨gb, 2, none⟩ = some (.string (⟨#[]⟩ : ByteArray)) := (blk_cell BK.out 2).trans rfl
            have hfz_0 := blk_frozen BK.out 0
            have hfz_1 := blk_frozen BK.out 1
            have hfz_2 := blk_frozen BK.out 2
            have W2 : IntKind.i64.wrap ((s.size : Int) - y) = (s.size : Int) - y := IntWalk.i64_in _ (by omega)
            have W4 : IntKind.i64.wrap ((t.size : Int) - y) = (t.size : Int) - y := IntWalk.i64_in _ (by omega)
            have g0 := eq_true (show 0 ≤ (t.size : Int) - y by omega)
            have g1 := eq_true (show (t.size : Int) - y ≤ (t.size : Int) by omega)
            have g2 : y ≤ (t.size : Int) := by omega
            clear hxs hys hqa hqb hpa hpb ha hb
            go_wp2
            repeat (go_quiet (fail); try go_wp2)
            refine bodyPost_ret (results_cell_row rfl _ _ gb 23 #[.int .i64 (p : Int), .int .i64 ((s.size : Int) - y), .string (t.extract 0 ((t.size : Int) - y).toNat)] (0, 0) _ rfl (by (with_reducible repeat (first | refine blk_drewN ?_ _ | refine blk_drew ?_ | refine blk_alloc ?_ _)); refine blk_put (cs := #[.int .i64 (p : Int), .int .i64 ((s.size : Int) - y), .string (⟨#[]⟩ : ByteArray)]) ?_ 2 _ rfl; (with_reducible repeat (first | refine blk_drewN ?_ _ | refine blk_drew ?_ | refine blk_alloc ?_ _)); refine blk_put (cs := #[.int .i64 (p : Int), .int .i64 0, .string (⟨#[]⟩ : ByteArray)]) ?_ 1 _ rfl; (with_reducible repeat (first | refine blk_drewN ?_ _ | refine blk_drew ?_ | refine blk_alloc ?_ _)); refine blk_put (cs := #[.int .i64 0, .int .i64 0, .string (⟨#[]⟩ : ByteArray)]) ?_ 0 _ rfl; (with_reducible repeat (first | refine blk_drewN ?_ _ | refine blk_drew ?_ | refine blk_alloc ?_ _)); exact BK.out) Try.underlying23 rfl (by kernel_rfl)) rfl ?_
            exact ⟨by first | rw [HS.out, HT.out, HE.out] | (rw [HE.out, HT.out, HZ.out, HZ2.out, show ((t.size : Int) - (q : Int)).toNat = t.size - q from by have := HQ.out.le2; omega]), by repeat (first | (with_reducible first | exact HB.out | apply below_alloc | apply pw_below_drewN | apply below_drew1 | refine below_set ?_ GE.out) | exact HB.out)⟩
          · clear hends
            have c5 : decide (y + 1 ≤ (s.size : Int)) = true := decide_eq_true (by omega)
            have d5 : decide (y < (s.size : Int)) = true := decide_eq_true (by omega)
            have c6 : decide (y + 1 ≤ (t.size : Int)) = false := decide_eq_false (by omega)
            have d6 : decide (y < (t.size : Int)) = false := decide_eq_false (by omega)

            have hcz_0 : wr.cell? ⟨gb, 0, none⟩ = some (.int .i64 0) := (blk_cell BK.out 0).trans rfl
            have hcz_1 : wr.cell? ⟨gb, 1, none⟩ = some (.int .i64 0) := (blk_cell BK.out 1).trans rfl
            have hcz_2 : wr.cell? ⟨gb, 2, none⟩ = some (.string (⟨#[]⟩ : ByteArray)) := (blk_cell BK.out 2).trans rfl
            have hfz_0 := blk_frozen BK.out 0
            have hfz_1 := blk_frozen BK.out 1
            have hfz_2 := blk_frozen BK.out 2
            have W2 : IntKind.i64.wrap ((s.size : Int) - y) = (s.size : Int) - y := IntWalk.i64_in _ (by omega)
            have W4 : IntKind.i64.wrap ((t.size : Int) - y) = (t.size : Int) - y := IntWalk.i64_in _ (by omega)
            have g0 := eq_true (show 0 ≤ (t.size : Int) - y by omega)
            have g1 := eq_true (show (t.size : Int) - y ≤ (t.size : Int) by omega)
            have g2 : y ≤ (t.size : Int) := by omega
            clear e1 e2 hxs hys hqa hqb hpa hpb ha hb
            go_wp2
            repeat (go_quiet (fail); try go_wp2)
            refine bodyPost_ret (results_cell_row rfl _ _ gb 23 #[.int .i64 (p : Int), .int .i64 ((s.size : Int) - y), .string (t.extract 0 ((t.size : Int) - y).toNat)] (0, 0) _ rfl (by (with_reducible repeat (first | refine blk_drewN ?_ _ | refine blk_drew ?_ | refine blk_alloc ?_ _)); refine blk_put (cs := #[.int .i64 (p : Int), .int .i64 ((s.size : Int) - y), .string (⟨#[]⟩ : ByteArray)]) ?_ 2 _ rfl; (with_reducible repeat (first | refine blk_drewN ?_ _ | refine blk_drew ?_ | refine blk_alloc ?_ _)); refine blk_put (cs := #[.int .i64 (p : Int), .int .i64 0, .string (⟨#[]⟩ : ByteArray)]) ?_ 1 _ rfl; (with_reducible repeat (first | refine blk_drewN ?_ _ | refine blk_drew ?_ | refine blk_alloc ?_ _)); refine blk_put (cs := #[.int .i64 0, .int .i64 0, .string (⟨#[]⟩ : ByteArray)]) ?_ 0 _ rfl; (with_reducible repeat (first | refine blk_drewN ?_ _ | refine blk_drew ?_ | refine blk_alloc ?_ _)); exact BK.out) Try.underlying23 rfl (by kernel_rfl)) rfl ?_
            exact ⟨by first | rw [HS.out, HT.out, HE.out] | (rw [HE.out, HT.out, HZ.out, HZ2.out, show ((t.size : Int) - (q : Int)).toNat = t.size - q from by have := HQ.out.le2; omega]), by repeat (first | (with_reducible first | exact HB.out | apply below_alloc | apply pw_below_drewN | apply below_drew1 | refine below_set ?_ GE.out) | exact HB.out)⟩
        · clear hends
          have c5 : decide (y + 1 ≤ (s.size : Int)) = false := decide_eq_false (by omega)
          have d5 : decide (y < (s.size : Int)) = false := decide_eq_false (by omega)

          have hcz_0 : wr.cell? ⟨gb, 0, none⟩ = some (.int .i64 0) := (blk_cell BK.out 0).trans rfl
          have hcz_1 : wr.cell? ⟨gb, 1, none⟩ = some (.int .i64 0) := (blk_cell BK.out 1).trans rfl
          have hcz_2 : wr.cell? ⟨gb, 2, none⟩ = some (.string (⟨#[]⟩ : ByteArray)) := (blk_cell BK.out 2).trans rfl
          have hfz_0 := blk_frozen BK.out 0
          have hfz_1 := blk_frozen BK.out 1
          have hfz_2 := blk_frozen BK.out 2
          have W2 : IntKind.i64.wrap ((s.size : Int) - y) = (s.size : Int) - y := IntWalk.i64_in _ (by omega)
          have W4 : IntKind.i64.wrap ((t.size : Int) - y) = (t.size : Int) - y := IntWalk.i64_in _ (by omega)
          have g0 := eq_true (show 0 ≤ (t.size : Int) - y by omega)
          have g1 := eq_true (show (t.size : Int) - y ≤ (t.size : Int) by omega)
          have g2 : y ≤ (t.size : Int) := by omega
          clear e1 hxs hys hqa hqb hpa hpb ha hb
          go_wp2
          repeat (go_quiet (fail); try go_wp2)
          refine bodyPost_ret (results_cell_row rfl _ _ gb 23 #[.int .i64 (p : Int), .int .i64 ((s.size : Int) - y), .string (t.extract 0 ((t.size : Int) - y).toNat)] (0, 0) _ rfl (by (with_reducible repeat (first | refine blk_drewN ?_ _ | refine blk_drew ?_ | refine blk_alloc ?_ _)); refine blk_put (cs := #[.int .i64 (p : Int), .int .i64 ((s.size : Int) - y), .string (⟨#[]⟩ : ByteArray)]) ?_ 2 _ rfl; (with_reducible repeat (first | refine blk_drewN ?_ _ | refine blk_drew ?_ | refine blk_alloc ?_ _)); refine blk_put (cs := #[.int .i64 (p : Int), .int .i64 0, .string (⟨#[]⟩ : ByteArray)]) ?_ 1 _ rfl; (with_reducible repeat (first | refine blk_drewN ?_ _ | refine blk_drew ?_ | refine blk_alloc ?_ _)); refine blk_put (cs := #[.int .i64 0, .int .i64 0, .string (⟨#[]⟩ : ByteArray)]) ?_ 0 _ rfl; (with_reducible repeat (first | refine blk_drewN ?_ _ | refine blk_drew ?_ | refine blk_alloc ?_ _)); exact BK.out) Try.underlying23 rfl (by kernel_rfl)) rfl ?_
          exact ⟨by first | rw [HS.out, HT.out, HE.out] | (rw [HE.out, HT.out, HZ.out, HZ2.out, show ((t.size : Int) - (q : Int)).toNat = t.size - q from by have := HQ.out.le2; omega]), by repeat (first | (with_reducible first | exact HB.out | apply below_alloc | apply pw_below_drewN | apply below_drew1 | refine below_set ?_ GE.out) | exact HB.out)⟩

/-- How many numbers from i on are alike, of n. -/
def alike (f g : Int → Int) : Nat → Nat → Nat
  | i, 0 => i
  | i, n + 1 => if f (i : Int) = g (i : Int) then alike f g (i + 1) n else i
theorem alike_spec (f g : Int → Int) (n : Nat) : ∀ i, i ≤ alike f g i n ∧ alike f g i n ≤ i + n ∧ (∀ j : Int, (i : Int) ≤ j → j < (alike f g i n : Int) → f j = g j) ∧ (alike f g i n < i + n → f (alike f g i n : Int) ≠ g (alike f g i n : Int)) := by
  induction n with
  | zero => intro i; simp only [alike]; exact ⟨Nat.le_refl _, by omega, fun j h1 h2 => by omega, fun h => by omega⟩
  | succ n ih =>
    intro i
    simp only [alike]
    by_cases h : f (i : Int) = g (i : Int)
    · rw [if_pos h]
      obtain ⟨h1, h2, h3, h4⟩ := ih (i + 1)
      refine ⟨by omega, by omega, fun j hj1 hj2 => ?_, fun hh => h4 (by omega)⟩
      by_cases e : j = (i : Int)
      · rw [e]; exact h
      · exact h3 j (by omega) hj2
    · rw [if_neg h]
      exact ⟨Nat.le_refl _, by omega, fun j h1 h2 => by omega, fun _ => h⟩
def common (f g : Int → Int) (n m : Nat) : Nat := alike f g 0 (min n m)
theorem common_is (f g : Int → Int) (n m : Nat) : IsCommon n m f g (common f g n m) := by
  obtain ⟨h1, h2, h3, h4⟩ := alike_spec f g (min n m) 0
  unfold common
  exact ⟨by omega, by omega, fun j hj1 hj2 => h3 j (by omega) hj2, fun g1 g2 => h4 (by omega)⟩
def head (a b : ByteArray) : Nat := common (bt a) (bt b) a.size b.size
def tail (s t : ByteArray) : Nat := common (fun j => bt s ((s.size : Int) - 1 - j)) (fun j => bt t ((t.size : Int) - 1 - j)) s.size t.size
def diff (a b : ByteArray) : Int × Int × ByteArray :=
  let p := head a b
  let s := a.extract p a.size
  let t := b.extract p b.size
  ((p : Int), (s.size : Int) - (tail s t : Int), t.extract 0 ((t.size : Int) - (tail s t : Int)).toNat)
/-- A function of the program, told by what it answers where the texts' sizes fit. -/
def edit_Diff.f (k : Nat) (a b : ByteArray) : Option (Int × Int × ByteArray) := if a.size ≤ 140737488351232 ∧ b.size ≤ 140737488351232 then some (diff a b) else none
theorem edit_Diff.mono : ∀ a0 a1 k, LeO (edit_Diff.f k a0 a1) (edit_Diff.f (k + 1) a0 a1) := fun _ _ _ => LeO.refl _
theorem edit_Diff.calls (k : Nat) (a0 : ByteArray) (a1 : ByteArray) (r1 : Int) (r2 : Int) (r3 : ByteArray) (w : World) (h : edit_Diff.f k a0 a1 = some (r1, r2, r3)) :
    Calls Try.prog 30 #[.string a0, .string a1] w fun e w' => e = .returned (.agg #[.int .i64 r1, .int .i64 r2, .string r3]) ∧ Below w.heap.size w w' := by
  unfold edit_Diff.f at h
  by_cases hc : a0.size ≤ 140737488351232 ∧ a1.size ≤ 140737488351232
  · rw [if_pos hc] at h
    have h := Option.some.inj h
    unfold diff at h
    simp only [Prod.mk.injEq] at h
    obtain ⟨rfl, rfl, rfl⟩ := h
    exact diff_calls a0 a1 _ _ hc.1 hc.2 (common_is _ _ _ _) (common_is _ _ _ _) w
  · rw [if_neg hc] at h
    cases h
def topiaryref01_Diff.f (k : Nat) (a b : ByteArray) : Option (Int × Int × ByteArray) := if a.size ≤ 140737488351232 ∧ b.size ≤ 140737488351232 then some (diff a b) else none
theorem topiaryref01_Diff.mono : ∀ a0 a1 k, LeO (topiaryref01_Diff.f k a0 a1) (topiaryref01_Diff.f (k + 1) a0 a1) := fun _ _ _ => LeO.refl _
theorem topiaryref01_Diff.calls (k : Nat) (a0 : ByteArray) (a1 : ByteArray) (r1 : Int) (r2 : Int) (r3 : ByteArray) (w : World) (h : topiaryref01_Diff.f k a0 a1 = some (r1, r2, r3)) :
    Calls Try.prog 31 #[.string a0, .string a1] w fun e w' => e = .returned (.agg #[.int .i64 r1, .int .i64 r2, .string r3]) ∧ Below w.heap.size w w' := by
  unfold topiaryref01_Diff.f at h
  by_cases hc : a0.size ≤ 140737488351232 ∧ a1.size ≤ 140737488351232
  · rw [if_pos hc] at h
    have h := Option.some.inj h
    unfold diff at h
    simp only [Prod.mk.injEq] at h
    obtain ⟨rfl, rfl, rfl⟩ := h
    exact rdiff_calls a0 a1 _ _ hc.1 hc.2 (common_is _ _ _ _) (common_is _ _ _ _) w
  · rw [if_neg hc] at h
    cases h
end Go.Proofs.Ytfdpaaacgakaaaa.PEditBoth
