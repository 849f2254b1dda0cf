/- Proved here: what sort.Search, lines.Place and the law LinesPlaces come to, by their walks; conditions as stated. -/
import Derived.Test.YtfdpaaacgakaaaaPLinesPlacesx
import Derived.IntWalk
namespace Go.Proofs.Ytfdpaaacgakaaaa.PLinesPlaces
open Go.RowKit Go.Proofs.YtfdpaaacgakaaaaW.PrintWords Go.Proofs.YtfdpaaacgakaaaaW.PrintLast Go.Proofs.YtfdpaaacgakaaaaW.PrintMore
set_option linter.unusedVariables false
set_option linter.unusedSimpArgs false
/-- What the function that the search asks reads: the list and the place, out of their cells. -/
def Asks (w : World) (gl ga : Nat) (A : Option Addr) (c : Nat) (l : List Int) (at_ : Int) : Prop :=
  w.cell? ⟨gl, 0, none⟩ = some (.slice A l.length c) ∧ w.cell? ⟨ga, 0, none⟩ = some (.int .i64 at_) ∧ Kd.C (Kd.int .i64) w A l.length l
theorem Asks.drew {w : World} {gl ga : Nat} {A : Option Addr} {c : Nat} {l : List Int} {at_ : Int} (h : Asks w gl ga A c l at_) (n : Nat) : Asks (w.drewN n) gl ga A c l at_ :=
  ⟨by rw [World.cell?_drewN]; exact h.1, by rw [World.cell?_drewN]; exact h.2.1, Kd.C_drewN h.2.2 n⟩
set_option maxHeartbeats 4000000 in
set_option maxRecDepth 100000 in
theorem ask_calls (l : List Int) (at_ i : Int) (gl ga : Nat) (A : Option Addr) (c : Nat) (w : World) (h : Asks w gl ga A c l at_) (h0 : 0 ≤ i) (h1 : i < (l.length : Int)) (b : Bool) (hb : decide (at_ < rd l i) = b) :
    Calls Try.prog 40 #[.int .i64 i, .pointer (some ⟨gl, 0, none⟩), .pointer (some ⟨ga, 0, none⟩)] w fun e w' => e = .returned (.bool b) ∧ Drawn0 w w' := by
  obtain ⟨hl, ha, hc⟩ := h
  obtain ⟨ad, e1, hx⟩ := Kd.at_int hc i h0 h1
  cases e1
  have q := decide_eq_true h1
  replace h0 := eq_true h0
  replace h1 := eq_true h1
  go_enter Try.func40, Try.ntmps40
  go_wp2
  repeat (go_quiet (fail); try go_wp2)
  go_ret
  exact ⟨rfl, ⟨_, rfl⟩⟩
set_option maxHeartbeats 4000000 in
set_option maxRecDepth 100000 in
theorem search_calls (l : List Int) (at_ : Int) (p : Nat) (gl ga : Nat) (A : Option Addr) (c : Nat) (w : World) (h : Asks w gl ga A c l at_) (hn : l.length ≤ 10000) (hp : p ≤ l.length)
    (h1 : ∀ i : Int, 0 ≤ i → i < (p : Int) → decide (at_ < rd l i) = false) (h2 : ∀ i : Int, (p : Int) ≤ i → i < (l.length : Int) → decide (at_ < rd l i) = true) :
    Calls Try.prog 39 #[.int .i64 (l.length : Int), .func (.func 40) #[] #[.pointer (some ⟨gl, 0, none⟩), .pointer (some ⟨ga, 0, none⟩)]] w fun e w' => e = .returned (.int .i64 (p : Int)) ∧ Drawn0 w w' := by
  have HH := Aside0.mk h
  have H1 := Aside0.mk h1
  have H2 := Aside0.mk h2
  clear h h1 h2
  go_enter Try.func39, Try.ntmps39
  go_wp2
  go_loopg [5, 6] l.length (fun kq v5 v6 w' => ∃ x y : Int, v5 = .int .i64 x ∧ v6 = .int .i64 y ∧ Aside0 (0 ≤ x ∧ x ≤ (p : Int) ∧ (p : Int) ≤ y ∧ y ≤ (l.length : Int) ∧ y - x ≤ (kq : Int)) ∧ Drawn0 w w')
  case atStart => exact ⟨0, _, rfl, rfl, ⟨by omega⟩, ⟨0, rfl⟩⟩
  case round =>
    obtain ⟨x, y, rfl, rfl, HX, ⟨nd, rfl⟩⟩ := hrel
    obtain ⟨x0, x1, x2, x3, x4⟩ := HX.out
    by_cases hlt : x < y
    · have c0 : decide (x < y) = true := decide_eq_true hlt
      obtain ⟨kq, rfl⟩ : ∃ m, gk = m + 1 := ⟨gk - 1, by omega⟩
      obtain ⟨m, hm⟩ : ∃ m : Int, m = (x + y) / 2 := ⟨_, rfl⟩
      have hm1 : x ≤ m ∧ m < y := by omega
      have hm0 : 0 ≤ m ∧ m < (l.length : Int) := by omega
      by_cases hmp : m < (p : Int)
      · have hb := H1.out m hm0.1 hmp
        rw [hm] at hb hm0
        have HBq := Aside0.mk hb
        have HM := Aside0.mk (show 0 ≤ (x + y) / 2 + 1 ∧ (x + y) / 2 + 1 ≤ (p : Int) ∧ y - ((x + y) / 2 + 1) ≤ (kq : Int) by omega)
        have HM0 := Aside0.mk hm0
        have hm1 : 0 ≤ (x + y) / 2 := hm0.1
        have hm2 : (x + y) / 2 ≤ 10000 := by omega
        clear hb hm0 hm hmp
        go_wp2_with ((with_reducible refine (ask_calls l at_ ((x + y) / 2) gl ga A c _ (Asks.drew HH.out nd) HM0.out.1 HM0.out.2 _ HBq.out).mono ?_); rintro e w' ⟨rfl, ⟨nd2, rfl⟩⟩)
        go_roundg kq
        case measure => omega
        case rel => exact ⟨(x + y) / 2 + 1, y, rfl, rfl, ⟨by have := HM.out; omega⟩, ⟨nd + nd2, rfl⟩⟩
      · have hb := H2.out m (by omega) hm0.2
        rw [hm] at hb hm0
        have HBq := Aside0.mk hb
        have HM := Aside0.mk (show 0 ≤ (x + y) / 2 ∧ (p : Int) ≤ (x + y) / 2 ∧ (x + y) / 2 ≤ (l.length : Int) ∧ (x + y) / 2 - x ≤ (kq : Int) by omega)
        have HM0 := Aside0.mk hm0
        have hm1 : 0 ≤ (x + y) / 2 := hm0.1
        have hm2 : (x + y) / 2 ≤ 10000 := by omega
        clear hb hm0 hm hmp
        go_wp2_with ((with_reducible refine (ask_calls l at_ ((x + y) / 2) gl ga A c _ (Asks.drew HH.out nd) HM0.out.1 HM0.out.2 _ HBq.out).mono ?_); rintro e w' ⟨rfl, ⟨nd2, rfl⟩⟩)
        go_roundg kq
        case measure => omega
        case rel => exact ⟨x, (x + y) / 2, rfl, rfl, ⟨by have := HM.out; omega⟩, ⟨nd + nd2, rfl⟩⟩
    · have c0 : decide (x < y) = false := decide_eq_false hlt
      have HE : Aside0 (x = (p : Int)) := ⟨by omega⟩
      clear hlt
      go_wp2
      go_ret
      exact ⟨by show Ending.returned (.int .i64 x) = _; rw [HE.out], ⟨nd, rfl⟩⟩
set_option maxHeartbeats 4000000 in
set_option maxRecDepth 100000 in
theorem place_refused (s : ByteArray) (a : Int) (w : World) (h : a < 0 ∨ (s.size : Int) < a) :
    Calls Try.prog 33 #[.string s, .int .i64 a] w fun e w' => e = .returned (.tuple #[.int .i64 0, .int .i64 0, .int .i64 2]) ∧ Below w.heap.size w w' := by
  have HB := Aside0.mk (Below.refl w.heap.size w)
  by_cases h0 : a < 0
  · have c0 : decide (a < 0) = true := decide_eq_true h0
    clear h h0
    go_enter Try.func33, Try.ntmps33
    go_wp2
    go_ret3
    exact ⟨rfl, below_alloc HB.out _⟩
  · have c0 : decide (a < 0) = false := decide_eq_false h0
    have c1 : decide ((s.size : Int) < a) = true := decide_eq_true (by omega)
    clear h h0
    go_enter Try.func33, Try.ntmps33
    go_wp2
    go_ret3
    exact ⟨rfl, below_alloc HB.out _⟩
set_option maxHeartbeats 4000000 in
set_option maxRecDepth 100000 in
theorem place_calls (k : Nat) (s : ByteArray) (a : Int) (l : List Int) (p : Nat) (w : World) (h0 : 0 ≤ a) (h1 : a ≤ (s.size : Int)) (hs : s.size ≤ 10000) (hst : lines_Starts.f k s = some l) (hn : l.length ≤ 10000) (hp0 : 1 ≤ p) (hp : p ≤ l.length) (hr : 0 ≤ rd l ((p : Int) - 1) ∧ rd l ((p : Int) - 1) ≤ 10000)
    (q1 : ∀ i : Int, 0 ≤ i → i < (p : Int) → decide (a < rd l i) = false) (q2 : ∀ i : Int, (p : Int) ≤ i → i < (l.length : Int) → decide (a < rd l i) = true) :
    Calls Try.prog 33 #[.string s, .int .i64 a] w fun e w' => e = .returned (.tuple #[.int .i64 (p : Int), .int .i64 (a - rd l ((p : Int) - 1) + 1), .int .i64 0]) ∧ Below w.heap.size w w' := by
  have HB := Aside0.mk (Below.refl w.heap.size w)
  have HST := Aside0.mk hst
  have Q1 := Aside0.mk q1
  have Q2 := Aside0.mk q2
  have c0 : decide (a < 0) = false := decide_eq_false (by omega)
  have c1 : decide ((s.size : Int) < a) = false := decide_eq_false (by omega)
  clear hst q1 q2
  go_enter Try.func33, Try.ntmps33
  have hmf : ∀ (fn : Fn) (first cap : Array Value) (w : World), (Instr.makeFunc fn first cap).run Try.prog w = .ok (.func fn first cap) w := fun _ _ _ _ => rfl
  go_wp2_with (first
    | ((with_reducible refine gate_dst (N := 3) rfl ?_); (try (refine gate_guard (by rfl) ?_; dsimp only)); refine box_event ?hg (N := 3) ?hd (cs := #[.int .i64 a]) (t := 3) ?hr ?_; (case hd => rfl); (case hg => rfl); (case hr => first | (go_simp; done) | (go_simp; rfl)); intro ga hg wb_ga hbox hb; have m_HB := Aside0.mk (below_step HB.out hb); clear HB; have HB := m_HB; clear m_HB hb; have BA := Aside0.mk hbox; have hz1 : wb_ga.cell? ⟨ga, 0, none⟩ = some (.int .i64 a) := (blk_cell BA.out 0).trans rfl; clear hbox hg)
    | ((with_reducible refine gate_callee (f := 20) rfl ?_); refine goesL_ (some 18) rfl rfl Try.func20 (by kernel_rfl) rfl #[.string s] rfl (by (try simp only [List.map_toArray, List.map_cons, List.map_nil]); first | done | rfl) ?_; (with_reducible refine (lines_Starts.calls k s l _ HST.out).mono ?_); rintro e w1 ⟨v0, rfl, hR, hb⟩; obtain ⟨A, c, rfl⟩ := Kd.R_slice hR; refine ⟨_, rfl, ?_⟩; have BA1 := Aside0.mk (blk_below BA.out hb); have m_HB := Aside0.mk (below_step HB.out hb); clear HB BA; have HB := m_HB; have BA := BA1; clear m_HB BA1 hb; have HR := Aside0.mk hR; clear hR)
    | ((with_reducible refine gate_dst (N := 7) rfl ?_); (try (refine gate_guard (by rfl) ?_; dsimp only)); refine box_event ?hg (N := 7) ?hd (cs := #[.slice none 0 0]) (t := 32) ?hr ?_; (case hd => rfl); (case hg => rfl); (case hr => first | (go_simp; done) | (go_simp; rfl)); intro gl hg wb_gl hbox hb; have NE := Aside0.mk ((by rw [hg]; exact Nat.ne_of_lt (blk_lt BA.out)) : ga ≠ gl); have GE := Aside0.mk ((by rw [hg]; exact below_size HB.out) : w.heap.size ≤ gl); have BA1 := Aside0.mk (blk_below BA.out hb); have m_HB := Aside0.mk (below_step HB.out hb); have HR1 := Aside0.mk (Kd.R_below (Kd.R_elderB HR.out gl (Nat.le_of_eq hg.symm)) hb); clear HB BA HR; have HB := m_HB; have BA := BA1; have HR := HR1; clear m_HB BA1 HR1 hb; have BL := Aside0.mk hbox; have hz2 : wb_gl.cell? ⟨gl, 0, none⟩ = some (.slice none 0 0) := (blk_cell BL.out 0).trans rfl; have hf2 := blk_frozen BL.out 0; have hne := NE.out; have hne2 : gl ≠ ga := fun h_ => NE.out h_.symm; clear hbox hg))
  have HR2 := Aside0.mk (Kd.R_far (p := ⟨gl, 0, none⟩) HR.out (fun _ hk => hk.2) (.slice A l.length c))
  have BL2 := Aside0.mk (blk_put (cs := #[.slice none 0 0]) BL.out 0 (.slice A l.length c) rfl)
  have BA2 := Aside0.mk (blk_far BA.out NE.out (.slice A l.length c) (p := ⟨gl, 0, none⟩))
  have HB2 : Aside0 (Below w.heap.size w (wb_gl.setCell ⟨gl, 0, none⟩ (.slice A l.length c))) := ⟨by refine below_set ?_ GE.out; exact HB.out⟩
  clear HR BL BA HB hz1 hz2 hf2
  generalize wb_gl.setCell ⟨gl, 0, none⟩ (.slice A l.length c) = W at *
  have HC := Aside0.mk (Kd.R_reads' HR2.out).2.2
  have hz1 : W.cell? ⟨ga, 0, none⟩ = some (.int .i64 a) := (blk_cell BA2.out 0).trans rfl
  have hz2 : W.cell? ⟨gl, 0, none⟩ = some (.slice A l.length c) := (blk_cell BL2.out 0).trans rfl
  have HQ := Aside0.mk (show Asks W gl ga A c l a from ⟨hz2, hz1, HC.out⟩)
  (with_reducible refine (search_calls l a p gl ga A c W HQ.out hn hp Q1.out Q2.out).mono ?_)
  rintro e w' ⟨rfl, ⟨nd, rfl⟩⟩
  have hp1 : 1 ≤ (p : Int) := by omega
  have hp2 : (p : Int) ≤ (l.length : Int) := by omega
  clear hp0 hp
  generalize hz : (p : Int) = z at *
  have HZ := Aside0.mk hz
  clear hz
  obtain ⟨ad, e1, hx⟩ := Kd.at_int HC.out (z - 1) (by omega) (by omega)
  cases e1
  have hx2 : W.cell? (ad.add (z.toNat - 1)) = some (.int .i64 (rd l (z - 1))) := by rw [show z.toNat - 1 = (z - 1).toNat from by omega]; exact hx
  have r0 := eq_true (show 0 ≤ z - 1 by omega)
  have r1 := eq_true (show z - 1 < (l.length : Int) by omega)
  have r2 : 1 ≤ z := by omega
  have r3 : z ≤ (l.length : Int) := by omega
  have wr1 : IntKind.i64.wrap (z - 1) = z - 1 := IntWalk.i64_in _ (by omega)
  have wr2 : IntKind.i64.wrap (a - rd l (z - 1)) = a - rd l (z - 1) := IntWalk.i64_in _ (by omega)
  have wr3 : IntKind.i64.wrap (a - rd l (z - 1) + 1) = a - rd l (z - 1) + 1 := IntWalk.i64_in _ (by omega)
  go_wp2
  go_quiet (fail)
  try go_wp2
  go_ret3
  exact ⟨by show Ending.returned (.tuple #[.int .i64 z, .int .i64 (a - rd l (z - 1) + 1), .int .i64 0]) = _; rw [← HZ.out], by repeat (first | (with_reducible first | exact HB2.out | apply below_alloc | apply pw_below_drewN | apply below_drew1) | exact HB2.out)⟩
set_option maxHeartbeats 4000000 in
set_option maxRecDepth 100000 in
theorem law_long (k : Nat) (s : ByteArray) (a : Int) (w : World) (hw : topiarylaw03_wakes.f k = some true) (hl : topiarylaw03_long.f s = some true) :
    Calls Try.prog 12 #[.string s, .int .i64 a] w fun e w' => e = .returned (.bool true) ∧ Below w.heap.size w w' := by
  have HB := Aside0.mk (Below.refl w.heap.size w)
  have HW := Aside0.mk hw
  have HL := Aside0.mk hl
  clear hw hl
  go_enter Try.func12, Try.ntmps12
  go_wp2_with (first
    | ((with_reducible refine gate_callee (f := 17) rfl ?_); (try (refine gate_guard (by rfl) ?_; dsimp only)); refine goesL_ (some 10) rfl rfl Try.func17 (by kernel_rfl) rfl #[] rfl (by (try simp only [List.map_toArray, List.map_cons, List.map_nil]); first | done | rfl) ?_; (with_reducible refine (topiarylaw03_wakes.calls k true _ HW.out).mono ?_); rintro e w1 ⟨rfl, hb⟩; refine ⟨_, rfl, ?_⟩; have m_HB := Aside0.mk (below_step (by repeat (first | (with_reducible first | exact HB.out | apply below_alloc | apply pw_below_drewN | apply below_drew1) | exact HB.out)) hb); clear HB; have HB := m_HB; clear m_HB; (try clear hb))
    | ((with_reducible refine gate_callee (f := 18) rfl ?_); (try (refine gate_guard (by rfl) ?_; dsimp only)); refine goesL_ (some 13) rfl rfl Try.func18 (by kernel_rfl) rfl #[.string s] rfl (by (try simp only [List.map_toArray, List.map_cons, List.map_nil]); first | done | rfl) ?_; (with_reducible refine (topiarylaw03_long.calls s true _ HL.out).mono ?_); rintro e w' ⟨rfl, ⟨nd, rfl⟩⟩; refine ⟨_, rfl, ?_⟩))
  go_ret
  exact ⟨by first | rfl | simp, (by repeat (first | (with_reducible first | exact HB.out | apply below_alloc | apply pw_below_drewN | apply below_drew1) | exact HB.out))⟩
set_option maxHeartbeats 4000000 in
set_option maxRecDepth 100000 in
theorem law_below (k : Nat) (s : ByteArray) (a : Int) (w : World) (hw : topiarylaw03_wakes.f k = some true) (hl : topiarylaw03_long.f s = some false) (h : a < 0) :
    Calls Try.prog 12 #[.string s, .int .i64 a] w fun e w' => e = .returned (.bool true) ∧ Below w.heap.size w w' := by
  have HB := Aside0.mk (Below.refl w.heap.size w)
  have HW := Aside0.mk hw
  have HL := Aside0.mk hl
  have HA := Aside0.mk (Or.inl h : a < 0 ∨ (s.size : Int) < a)
  have c0 : decide (a < 0) = true := decide_eq_true h
  clear hw hl h
  go_enter Try.func12, Try.ntmps12
  go_wp2_with (first
    | ((with_reducible refine gate_callee (f := 17) rfl ?_); (try (refine gate_guard (by rfl) ?_; dsimp only)); refine goesL_ (some 10) rfl rfl Try.func17 (by kernel_rfl) rfl #[] rfl (by (try simp only [List.map_toArray, List.map_cons, List.map_nil]); first | done | rfl) ?_; (with_reducible refine (topiarylaw03_wakes.calls k true _ HW.out).mono ?_); rintro e w1 ⟨rfl, hb⟩; refine ⟨_, rfl, ?_⟩; have m_HB := Aside0.mk (below_step (by repeat (first | (with_reducible first | exact HB.out | apply below_alloc | apply pw_below_drewN | apply below_drew1) | exact HB.out)) hb); clear HB; have HB := m_HB; clear m_HB; (try clear hb))
    | ((with_reducible refine gate_callee (f := 18) rfl ?_); (try (refine gate_guard (by rfl) ?_; dsimp only)); refine goesL_ (some 13) rfl rfl Try.func18 (by kernel_rfl) rfl #[.string s] rfl (by (try simp only [List.map_toArray, List.map_cons, List.map_nil]); first | done | rfl) ?_; (with_reducible refine (topiarylaw03_long.calls s false _ HL.out).mono ?_); rintro e w' ⟨rfl, ⟨nd, rfl⟩⟩; refine ⟨_, rfl, ?_⟩)
    | ((with_reducible refine gate_callee (f := 33) rfl ?_); (try (refine gate_guard (by rfl) ?_; dsimp only)); refine goesL_ (some 17) rfl rfl Try.func33 (by kernel_rfl) rfl #[.string s, .int .i64 a] rfl (by (try simp only [List.map_toArray, List.map_cons, List.map_nil]); first | done | rfl) ?_; (with_reducible refine (place_refused s a _ HA.out).mono ?_); rintro e w1 ⟨rfl, hb⟩; refine ⟨_, rfl, ?_⟩; have m_HB := Aside0.mk (below_step (by repeat (first | (with_reducible first | exact HB.out | apply below_alloc | apply pw_below_drewN | apply below_drew1) | exact HB.out)) hb); clear HB; have HB := m_HB; clear m_HB; (try clear hb)))
  go_ret
  exact ⟨by first | rfl | simp, (by repeat (first | (with_reducible first | exact HB.out | apply below_alloc | apply pw_below_drewN | apply below_drew1) | exact HB.out))⟩
set_option maxHeartbeats 4000000 in
set_option maxRecDepth 100000 in
theorem law_above (k : Nat) (s : ByteArray) (a : Int) (w : World) (hw : topiarylaw03_wakes.f k = some true) (hl : topiarylaw03_long.f s = some false) (h0 : 0 ≤ a) (h : (s.size : Int) < a) :
    Calls Try.prog 12 #[.string s, .int .i64 a] w fun e w' => e = .returned (.bool true) ∧ Below w.heap.size w w' := by
  have HB := Aside0.mk (Below.refl w.heap.size w)
  have HW := Aside0.mk hw
  have HL := Aside0.mk hl
  have HA := Aside0.mk (Or.inr h : a < 0 ∨ (s.size : Int) < a)
  have c0 : decide (a < 0) = false := decide_eq_false (by omega)
  have c1 : decide ((s.size : Int) < a) = true := decide_eq_true h
  clear hw hl h0 h
  go_enter Try.func12, Try.ntmps12
  go_wp2_with (first
    | ((with_reducible refine gate_callee (f := 17) rfl ?_); (try (refine gate_guard (by rfl) ?_; dsimp only)); refine goesL_ (some 10) rfl rfl Try.func17 (by kernel_rfl) rfl #[] rfl (by (try simp only [List.map_toArray, List.map_cons, List.map_nil]); first | done | rfl) ?_; (with_reducible refine (topiarylaw03_wakes.calls k true _ HW.out).mono ?_); rintro e w1 ⟨rfl, hb⟩; refine ⟨_, rfl, ?_⟩; have m_HB := Aside0.mk (below_step (by repeat (first | (with_reducible first | exact HB.out | apply below_alloc | apply pw_below_drewN | apply below_drew1) | exact HB.out)) hb); clear HB; have HB := m_HB; clear m_HB; (try clear hb))
    | ((with_reducible refine gate_callee (f := 18) rfl ?_); (try (refine gate_guard (by rfl) ?_; dsimp only)); refine goesL_ (some 13) rfl rfl Try.func18 (by kernel_rfl) rfl #[.string s] rfl (by (try simp only [List.map_toArray, List.map_cons, List.map_nil]); first | done | rfl) ?_; (with_reducible refine (topiarylaw03_long.calls s false _ HL.out).mono ?_); rintro e w' ⟨rfl, ⟨nd, rfl⟩⟩; refine ⟨_, rfl, ?_⟩)
    | ((with_reducible refine gate_callee (f := 33) rfl ?_); (try (refine gate_guard (by rfl) ?_; dsimp only)); refine goesL_ (some 17) rfl rfl Try.func33 (by kernel_rfl) rfl #[.string s, .int .i64 a] rfl (by (try simp only [List.map_toArray, List.map_cons, List.map_nil]); first | done | rfl) ?_; (with_reducible refine (place_refused s a _ HA.out).mono ?_); rintro e w1 ⟨rfl, hb⟩; refine ⟨_, rfl, ?_⟩; have m_HB := Aside0.mk (below_step (by repeat (first | (with_reducible first | exact HB.out | apply below_alloc | apply pw_below_drewN | apply below_drew1) | exact HB.out)) hb); clear HB; have HB := m_HB; clear m_HB; (try clear hb)))
  go_ret
  exact ⟨by first | rfl | simp, (by repeat (first | (with_reducible first | exact HB.out | apply below_alloc | apply pw_below_drewN | apply below_drew1) | exact HB.out))⟩
set_option maxHeartbeats 4000000 in
set_option maxRecDepth 100000 in
theorem law_there (k : Nat) (s : ByteArray) (a : Int) (w : World) (hw : topiarylaw03_wakes.f k = some true) (hl : topiarylaw03_long.f s = some false) (l : List Int) (p : Nat) (col : Int) (h0 : 0 ≤ a) (h1 : a ≤ (s.size : Int)) (hs : s.size ≤ 10000) (hst : lines_Starts.f k s = some l) (hn : l.length ≤ 10000) (hp0 : 1 ≤ p) (hp : p ≤ l.length) (hr : 0 ≤ rd l ((p : Int) - 1) ∧ rd l ((p : Int) - 1) ≤ 10000) (q1 : ∀ i : Int, 0 ≤ i → i < (p : Int) → decide (a < rd l i) = false) (q2 : ∀ i : Int, (p : Int) ≤ i → i < (l.length : Int) → decide (a < rd l i) = true) (hc : a - rd l ((p : Int) - 1) + 1 = col) (hat : lines_At.f k s (p : Int) col = some (a, 0)) (hli : topiaryref03_Line.f k s a = some (p : Int)) (hco : topiaryref03_Column.f k s a = some col) :
    Calls Try.prog 12 #[.string s, .int .i64 a] w fun e w' => e = .returned (.bool true) ∧ Below w.heap.size w w' := by
  have HB := Aside0.mk (Below.refl w.heap.size w)
  have HW := Aside0.mk hw
  have HL := Aside0.mk hl
  have HAT := Aside0.mk hat
  have HLI := Aside0.mk hli
  have HCO := Aside0.mk hco
  have HPL : ∀ w0 : World, Calls Try.prog 33 #[.string s, .int .i64 a] w0 fun e w' => e = .returned (.tuple #[.int .i64 (p : Int), .int .i64 col, .int .i64 0]) ∧ Below w0.heap.size w0 w' := by
    intro w0
    have := place_calls k s a l p w0 h0 h1 hs hst hn hp0 hp hr q1 q2
    rw [hc] at this
    exact this
  have HP := Aside0.mk HPL
  have c0 : decide (a < 0) = false := decide_eq_false (by omega)
  have c1 : decide ((s.size : Int) < a) = false := decide_eq_false (by omega)
  clear HPL hw hl h0 h1 hs hst hn hp0 hp hr q1 q2 hc hat hli hco
  go_enter Try.func12, Try.ntmps12
  go_wp2_with (first
    | ((with_reducible refine gate_callee (f := 17) rfl ?_); (try (refine gate_guard (by rfl) ?_; dsimp only)); refine goesL_ (some 10) rfl rfl Try.func17 (by kernel_rfl) rfl #[] rfl (by (try simp only [List.map_toArray, List.map_cons, List.map_nil]); first | done | rfl) ?_; (with_reducible refine (topiarylaw03_wakes.calls k true _ HW.out).mono ?_); rintro e w1 ⟨rfl, hb⟩; refine ⟨_, rfl, ?_⟩; have m_HB := Aside0.mk (below_step (by repeat (first | (with_reducible first | exact HB.out | apply below_alloc | apply pw_below_drewN | apply below_drew1) | exact HB.out)) hb); clear HB; have HB := m_HB; clear m_HB; (try clear hb))
    | ((with_reducible refine gate_callee (f := 18) rfl ?_); (try (refine gate_guard (by rfl) ?_; dsimp only)); refine goesL_ (some 13) rfl rfl Try.func18 (by kernel_rfl) rfl #[.string s] rfl (by (try simp only [List.map_toArray, List.map_cons, List.map_nil]); first | done | rfl) ?_; (with_reducible refine (topiarylaw03_long.calls s false _ HL.out).mono ?_); rintro e w' ⟨rfl, ⟨nd, rfl⟩⟩; refine ⟨_, rfl, ?_⟩)
    | ((with_reducible refine gate_callee (f := 33) rfl ?_); (try (refine gate_guard (by rfl) ?_; dsimp only)); refine goesL_ (some 17) rfl rfl Try.func33 (by kernel_rfl) rfl #[.string s, .int .i64 a] rfl (by (try simp only [List.map_toArray, List.map_cons, List.map_nil]); first | done | rfl) ?_; (with_reducible refine (HP.out _).mono ?_); rintro e w1 ⟨rfl, hb⟩; refine ⟨_, rfl, ?_⟩; have m_HB := Aside0.mk (below_step (by repeat (first | (with_reducible first | exact HB.out | apply below_alloc | apply pw_below_drewN | apply below_drew1) | exact HB.out)) hb); clear HB; have HB := m_HB; clear m_HB; (try clear hb))
    | ((with_reducible refine gate_callee (f := 28) rfl ?_); (try (refine gate_guard (by rfl) ?_; dsimp only)); refine goesL_ (some 43) rfl rfl Try.func28 (by kernel_rfl) rfl #[.string s, .int .i64 (p : Int), .int .i64 col] rfl (by (try simp only [List.map_toArray, List.map_cons, List.map_nil]); first | done | rfl) ?_; (with_reducible refine (lines_At.calls k s (p : Int) col a 0 _ HAT.out).mono ?_); rintro e w1 ⟨rfl, hb⟩; refine ⟨_, rfl, ?_⟩; have m_HB := Aside0.mk (below_step (by repeat (first | (with_reducible first | exact HB.out | apply below_alloc | apply pw_below_drewN | apply below_drew1) | exact HB.out)) hb); clear HB; have HB := m_HB; clear m_HB; (try clear hb))
    | ((with_reducible refine gate_callee (f := 34) rfl ?_); (try (refine gate_guard (by rfl) ?_; dsimp only)); refine goesL_ (some 52) rfl rfl Try.func34 (by kernel_rfl) rfl #[.string s, .int .i64 a] rfl (by (try simp only [List.map_toArray, List.map_cons, List.map_nil]); first | done | rfl) ?_; (with_reducible refine (topiaryref03_Line.calls k s a (p : Int) _ HLI.out).mono ?_); rintro e w' ⟨rfl, ⟨nd, rfl⟩⟩; refine ⟨_, rfl, ?_⟩)
    | ((with_reducible refine gate_callee (f := 35) rfl ?_); (try (refine gate_guard (by rfl) ?_; dsimp only)); refine goesL_ (some 59) rfl rfl Try.func35 (by kernel_rfl) rfl #[.string s, .int .i64 a] rfl (by (try simp only [List.map_toArray, List.map_cons, List.map_nil]); first | done | rfl) ?_; (with_reducible refine (topiaryref03_Column.calls k s a col _ HCO.out).mono ?_); rintro e w' ⟨rfl, ⟨nd, rfl⟩⟩; refine ⟨_, rfl, ?_⟩))
  go_ret
  exact ⟨by first | rfl | simp, (by repeat (first | (with_reducible first | exact HB.out | apply below_alloc | apply pw_below_drewN | apply below_drew1) | exact HB.out))⟩
end Go.Proofs.Ytfdpaaacgakaaaa.PLinesPlaces
