/- Proved here: what the functions below come to: walks printed by a program, over contracts of this claim. -/
import Derived.Test.YtkabcjchgaokoaaDoorGSjx0
import Derived.Test.YtkabcjchgaokoaaDoorGSjx5
import Derived.Test.YtkabcjchgaokoaaDoorGSjx11
import Derived.Test.YtkabcjchgaokoaaDoorGSjx12
namespace Go.Proofs.YtkabcjchgaokoaaDoor.PSj
open Go.RowKit Go.Proofs.YtkabcjchgaokoaaDoorW.PrintWords Go.Proofs.YtkabcjchgaokoaaDoorW.PrintLast Go.Proofs.YtkabcjchgaokoaaDoorW.PrintMore
attribute [local go_sem] max2_int min2_int max_two min_two max_three min_three max_four min_four   -- for this text's walks alone
set_option linter.unusedVariables false
set_option linter.unusedSimpArgs false

/-! ### regex_reader_sign: function 48 -/
/-- A step that may throw. -/
def Ex {α β : Type} (x : Option (Except Int α)) (f : α → Option (Except Int β)) : Option (Except Int β) := x.bind fun r => match r with | .error n => some (.error n) | .ok v => f v
theorem Ex_some {α β : Type} {x : Option (Except Int α)} {f : α → Option (Except Int β)} {R : Except Int β} (h : Ex x f = some R) : (∃ n, x = some (.error n) ∧ R = .error n) ∨ ∃ v, x = some (.ok v) ∧ f v = some R := by
  unfold Ex at h
  obtain ⟨r, hr, h⟩ := Option.bind_eq_some_iff.mp h
  cases r with
  | error n => exact .inl ⟨n, hr, (Option.some.inj h).symm⟩
  | ok v => exact .inr ⟨v, hr, h⟩
theorem Ex_mono {α β : Type} {x y : Option (Except Int α)} {f g : α → Option (Except Int β)} (h : LeO x y) (hf : ∀ v, LeO (f v) (g v)) : LeO (Ex x f) (Ex y g) := by
  unfold Ex
  refine LeO.bind h (fun r => ?_)
  cases r with
  | error n => exact LeO.refl _
  | ok v => exact hf v
def regex_reader_sign.hex (s : ByteArray) (a : Int) : Option (Option Int) := if a + 3 < (s.size : Int) then ((regex_digit.f (bt s (a + 2))).bind fun d => if d ≥ 0 then ((regex_digit.f (bt s (a + 3))).bind fun d2 => if d2 ≥ 0 then some (some ((16 * d + d2) % 256)) else some none) else some none) else some none
def regex_reader_sign.esc (s : ByteArray) (a e : Int) (by_ : ByteArray) : Option (Except Int (Int × Int)) :=
  if e ≥ 0 then ((strings_IndexByte.f ⟨#[110, 116, 114]⟩ e).bind fun i => if i ≥ 0 then (if i < 3 then some (.ok (bt ⟨#[10, 9, 13]⟩ i, a + 2)) else none) else ((strings_IndexByte.f by_ e).bind fun j => if j ≥ 0 then some (.ok (e, a + 2)) else some (.error a))) else some (.error a)
def regex_reader_sign.f (s : ByteArray) (a : Int) (nt by_ : ByteArray) : Option (Except Int (Int × Int)) :=
  if (s.size : Int) < 100000 then (regex_reader_next.f s a).bind fun c => if c < 32 then some (.error a) else if c > 126 then some (.error a) else if c ≠ 92 then ((strings_IndexByte.f nt c).bind fun i => if i ≥ 0 then some (.error a) else some (.ok (c, a + 1)))
    else (regex_reader_next.f s (a + 1)).bind fun e => if e = 120 then ((regex_reader_sign.hex s a).bind fun h => match h with | some v => some (.ok (v, a + 4)) | none => regex_reader_sign.esc s a e by_) else regex_reader_sign.esc s a e by_
  else none

theorem regex_reader_next.bd {s : ByteArray} {a r : Int} (h : regex_reader_next.f s a = some r) : -1 ≤ r ∧ r ≤ 255 ∧ a ≤ (s.size : Int) ∧ 0 ≤ a ∧ (r = -1 ↔ a = (s.size : Int)) ∧ (0 ≤ r → r = bt s a) := by
  unfold regex_reader_next.f at h
  have hr := bt_range s a
  by_cases h1 : a = (s.size : Int)
  · rw [if_pos h1] at h
    obtain rfl := Option.some.inj h
    omega
  · rw [if_neg h1] at h
    by_cases h2 : 0 ≤ a
    · rw [if_pos h2] at h
      by_cases h3 : a < (s.size : Int)
      · rw [if_pos h3] at h
        obtain rfl := Option.some.inj h
        omega
      · rw [if_neg h3] at h; cases h
    · rw [if_neg h2] at h; cases h
theorem quiet_more {f : FuncId} {args : Array Value} {X : World} {k n : Nat} {v : Value} (h : Calls Tryd.prog f args (X.drewN (k + n)) fun e w' => e = .returned v ∧ Drawn0 (X.drewN (k + n)) w') : Calls Tryd.prog f args (X.drewN (k + n)) fun e w'' => e = .returned v ∧ ∃ m, w'' = X.drewN (k + m) :=
  h.mono fun _ _ ⟨he, m, hm⟩ => ⟨he, n + m, by rw [hm, World.drewN_drewN, Nat.add_assoc]⟩
theorem quiet_one {f : FuncId} {args : Array Value} {X : World} {n : Nat} {v : Value} (h : Calls Tryd.prog f args (X.drewN n) fun e w' => e = .returned v ∧ Drawn0 (X.drewN n) w') : Calls Tryd.prog f args (X.drewN n) fun e w'' => e = .returned v ∧ ∃ m, w'' = X.drewN m :=
  h.mono fun _ _ ⟨he, m, hm⟩ => ⟨he, n + m, by rw [hm, World.drewN_drewN]⟩
theorem run_panic_iface (t : TypeId) (v : Value) (w : World) : (Instr.panic (.iface t v)).run Tryd.prog w = .halt (.panic (.iface t v)) w := rfl
attribute [local go_sem] run_panic_iface in
set_option maxHeartbeats 4000000 in
set_option maxRecDepth 100000 in
theorem regex_reader_sign.p1 (w0 w : World) (b : Nat) (s : ByteArray) (a c : Int) (out : List S40) (nt by_ : ByteArray) (hs : (s.size : Int) < 100000) (hI : Rd w0 w b s a out) (hn : regex_reader_next.f s a = some c) (k1 : c < 32) :
    Calls Tryd.prog 48 #[.pointer (some ⟨b, 0, none⟩), .string nt, .string by_] w fun e_ w' => e_ = thrown a ∧ (∃ a out, Rd w0 w' b s a out) ∧ KeepBut w w' b none := by
  obtain ⟨n1, n2, n3, n4, n5, n6⟩ := regex_reader_next.bd hn
  have HN := Aside0.mk hn
  have HI := Aside0.mk hI
  have c0 := hI.c0
  have c1 := hI.c1
  have f1 := hI.f1
  clear hn hI n5 n6
  have d1 : decide (c < 32) = true := decide_eq_true k1
  go_enter Tryd.func48, Tryd.ntmps48
  go_wp2_with (first | (go_at_call 31; (with_reducible refine (regex_reader_next.calls w0 _ b s a out c ?side HN.out).mono ?_); (case side => repeat (first | (with_reducible exact HI.out) | (with_reducible apply Rd.at_) | (with_reducible apply Rd.drewN) | (with_reducible apply Rd.drew) | (with_reducible apply Rd.alloc))); rintro e' w' ⟨rfl, ⟨nd, rfl⟩⟩))
  refine ⟨rfl, rfl, ⟨_, out, (by repeat (first | (with_reducible exact HI.out) | (with_reducible apply Rd.at_) | (with_reducible apply Rd.drewN) | (with_reducible apply Rd.drew) | (with_reducible apply Rd.alloc)))⟩, (by repeat (first | (with_reducible exact KeepBut.refl _ _ _) | (with_reducible apply KeepBut.set_) | (with_reducible apply keep_drewN) | (with_reducible apply keep_drew) | (with_reducible apply keep_alloc)))⟩
attribute [local go_sem] run_panic_iface in
set_option maxHeartbeats 4000000 in
set_option maxRecDepth 100000 in
theorem regex_reader_sign.p2 (w0 w : World) (b : Nat) (s : ByteArray) (a c : Int) (out : List S40) (nt by_ : ByteArray) (hs : (s.size : Int) < 100000) (hI : Rd w0 w b s a out) (hn : regex_reader_next.f s a = some c) (k1 : ¬ c < 32) (k2 : c > 126) :
    Calls Tryd.prog 48 #[.pointer (some ⟨b, 0, none⟩), .string nt, .string by_] w fun e_ w' => e_ = thrown a ∧ (∃ a out, Rd w0 w' b s a out) ∧ KeepBut w w' b none := by
  obtain ⟨n1, n2, n3, n4, n5, n6⟩ := regex_reader_next.bd hn
  have HN := Aside0.mk hn
  have HI := Aside0.mk hI
  have c0 := hI.c0
  have c1 := hI.c1
  have f1 := hI.f1
  clear hn hI n5 n6
  have d1 : decide (c < 32) = false := decide_eq_false k1
  have d2 : decide (126 < c) = true := decide_eq_true k2
  have d3 : decide (c > 126) = true := decide_eq_true k2
  go_enter Tryd.func48, Tryd.ntmps48
  go_wp2_with (first | (go_at_call 31; (with_reducible refine (regex_reader_next.calls w0 _ b s a out c ?side HN.out).mono ?_); (case side => repeat (first | (with_reducible exact HI.out) | (with_reducible apply Rd.at_) | (with_reducible apply Rd.drewN) | (with_reducible apply Rd.drew) | (with_reducible apply Rd.alloc))); rintro e' w' ⟨rfl, ⟨nd, rfl⟩⟩))
  refine ⟨rfl, rfl, ⟨_, out, (by repeat (first | (with_reducible exact HI.out) | (with_reducible apply Rd.at_) | (with_reducible apply Rd.drewN) | (with_reducible apply Rd.drew) | (with_reducible apply Rd.alloc)))⟩, (by repeat (first | (with_reducible exact KeepBut.refl _ _ _) | (with_reducible apply KeepBut.set_) | (with_reducible apply keep_drewN) | (with_reducible apply keep_drew) | (with_reducible apply keep_alloc)))⟩
attribute [local go_sem] run_panic_iface in
set_option maxHeartbeats 4000000 in
set_option maxRecDepth 100000 in
theorem regex_reader_sign.p3 (w0 w : World) (b : Nat) (s : ByteArray) (a c : Int) (out : List S40) (nt by_ : ByteArray) (hs : (s.size : Int) < 100000) (hI : Rd w0 w b s a out) (hn : regex_reader_next.f s a = some c) (k1 : ¬ c < 32) (k2 : ¬ c > 126) (k3 : c ≠ 92) (i : Int) (hj : strings_IndexByte.f nt c = some i) (k4 : i ≥ 0) :
    Calls Tryd.prog 48 #[.pointer (some ⟨b, 0, none⟩), .string nt, .string by_] w fun e_ w' => e_ = thrown a ∧ (∃ a out, Rd w0 w' b s a out) ∧ KeepBut w w' b none := by
  obtain ⟨n1, n2, n3, n4, n5, n6⟩ := regex_reader_next.bd hn
  have HN := Aside0.mk hn
  have HI := Aside0.mk hI
  have c0 := hI.c0
  have c1 := hI.c1
  have f1 := hI.f1
  clear hn hI n5 n6
  have d1 : decide (c < 32) = false := decide_eq_false k1
  have d2 : decide (126 < c) = false := decide_eq_false k2
  have d4 : (c != 92) = true := bne_iff_ne.mpr k3
  have d5 : (c == 92) = false := beq_eq_false_iff_ne.mpr k3
  have cv : IntKind.u8.wrap c = c := IntWalk.u8_in _ (by omega)
  have J := Aside0.mk hj
  clear hj
  have d6 : decide (0 ≤ i) = true := decide_eq_true k4
  go_enter Tryd.func48, Tryd.ntmps48
  go_wp2_with (first | (go_at_call 31; (with_reducible refine (regex_reader_next.calls w0 _ b s a out c ?side HN.out).mono ?_); (case side => repeat (first | (with_reducible exact HI.out) | (with_reducible apply Rd.at_) | (with_reducible apply Rd.drewN) | (with_reducible apply Rd.drew) | (with_reducible apply Rd.alloc))); rintro e' w' ⟨rfl, ⟨nd, rfl⟩⟩) | (go_at_call 34; (with_reducible refine (strings_IndexByte.calls nt c i _ J.out).mono ?_); rintro e' w' ⟨rfl, ⟨nd3, rfl⟩⟩))
  refine ⟨rfl, rfl, ⟨_, out, (by repeat (first | (with_reducible exact HI.out) | (with_reducible apply Rd.at_) | (with_reducible apply Rd.drewN) | (with_reducible apply Rd.drew) | (with_reducible apply Rd.alloc)))⟩, (by repeat (first | (with_reducible exact KeepBut.refl _ _ _) | (with_reducible apply KeepBut.set_) | (with_reducible apply keep_drewN) | (with_reducible apply keep_drew) | (with_reducible apply keep_alloc)))⟩
attribute [local go_sem] run_panic_iface in
set_option maxHeartbeats 4000000 in
set_option maxRecDepth 100000 in
theorem regex_reader_sign.p4 (w0 w : World) (b : Nat) (s : ByteArray) (a c : Int) (out : List S40) (nt by_ : ByteArray) (hs : (s.size : Int) < 100000) (hI : Rd w0 w b s a out) (hn : regex_reader_next.f s a = some c) (k1 : ¬ c < 32) (k2 : ¬ c > 126) (k3 : c ≠ 92) (i : Int) (hj : strings_IndexByte.f nt c = some i) (k4 : ¬ i ≥ 0) :
    Calls Tryd.prog 48 #[.pointer (some ⟨b, 0, none⟩), .string nt, .string by_] w fun e_ w' => e_ = .returned (.int .u8 c) ∧ Rd w0 w' b s (a + 1) out ∧ KeepBut w w' b none := by
  obtain ⟨n1, n2, n3, n4, n5, n6⟩ := regex_reader_next.bd hn
  have HN := Aside0.mk hn
  have HI := Aside0.mk hI
  have c0 := hI.c0
  have c1 := hI.c1
  have f1 := hI.f1
  clear hn hI n5 n6
  have d1 : decide (c < 32) = false := decide_eq_false k1
  have d2 : decide (126 < c) = false := decide_eq_false k2
  have d4 : (c != 92) = true := bne_iff_ne.mpr k3
  have d5 : (c == 92) = false := beq_eq_false_iff_ne.mpr k3
  have cv : IntKind.u8.wrap c = c := IntWalk.u8_in _ (by omega)
  have J := Aside0.mk hj
  clear hj
  have d6 : decide (0 ≤ i) = false := decide_eq_false k4
  go_enter Tryd.func48, Tryd.ntmps48
  go_wp2_with (first | (go_at_call 31; (with_reducible refine (regex_reader_next.calls w0 _ b s a out c ?side HN.out).mono ?_); (case side => repeat (first | (with_reducible exact HI.out) | (with_reducible apply Rd.at_) | (with_reducible apply Rd.drewN) | (with_reducible apply Rd.drew) | (with_reducible apply Rd.alloc))); rintro e' w' ⟨rfl, ⟨nd, rfl⟩⟩) | (go_at_call 34; (with_reducible refine (strings_IndexByte.calls nt c i _ J.out).mono ?_); rintro e' w' ⟨rfl, ⟨nd3, rfl⟩⟩))
  go_ret
  exact ⟨by first | rfl | (simp [*]; done), (by repeat (first | (with_reducible exact HI.out) | (with_reducible apply Rd.at_) | (with_reducible apply Rd.drewN) | (with_reducible apply Rd.drew) | (with_reducible apply Rd.alloc))), (by repeat (first | (with_reducible exact KeepBut.refl _ _ _) | (with_reducible apply KeepBut.set_) | (with_reducible apply keep_drewN) | (with_reducible apply keep_drew) | (with_reducible apply keep_alloc)))⟩
attribute [local go_sem] run_panic_iface in
set_option maxHeartbeats 4000000 in
set_option maxRecDepth 100000 in
theorem regex_reader_sign.p5 (w0 w : World) (b : Nat) (s : ByteArray) (a c : Int) (out : List S40) (nt by_ : ByteArray) (hs : (s.size : Int) < 100000) (hI : Rd w0 w b s a out) (hn : regex_reader_next.f s a = some c) (k3 : c = 92) (e : Int) (he : regex_reader_next.f s (a + 1) = some e) (hh : e ≠ 120 ∨ e = 120 ∧ ¬ a + 3 < (s.size : Int) ∨ (e = 120 ∧ a + 3 < (s.size : Int) ∧ ∃ d, regex_digit.f (bt s (a + 2)) = some d ∧ ¬ d ≥ 0) ∨ (e = 120 ∧ a + 3 < (s.size : Int) ∧ ∃ d d2, regex_digit.f (bt s (a + 2)) = some d ∧ d ≥ 0 ∧ regex_digit.f (bt s (a + 3)) = some d2 ∧ ¬ d2 ≥ 0)) (k5 : ¬ e ≥ 0) :
    Calls Tryd.prog 48 #[.pointer (some ⟨b, 0, none⟩), .string nt, .string by_] w fun e_ w' => e_ = thrown a ∧ (∃ a out, Rd w0 w' b s a out) ∧ KeepBut w w' b none := by
  obtain ⟨n1, n2, n3, n4, n5, n6⟩ := regex_reader_next.bd hn
  have HN := Aside0.mk hn
  have HI := Aside0.mk hI
  have c0 := hI.c0
  have c1 := hI.c1
  have f1 := hI.f1
  clear hn hI n5 n6
  subst k3
  obtain ⟨m1, m2, m3, m4, m5, m6⟩ := regex_reader_next.bd he
  have HE := Aside0.mk he
  clear he m5 m6
  have s2 : IntKind.i64.wrap (a + 1 + 2) = a + 3 := by rw [IntWalk.i64_in _ (by omega)]; omega
  have s3 : IntKind.i64.wrap (a + 3) = a + 3 := IntWalk.i64_in _ (by omega)
  have s1 : IntKind.i64.wrap (a + 1 + 1) = a + 2 := by rw [IntWalk.i64_in _ (by omega)]; omega
  have s0 : IntKind.i64.wrap (a + 2) = a + 2 := IntWalk.i64_in _ (by omega)
  have d6 : decide (0 ≤ e) = false := decide_eq_false k5
  go_enter Tryd.func48, Tryd.ntmps48
  go_wp2_with (first | (go_at_call 31; (with_reducible refine (regex_reader_next.calls w0 _ b s a out 92 ?side HN.out).mono ?_); (case side => repeat (first | (with_reducible exact HI.out) | (with_reducible apply Rd.at_) | (with_reducible apply Rd.drewN) | (with_reducible apply Rd.drew) | (with_reducible apply Rd.alloc))); rintro e' w' ⟨rfl, ⟨nd, rfl⟩⟩) | (go_at_call 31; (with_reducible refine (regex_reader_next.calls w0 _ b s (a + 1) out e ?side2 HE.out).mono ?_); (case side2 => repeat (first | (with_reducible exact HI.out) | (with_reducible apply Rd.at_) | (with_reducible apply Rd.drewN) | (with_reducible apply Rd.drew) | (with_reducible apply Rd.alloc))); rintro e' w' ⟨rfl, ⟨nd2, rfl⟩⟩))
  rcases hh with g | ⟨g, g2⟩ | ⟨g, g2, d, hd, g3⟩ | ⟨g, g2, d, d2, hd, g3, hd2, g4⟩
  · have x1 : (e == 120) = false := beq_eq_false_iff_ne.mpr g
    clear g
    go_quiet (fail)
    go_wp2_with fail
    exact ⟨rfl, rfl, ⟨_, out, (by repeat (first | (with_reducible exact HI.out) | (with_reducible apply Rd.at_) | (with_reducible apply Rd.drewN) | (with_reducible apply Rd.drew) | (with_reducible apply Rd.alloc)))⟩, (by repeat (first | (with_reducible exact KeepBut.refl _ _ _) | (with_reducible apply KeepBut.set_) | (with_reducible apply keep_drewN) | (with_reducible apply keep_drew) | (with_reducible apply keep_alloc)))⟩
  · have x1 : (e == 120) = true := beq_iff_eq.mpr g
    have x2 : decide (a + 3 < (s.size : Int)) = false := decide_eq_false (by omega)
    clear g g2
    go_quiet (fail)
    go_wp2_with fail
    exact ⟨rfl, rfl, ⟨_, out, (by repeat (first | (with_reducible exact HI.out) | (with_reducible apply Rd.at_) | (with_reducible apply Rd.drewN) | (with_reducible apply Rd.drew) | (with_reducible apply Rd.alloc)))⟩, (by repeat (first | (with_reducible exact KeepBut.refl _ _ _) | (with_reducible apply KeepBut.set_) | (with_reducible apply keep_drewN) | (with_reducible apply keep_drew) | (with_reducible apply keep_alloc)))⟩
  · have x1 : (e == 120) = true := beq_iff_eq.mpr g
    have x2 : decide (a + 3 < (s.size : Int)) = true := decide_eq_true (by omega)
    have x3 : decide (0 ≤ d) = false := decide_eq_false (by omega)
    have HD := Aside0.mk hd
    have p2 := eq_true (show (0 : Int) ≤ a + 2 by omega)
    have q2 := eq_true (show a + 2 < (s.size : Int) by omega)
    have hx2 := bt_at s (a + 2)
    have hl2 : (a + 2).toNat < s.size := by omega
    have r20 := (bt_range s (a + 2)).1
    have r21 := (bt_range s (a + 2)).2
    clear g g2 hd
    go_quiet ((go_at_call 51; with_reducible exact quiet_more (regex_digit.calls (bt s (a + 2)) d _ HD.out)))
    go_wp2_with fail
    exact ⟨rfl, rfl, ⟨_, out, (by repeat (first | (with_reducible exact HI.out) | (with_reducible apply Rd.at_) | (with_reducible apply Rd.drewN) | (with_reducible apply Rd.drew) | (with_reducible apply Rd.alloc)))⟩, (by repeat (first | (with_reducible exact KeepBut.refl _ _ _) | (with_reducible apply KeepBut.set_) | (with_reducible apply keep_drewN) | (with_reducible apply keep_drew) | (with_reducible apply keep_alloc)))⟩
  · have x1 : (e == 120) = true := beq_iff_eq.mpr g
    have x2 : decide (a + 3 < (s.size : Int)) = true := decide_eq_true (by omega)
    have x3 : decide (0 ≤ d) = true := decide_eq_true (by omega)
    have x4 : decide (0 ≤ d2) = false := decide_eq_false (by omega)
    have HD := Aside0.mk hd
    have HD2 := Aside0.mk hd2
    have p2 := eq_true (show (0 : Int) ≤ a + 2 by omega)
    have q2 := eq_true (show a + 2 < (s.size : Int) by omega)
    have hx2 := bt_at s (a + 2)
    have hl2 : (a + 2).toNat < s.size := by omega
    have r20 := (bt_range s (a + 2)).1
    have r21 := (bt_range s (a + 2)).2
    have p3 := eq_true (show (0 : Int) ≤ a + 3 by omega)
    have q3 := eq_true (show a + 3 < (s.size : Int) by omega)
    have hx3 := bt_at s (a + 3)
    have hl3 : (a + 3).toNat < s.size := by omega
    have r30 := (bt_range s (a + 3)).1
    have r31 := (bt_range s (a + 3)).2
    clear g g2 hd hd2
    go_quiet ((first | (go_at_call 51; with_reducible exact quiet_more (regex_digit.calls (bt s (a + 2)) d _ HD.out)) | (go_at_call 51; with_reducible exact quiet_more (regex_digit.calls (bt s (a + 3)) d2 _ HD2.out))))
    go_wp2_with fail
    exact ⟨rfl, rfl, ⟨_, out, (by repeat (first | (with_reducible exact HI.out) | (with_reducible apply Rd.at_) | (with_reducible apply Rd.drewN) | (with_reducible apply Rd.drew) | (with_reducible apply Rd.alloc)))⟩, (by repeat (first | (with_reducible exact KeepBut.refl _ _ _) | (with_reducible apply KeepBut.set_) | (with_reducible apply keep_drewN) | (with_reducible apply keep_drew) | (with_reducible apply keep_alloc)))⟩
attribute [local go_sem] run_panic_iface in
set_option maxHeartbeats 4000000 in
set_option maxRecDepth 100000 in
theorem regex_reader_sign.p6 (w0 w : World) (b : Nat) (s : ByteArray) (a c : Int) (out : List S40) (nt by_ : ByteArray) (hs : (s.size : Int) < 100000) (hI : Rd w0 w b s a out) (hn : regex_reader_next.f s a = some c) (k3 : c = 92) (e : Int) (he : regex_reader_next.f s (a + 1) = some e) (hh : e ≠ 120 ∨ e = 120 ∧ ¬ a + 3 < (s.size : Int) ∨ (e = 120 ∧ a + 3 < (s.size : Int) ∧ ∃ d, regex_digit.f (bt s (a + 2)) = some d ∧ ¬ d ≥ 0) ∨ (e = 120 ∧ a + 3 < (s.size : Int) ∧ ∃ d d2, regex_digit.f (bt s (a + 2)) = some d ∧ d ≥ 0 ∧ regex_digit.f (bt s (a + 3)) = some d2 ∧ ¬ d2 ≥ 0)) (k5 : e ≥ 0) (i : Int) (hj : strings_IndexByte.f ⟨#[110, 116, 114]⟩ e = some i) (k6 : i ≥ 0) (k7 : i < 3) :
    Calls Tryd.prog 48 #[.pointer (some ⟨b, 0, none⟩), .string nt, .string by_] w fun e_ w' => e_ = .returned (.int .u8 (bt ⟨#[10, 9, 13]⟩ i)) ∧ Rd w0 w' b s (a + 2) out ∧ KeepBut w w' b none := by
  obtain ⟨n1, n2, n3, n4, n5, n6⟩ := regex_reader_next.bd hn
  have HN := Aside0.mk hn
  have HI := Aside0.mk hI
  have c0 := hI.c0
  have c1 := hI.c1
  have f1 := hI.f1
  clear hn hI n5 n6
  subst k3
  obtain ⟨m1, m2, m3, m4, m5, m6⟩ := regex_reader_next.bd he
  have HE := Aside0.mk he
  clear he m5 m6
  have s2 : IntKind.i64.wrap (a + 1 + 2) = a + 3 := by rw [IntWalk.i64_in _ (by omega)]; omega
  have s3 : IntKind.i64.wrap (a + 3) = a + 3 := IntWalk.i64_in _ (by omega)
  have s1 : IntKind.i64.wrap (a + 1 + 1) = a + 2 := by rw [IntWalk.i64_in _ (by omega)]; omega
  have s0 : IntKind.i64.wrap (a + 2) = a + 2 := IntWalk.i64_in _ (by omega)
  have d6 : decide (0 ≤ e) = true := decide_eq_true k5
  have cv : IntKind.u8.wrap e = e := IntWalk.u8_in _ (by omega)
  have J := Aside0.mk hj
  have s4 : IntKind.i64.wrap (a + 1 + 1) = a + 2 := by rw [IntWalk.i64_in _ (by omega)]; omega
  clear hj
  have d7 : decide (0 ≤ i) = true := decide_eq_true k6
  have pi := eq_true (show (0 : Int) ≤ i by omega)
  have qi := eq_true (show i < 3 by omega)
  have hxi := bt_at ⟨#[10, 9, 13]⟩ i
  have hli : i.toNat < 3 := by omega
  go_enter Tryd.func48, Tryd.ntmps48
  go_wp2_with (first | (go_at_call 31; (with_reducible refine (regex_reader_next.calls w0 _ b s a out 92 ?side HN.out).mono ?_); (case side => repeat (first | (with_reducible exact HI.out) | (with_reducible apply Rd.at_) | (with_reducible apply Rd.drewN) | (with_reducible apply Rd.drew) | (with_reducible apply Rd.alloc))); rintro e' w' ⟨rfl, ⟨nd, rfl⟩⟩) | (go_at_call 31; (with_reducible refine (regex_reader_next.calls w0 _ b s (a + 1) out e ?side2 HE.out).mono ?_); (case side2 => repeat (first | (with_reducible exact HI.out) | (with_reducible apply Rd.at_) | (with_reducible apply Rd.drewN) | (with_reducible apply Rd.drew) | (with_reducible apply Rd.alloc))); rintro e' w' ⟨rfl, ⟨nd2, rfl⟩⟩))
  rcases hh with g | ⟨g, g2⟩ | ⟨g, g2, d, hd, g3⟩ | ⟨g, g2, d, d2, hd, g3, hd2, g4⟩
  · have x1 : (e == 120) = false := beq_eq_false_iff_ne.mpr g
    clear g
    go_quiet (fail)
    go_wp2_with (first | (go_at_call 34; (with_reducible refine (strings_IndexByte.calls (⟨#[110, 116, 114]⟩ : ByteArray) e i _ J.out).mono ?_); rintro e' w' ⟨rfl, ⟨nd3, rfl⟩⟩) | (go_at_call 34; (with_reducible refine (strings_IndexByte.calls by_ e j _ J2.out).mono ?_); rintro e' w' ⟨rfl, ⟨nd4, rfl⟩⟩))
    go_ret
    exact ⟨by first | rfl | (simp [*]; done), (by repeat (first | (with_reducible exact HI.out) | (with_reducible apply Rd.at_) | (with_reducible apply Rd.drewN) | (with_reducible apply Rd.drew) | (with_reducible apply Rd.alloc))), (by repeat (first | (with_reducible exact KeepBut.refl _ _ _) | (with_reducible apply KeepBut.set_) | (with_reducible apply keep_drewN) | (with_reducible apply keep_drew) | (with_reducible apply keep_alloc)))⟩
  · have x1 : (e == 120) = true := beq_iff_eq.mpr g
    have x2 : decide (a + 3 < (s.size : Int)) = false := decide_eq_false (by omega)
    clear g g2
    go_quiet (fail)
    go_wp2_with (first | (go_at_call 34; (with_reducible refine (strings_IndexByte.calls (⟨#[110, 116, 114]⟩ : ByteArray) e i _ J.out).mono ?_); rintro e' w' ⟨rfl, ⟨nd3, rfl⟩⟩) | (go_at_call 34; (with_reducible refine (strings_IndexByte.calls by_ e j _ J2.out).mono ?_); rintro e' w' ⟨rfl, ⟨nd4, rfl⟩⟩))
    go_ret
    exact ⟨by first | rfl | (simp [*]; done), (by repeat (first | (with_reducible exact HI.out) | (with_reducible apply Rd.at_) | (with_reducible apply Rd.drewN) | (with_reducible apply Rd.drew) | (with_reducible apply Rd.alloc))), (by repeat (first | (with_reducible exact KeepBut.refl _ _ _) | (with_reducible apply KeepBut.set_) | (with_reducible apply keep_drewN) | (with_reducible apply keep_drew) | (with_reducible apply keep_alloc)))⟩
  · have x1 : (e == 120) = true := beq_iff_eq.mpr g
    have x2 : decide (a + 3 < (s.size : Int)) = true := decide_eq_true (by omega)
    have x3 : decide (0 ≤ d) = false := decide_eq_false (by omega)
    have HD := Aside0.mk hd
    have p2 := eq_true (show (0 : Int) ≤ a + 2 by omega)
    have q2 := eq_true (show a + 2 < (s.size : Int) by omega)
    have hx2 := bt_at s (a + 2)
    have hl2 : (a + 2).toNat < s.size := by omega
    have r20 := (bt_range s (a + 2)).1
    have r21 := (bt_range s (a + 2)).2
    clear g g2 hd
    go_quiet ((go_at_call 51; with_reducible exact quiet_more (regex_digit.calls (bt s (a + 2)) d _ HD.out)))
    go_wp2_with (first | (go_at_call 34; (with_reducible refine (strings_IndexByte.calls (⟨#[110, 116, 114]⟩ : ByteArray) e i _ J.out).mono ?_); rintro e' w' ⟨rfl, ⟨nd3, rfl⟩⟩) | (go_at_call 34; (with_reducible refine (strings_IndexByte.calls by_ e j _ J2.out).mono ?_); rintro e' w' ⟨rfl, ⟨nd4, rfl⟩⟩))
    go_ret
    exact ⟨by first | rfl | (simp [*]; done), (by repeat (first | (with_reducible exact HI.out) | (with_reducible apply Rd.at_) | (with_reducible apply Rd.drewN) | (with_reducible apply Rd.drew) | (with_reducible apply Rd.alloc))), (by repeat (first | (with_reducible exact KeepBut.refl _ _ _) | (with_reducible apply KeepBut.set_) | (with_reducible apply keep_drewN) | (with_reducible apply keep_drew) | (with_reducible apply keep_alloc)))⟩
  · have x1 : (e == 120) = true := beq_iff_eq.mpr g
    have x2 : decide (a + 3 < (s.size : Int)) = true := decide_eq_true (by omega)
    have x3 : decide (0 ≤ d) = true := decide_eq_true (by omega)
    have x4 : decide (0 ≤ d2) = false := decide_eq_false (by omega)
    have HD := Aside0.mk hd
    have HD2 := Aside0.mk hd2
    have p2 := eq_true (show (0 : Int) ≤ a + 2 by omega)
    have q2 := eq_true (show a + 2 < (s.size : Int) by omega)
    have hx2 := bt_at s (a + 2)
    have hl2 : (a + 2).toNat < s.size := by omega
    have r20 := (bt_range s (a + 2)).1
    have r21 := (bt_range s (a + 2)).2
    have p3 := eq_true (show (0 : Int) ≤ a + 3 by omega)
    have q3 := eq_true (show a + 3 < (s.size : Int) by omega)
    have hx3 := bt_at s (a + 3)
    have hl3 : (a + 3).toNat < s.size := by omega
    have r30 := (bt_range s (a + 3)).1
    have r31 := (bt_range s (a + 3)).2
    clear g g2 hd hd2
    go_quiet ((first | (go_at_call 51; with_reducible exact quiet_more (regex_digit.calls (bt s (a + 2)) d _ HD.out)) | (go_at_call 51; with_reducible exact quiet_more (regex_digit.calls (bt s (a + 3)) d2 _ HD2.out))))
    go_wp2_with (first | (go_at_call 34; (with_reducible refine (strings_IndexByte.calls (⟨#[110, 116, 114]⟩ : ByteArray) e i _ J.out).mono ?_); rintro e' w' ⟨rfl, ⟨nd3, rfl⟩⟩) | (go_at_call 34; (with_reducible refine (strings_IndexByte.calls by_ e j _ J2.out).mono ?_); rintro e' w' ⟨rfl, ⟨nd4, rfl⟩⟩))
    go_ret
    exact ⟨by first | rfl | (simp [*]; done), (by repeat (first | (with_reducible exact HI.out) | (with_reducible apply Rd.at_) | (with_reducible apply Rd.drewN) | (with_reducible apply Rd.drew) | (with_reducible apply Rd.alloc))), (by repeat (first | (with_reducible exact KeepBut.refl _ _ _) | (with_reducible apply KeepBut.set_) | (with_reducible apply keep_drewN) | (with_reducible apply keep_drew) | (with_reducible apply keep_alloc)))⟩
attribute [local go_sem] run_panic_iface in
set_option maxHeartbeats 4000000 in
set_option maxRecDepth 100000 in
theorem regex_reader_sign.p7 (w0 w : World) (b : Nat) (s : ByteArray) (a c : Int) (out : List S40) (nt by_ : ByteArray) (hs : (s.size : Int) < 100000) (hI : Rd w0 w b s a out) (hn : regex_reader_next.f s a = some c) (k3 : c = 92) (e : Int) (he : regex_reader_next.f s (a + 1) = some e) (hh : e ≠ 120 ∨ e = 120 ∧ ¬ a + 3 < (s.size : Int) ∨ (e = 120 ∧ a + 3 < (s.size : Int) ∧ ∃ d, regex_digit.f (bt s (a + 2)) = some d ∧ ¬ d ≥ 0) ∨ (e = 120 ∧ a + 3 < (s.size : Int) ∧ ∃ d d2, regex_digit.f (bt s (a + 2)) = some d ∧ d ≥ 0 ∧ regex_digit.f (bt s (a + 3)) = some d2 ∧ ¬ d2 ≥ 0)) (k5 : e ≥ 0) (i : Int) (hj : strings_IndexByte.f ⟨#[110, 116, 114]⟩ e = some i) (k6 : ¬ i ≥ 0) (j : Int) (hj2 : strings_IndexByte.f by_ e = some j) (k7 : j ≥ 0) :
    Calls Tryd.prog 48 #[.pointer (some ⟨b, 0, none⟩), .string nt, .string by_] w fun e_ w' => e_ = .returned (.int .u8 e) ∧ Rd w0 w' b s (a + 2) out ∧ KeepBut w w' b none := by
  obtain ⟨n1, n2, n3, n4, n5, n6⟩ := regex_reader_next.bd hn
  have HN := Aside0.mk hn
  have HI := Aside0.mk hI
  have c0 := hI.c0
  have c1 := hI.c1
  have f1 := hI.f1
  clear hn hI n5 n6
  subst k3
  obtain ⟨m1, m2, m3, m4, m5, m6⟩ := regex_reader_next.bd he
  have HE := Aside0.mk he
  clear he m5 m6
  have s2 : IntKind.i64.wrap (a + 1 + 2) = a + 3 := by rw [IntWalk.i64_in _ (by omega)]; omega
  have s3 : IntKind.i64.wrap (a + 3) = a + 3 := IntWalk.i64_in _ (by omega)
  have s1 : IntKind.i64.wrap (a + 1 + 1) = a + 2 := by rw [IntWalk.i64_in _ (by omega)]; omega
  have s0 : IntKind.i64.wrap (a + 2) = a + 2 := IntWalk.i64_in _ (by omega)
  have d6 : decide (0 ≤ e) = true := decide_eq_true k5
  have cv : IntKind.u8.wrap e = e := IntWalk.u8_in _ (by omega)
  have J := Aside0.mk hj
  have s4 : IntKind.i64.wrap (a + 1 + 1) = a + 2 := by rw [IntWalk.i64_in _ (by omega)]; omega
  clear hj
  have J2 := Aside0.mk hj2
  have d7 : decide (0 ≤ i) = false := decide_eq_false k6
  have d8 : decide (0 ≤ j) = true := decide_eq_true k7
  go_enter Tryd.func48, Tryd.ntmps48
  go_wp2_with (first | (go_at_call 31; (with_reducible refine (regex_reader_next.calls w0 _ b s a out 92 ?side HN.out).mono ?_); (case side => repeat (first | (with_reducible exact HI.out) | (with_reducible apply Rd.at_) | (with_reducible apply Rd.drewN) | (with_reducible apply Rd.drew) | (with_reducible apply Rd.alloc))); rintro e' w' ⟨rfl, ⟨nd, rfl⟩⟩) | (go_at_call 31; (with_reducible refine (regex_reader_next.calls w0 _ b s (a + 1) out e ?side2 HE.out).mono ?_); (case side2 => repeat (first | (with_reducible exact HI.out) | (with_reducible apply Rd.at_) | (with_reducible apply Rd.drewN) | (with_reducible apply Rd.drew) | (with_reducible apply Rd.alloc))); rintro e' w' ⟨rfl, ⟨nd2, rfl⟩⟩))
  rcases hh with g | ⟨g, g2⟩ | ⟨g, g2, d, hd, g3⟩ | ⟨g, g2, d, d2, hd, g3, hd2, g4⟩
  · have x1 : (e == 120) = false := beq_eq_false_iff_ne.mpr g
    clear g
    go_quiet (fail)
    go_wp2_with (first | (go_at_call 34; (with_reducible refine (strings_IndexByte.calls (⟨#[110, 116, 114]⟩ : ByteArray) e i _ J.out).mono ?_); rintro e' w' ⟨rfl, ⟨nd3, rfl⟩⟩) | (go_at_call 34; (with_reducible refine (strings_IndexByte.calls by_ e j _ J2.out).mono ?_); rintro e' w' ⟨rfl, ⟨nd4, rfl⟩⟩))
    go_ret
    exact ⟨by first | rfl | (simp [*]; done), (by repeat (first | (with_reducible exact HI.out) | (with_reducible apply Rd.at_) | (with_reducible apply Rd.drewN) | (with_reducible apply Rd.drew) | (with_reducible apply Rd.alloc))), (by repeat (first | (with_reducible exact KeepBut.refl _ _ _) | (with_reducible apply KeepBut.set_) | (with_reducible apply keep_drewN) | (with_reducible apply keep_drew) | (with_reducible apply keep_alloc)))⟩
  · have x1 : (e == 120) = true := beq_iff_eq.mpr g
    have x2 : decide (a + 3 < (s.size : Int)) = false := decide_eq_false (by omega)
    clear g g2
    go_quiet (fail)
    go_wp2_with (first | (go_at_call 34; (with_reducible refine (strings_IndexByte.calls (⟨#[110, 116, 114]⟩ : ByteArray) e i _ J.out).mono ?_); rintro e' w' ⟨rfl, ⟨nd3, rfl⟩⟩) | (go_at_call 34; (with_reducible refine (strings_IndexByte.calls by_ e j _ J2.out).mono ?_); rintro e' w' ⟨rfl, ⟨nd4, rfl⟩⟩))
    go_ret
    exact ⟨by first | rfl | (simp [*]; done), (by repeat (first | (with_reducible exact HI.out) | (with_reducible apply Rd.at_) | (with_reducible apply Rd.drewN) | (with_reducible apply Rd.drew) | (with_reducible apply Rd.alloc))), (by repeat (first | (with_reducible exact KeepBut.refl _ _ _) | (with_reducible apply KeepBut.set_) | (with_reducible apply keep_drewN) | (with_reducible apply keep_drew) | (with_reducible apply keep_alloc)))⟩
  · have x1 : (e == 120) = true := beq_iff_eq.mpr g
    have x2 : decide (a + 3 < (s.size : Int)) = true := decide_eq_true (by omega)
    have x3 : decide (0 ≤ d) = false := decide_eq_false (by omega)
    have HD := Aside0.mk hd
    have p2 := eq_true (show (0 : Int) ≤ a + 2 by omega)
    have q2 := eq_true (show a + 2 < (s.size : Int) by omega)
    have hx2 := bt_at s (a + 2)
    have hl2 : (a + 2).toNat < s.size := by omega
    have r20 := (bt_range s (a + 2)).1
    have r21 := (bt_range s (a + 2)).2
    clear g g2 hd
    go_quiet ((go_at_call 51; with_reducible exact quiet_more (regex_digit.calls (bt s (a + 2)) d _ HD.out)))
    go_wp2_with (first | (go_at_call 34; (with_reducible refine (strings_IndexByte.calls (⟨#[110, 116, 114]⟩ : ByteArray) e i _ J.out).mono ?_); rintro e' w' ⟨rfl, ⟨nd3, rfl⟩⟩) | (go_at_call 34; (with_reducible refine (strings_IndexByte.calls by_ e j _ J2.out).mono ?_); rintro e' w' ⟨rfl, ⟨nd4, rfl⟩⟩))
    go_ret
    exact ⟨by first | rfl | (simp [*]; done), (by repeat (first | (with_reducible exact HI.out) | (with_reducible apply Rd.at_) | (with_reducible apply Rd.drewN) | (with_reducible apply Rd.drew) | (with_reducible apply Rd.alloc))), (by repeat (first | (with_reducible exact KeepBut.refl _ _ _) | (with_reducible apply KeepBut.set_) | (with_reducible apply keep_drewN) | (with_reducible apply keep_drew) | (with_reducible apply keep_alloc)))⟩
  · have x1 : (e == 120) = true := beq_iff_eq.mpr g
    have x2 : decide (a + 3 < (s.size : Int)) = true := decide_eq_true (by omega)
    have x3 : decide (0 ≤ d) = true := decide_eq_true (by omega)
    have x4 : decide (0 ≤ d2) = false := decide_eq_false (by omega)
    have HD := Aside0.mk hd
    have HD2 := Aside0.mk hd2
    have p2 := eq_true (show (0 : Int) ≤ a + 2 by omega)
    have q2 := eq_true (show a + 2 < (s.size : Int) by omega)
    have hx2 := bt_at s (a + 2)
    have hl2 : (a + 2).toNat < s.size := by omega
    have r20 := (bt_range s (a + 2)).1
    have r21 := (bt_range s (a + 2)).2
    have p3 := eq_true (show (0 : Int) ≤ a + 3 by omega)
    have q3 := eq_true (show a + 3 < (s.size : Int) by omega)
    have hx3 := bt_at s (a + 3)
    have hl3 : (a + 3).toNat < s.size := by omega
    have r30 := (bt_range s (a + 3)).1
    have r31 := (bt_range s (a + 3)).2
    clear g g2 hd hd2
    go_quiet ((first | (go_at_call 51; with_reducible exact quiet_more (regex_digit.calls (bt s (a + 2)) d _ HD.out)) | (go_at_call 51; with_reducible exact quiet_more (regex_digit.calls (bt s (a + 3)) d2 _ HD2.out))))
    go_wp2_with (first | (go_at_call 34; (with_reducible refine (strings_IndexByte.calls (⟨#[110, 116, 114]⟩ : ByteArray) e i _ J.out).mono ?_); rintro e' w' ⟨rfl, ⟨nd3, rfl⟩⟩) | (go_at_call 34; (with_reducible refine (strings_IndexByte.calls by_ e j _ J2.out).mono ?_); rintro e' w' ⟨rfl, ⟨nd4, rfl⟩⟩))
    go_ret
    exact ⟨by first | rfl | (simp [*]; done), (by repeat (first | (with_reducible exact HI.out) | (with_reducible apply Rd.at_) | (with_reducible apply Rd.drewN) | (with_reducible apply Rd.drew) | (with_reducible apply Rd.alloc))), (by repeat (first | (with_reducible exact KeepBut.refl _ _ _) | (with_reducible apply KeepBut.set_) | (with_reducible apply keep_drewN) | (with_reducible apply keep_drew) | (with_reducible apply keep_alloc)))⟩
attribute [local go_sem] run_panic_iface in
set_option maxHeartbeats 4000000 in
set_option maxRecDepth 100000 in
theorem regex_reader_sign.p8 (w0 w : World) (b : Nat) (s : ByteArray) (a c : Int) (out : List S40) (nt by_ : ByteArray) (hs : (s.size : Int) < 100000) (hI : Rd w0 w b s a out) (hn : regex_reader_next.f s a = some c) (k3 : c = 92) (e : Int) (he : regex_reader_next.f s (a + 1) = some e) (hh : e ≠ 120 ∨ e = 120 ∧ ¬ a + 3 < (s.size : Int) ∨ (e = 120 ∧ a + 3 < (s.size : Int) ∧ ∃ d, regex_digit.f (bt s (a + 2)) = some d ∧ ¬ d ≥ 0) ∨ (e = 120 ∧ a + 3 < (s.size : Int) ∧ ∃ d d2, regex_digit.f (bt s (a + 2)) = some d ∧ d ≥ 0 ∧ regex_digit.f (bt s (a + 3)) = some d2 ∧ ¬ d2 ≥ 0)) (k5 : e ≥ 0) (i : Int) (hj : strings_IndexByte.f ⟨#[110, 116, 114]⟩ e = some i) (k6 : ¬ i ≥ 0) (j : Int) (hj2 : strings_IndexByte.f by_ e = some j) (k7 : ¬ j ≥ 0) :
    Calls Tryd.prog 48 #[.pointer (some ⟨b, 0, none⟩), .string nt, .string by_] w fun e_ w' => e_ = thrown a ∧ (∃ a out, Rd w0 w' b s a out) ∧ KeepBut w w' b none := by
  obtain ⟨n1, n2, n3, n4, n5, n6⟩ := regex_reader_next.bd hn
  have HN := Aside0.mk hn
  have HI := Aside0.mk hI
  have c0 := hI.c0
  have c1 := hI.c1
  have f1 := hI.f1
  clear hn hI n5 n6
  subst k3
  obtain ⟨m1, m2, m3, m4, m5, m6⟩ := regex_reader_next.bd he
  have HE := Aside0.mk he
  clear he m5 m6
  have s2 : IntKind.i64.wrap (a + 1 + 2) = a + 3 := by rw [IntWalk.i64_in _ (by omega)]; omega
  have s3 : IntKind.i64.wrap (a + 3) = a + 3 := IntWalk.i64_in _ (by omega)
  have s1 : IntKind.i64.wrap (a + 1 + 1) = a + 2 := by rw [IntWalk.i64_in _ (by omega)]; omega
  have s0 : IntKind.i64.wrap (a + 2) = a + 2 := IntWalk.i64_in _ (by omega)
  have d6 : decide (0 ≤ e) = true := decide_eq_true k5
  have cv : IntKind.u8.wrap e = e := IntWalk.u8_in _ (by omega)
  have J := Aside0.mk hj
  have s4 : IntKind.i64.wrap (a + 1 + 1) = a + 2 := by rw [IntWalk.i64_in _ (by omega)]; omega
  clear hj
  have J2 := Aside0.mk hj2
  have d7 : decide (0 ≤ i) = false := decide_eq_false k6
  have d8 : decide (0 ≤ j) = false := decide_eq_false k7
  go_enter Tryd.func48, Tryd.ntmps48
  go_wp2_with (first | (go_at_call 31; (with_reducible refine (regex_reader_next.calls w0 _ b s a out 92 ?side HN.out).mono ?_); (case side => repeat (first | (with_reducible exact HI.out) | (with_reducible apply Rd.at_) | (with_reducible apply Rd.drewN) | (with_reducible apply Rd.drew) | (with_reducible apply Rd.alloc))); rintro e' w' ⟨rfl, ⟨nd, rfl⟩⟩) | (go_at_call 31; (with_reducible refine (regex_reader_next.calls w0 _ b s (a + 1) out e ?side2 HE.out).mono ?_); (case side2 => repeat (first | (with_reducible exact HI.out) | (with_reducible apply Rd.at_) | (with_reducible apply Rd.drewN) | (with_reducible apply Rd.drew) | (with_reducible apply Rd.alloc))); rintro e' w' ⟨rfl, ⟨nd2, rfl⟩⟩))
  rcases hh with g | ⟨g, g2⟩ | ⟨g, g2, d, hd, g3⟩ | ⟨g, g2, d, d2, hd, g3, hd2, g4⟩
  · have x1 : (e == 120) = false := beq_eq_false_iff_ne.mpr g
    clear g
    go_quiet (fail)
    go_wp2_with (first | (go_at_call 34; (with_reducible refine (strings_IndexByte.calls (⟨#[110, 116, 114]⟩ : ByteArray) e i _ J.out).mono ?_); rintro e' w' ⟨rfl, ⟨nd3, rfl⟩⟩) | (go_at_call 34; (with_reducible refine (strings_IndexByte.calls by_ e j _ J2.out).mono ?_); rintro e' w' ⟨rfl, ⟨nd4, rfl⟩⟩))
    exact ⟨rfl, rfl, ⟨_, out, (by repeat (first | (with_reducible exact HI.out) | (with_reducible apply Rd.at_) | (with_reducible apply Rd.drewN) | (with_reducible apply Rd.drew) | (with_reducible apply Rd.alloc)))⟩, (by repeat (first | (with_reducible exact KeepBut.refl _ _ _) | (with_reducible apply KeepBut.set_) | (with_reducible apply keep_drewN) | (with_reducible apply keep_drew) | (with_reducible apply keep_alloc)))⟩
  · have x1 : (e == 120) = true := beq_iff_eq.mpr g
    have x2 : decide (a + 3 < (s.size : Int)) = false := decide_eq_false (by omega)
    clear g g2
    go_quiet (fail)
    go_wp2_with (first | (go_at_call 34; (with_reducible refine (strings_IndexByte.calls (⟨#[110, 116, 114]⟩ : ByteArray) e i _ J.out).mono ?_); rintro e' w' ⟨rfl, ⟨nd3, rfl⟩⟩) | (go_at_call 34; (with_reducible refine (strings_IndexByte.calls by_ e j _ J2.out).mono ?_); rintro e' w' ⟨rfl, ⟨nd4, rfl⟩⟩))
    exact ⟨rfl, rfl, ⟨_, out, (by repeat (first | (with_reducible exact HI.out) | (with_reducible apply Rd.at_) | (with_reducible apply Rd.drewN) | (with_reducible apply Rd.drew) | (with_reducible apply Rd.alloc)))⟩, (by repeat (first | (with_reducible exact KeepBut.refl _ _ _) | (with_reducible apply KeepBut.set_) | (with_reducible apply keep_drewN) | (with_reducible apply keep_drew) | (with_reducible apply keep_alloc)))⟩
  · have x1 : (e == 120) = true := beq_iff_eq.mpr g
    have x2 : decide (a + 3 < (s.size : Int)) = true := decide_eq_true (by omega)
    have x3 : decide (0 ≤ d) = false := decide_eq_false (by omega)
    have HD := Aside0.mk hd
    have p2 := eq_true (show (0 : Int) ≤ a + 2 by omega)
    have q2 := eq_true (show a + 2 < (s.size : Int) by omega)
    have hx2 := bt_at s (a + 2)
    have hl2 : (a + 2).toNat < s.size := by omega
    have r20 := (bt_range s (a + 2)).1
    have r21 := (bt_range s (a + 2)).2
    clear g g2 hd
    go_quiet ((go_at_call 51; with_reducible exact quiet_more (regex_digit.calls (bt s (a + 2)) d _ HD.out)))
    go_wp2_with (first | (go_at_call 34; (with_reducible refine (strings_IndexByte.calls (⟨#[110, 116, 114]⟩ : ByteArray) e i _ J.out).mono ?_); rintro e' w' ⟨rfl, ⟨nd3, rfl⟩⟩) | (go_at_call 34; (with_reducible refine (strings_IndexByte.calls by_ e j _ J2.out).mono ?_); rintro e' w' ⟨rfl, ⟨nd4, rfl⟩⟩))
    exact ⟨rfl, rfl, ⟨_, out, (by repeat (first | (with_reducible exact HI.out) | (with_reducible apply Rd.at_) | (with_reducible apply Rd.drewN) | (with_reducible apply Rd.drew) | (with_reducible apply Rd.alloc)))⟩, (by repeat (first | (with_reducible exact KeepBut.refl _ _ _) | (with_reducible apply KeepBut.set_) | (with_reducible apply keep_drewN) | (with_reducible apply keep_drew) | (with_reducible apply keep_alloc)))⟩
  · have x1 : (e == 120) = true := beq_iff_eq.mpr g
    have x2 : decide (a + 3 < (s.size : Int)) = true := decide_eq_true (by omega)
    have x3 : decide (0 ≤ d) = true := decide_eq_true (by omega)
    have x4 : decide (0 ≤ d2) = false := decide_eq_false (by omega)
    have HD := Aside0.mk hd
    have HD2 := Aside0.mk hd2
    have p2 := eq_true (show (0 : Int) ≤ a + 2 by omega)
    have q2 := eq_true (show a + 2 < (s.size : Int) by omega)
    have hx2 := bt_at s (a + 2)
    have hl2 : (a + 2).toNat < s.size := by omega
    have r20 := (bt_range s (a + 2)).1
    have r21 := (bt_range s (a + 2)).2
    have p3 := eq_true (show (0 : Int) ≤ a + 3 by omega)
    have q3 := eq_true (show a + 3 < (s.size : Int) by omega)
    have hx3 := bt_at s (a + 3)
    have hl3 : (a + 3).toNat < s.size := by omega
    have r30 := (bt_range s (a + 3)).1
    have r31 := (bt_range s (a + 3)).2
    clear g g2 hd hd2
    go_quiet ((first | (go_at_call 51; with_reducible exact quiet_more (regex_digit.calls (bt s (a + 2)) d _ HD.out)) | (go_at_call 51; with_reducible exact quiet_more (regex_digit.calls (bt s (a + 3)) d2 _ HD2.out))))
    go_wp2_with (first | (go_at_call 34; (with_reducible refine (strings_IndexByte.calls (⟨#[110, 116, 114]⟩ : ByteArray) e i _ J.out).mono ?_); rintro e' w' ⟨rfl, ⟨nd3, rfl⟩⟩) | (go_at_call 34; (with_reducible refine (strings_IndexByte.calls by_ e j _ J2.out).mono ?_); rintro e' w' ⟨rfl, ⟨nd4, rfl⟩⟩))
    exact ⟨rfl, rfl, ⟨_, out, (by repeat (first | (with_reducible exact HI.out) | (with_reducible apply Rd.at_) | (with_reducible apply Rd.drewN) | (with_reducible apply Rd.drew) | (with_reducible apply Rd.alloc)))⟩, (by repeat (first | (with_reducible exact KeepBut.refl _ _ _) | (with_reducible apply KeepBut.set_) | (with_reducible apply keep_drewN) | (with_reducible apply keep_drew) | (with_reducible apply keep_alloc)))⟩
attribute [local go_sem] run_panic_iface in
set_option maxHeartbeats 4000000 in
set_option maxRecDepth 100000 in
theorem regex_reader_sign.p9 (w0 w : World) (b : Nat) (s : ByteArray) (a c : Int) (out : List S40) (nt by_ : ByteArray) (hs : (s.size : Int) < 100000) (hI : Rd w0 w b s a out) (hn : regex_reader_next.f s a = some c) (k3 : c = 92) (e : Int) (he : regex_reader_next.f s (a + 1) = some e) (g : e = 120) (g2 : a + 3 < (s.size : Int)) (d d2 : Int) (hd : regex_digit.f (bt s (a + 2)) = some d) (g3 : d ≥ 0) (hd2 : regex_digit.f (bt s (a + 3)) = some d2) (g4 : d2 ≥ 0) :
    Calls Tryd.prog 48 #[.pointer (some ⟨b, 0, none⟩), .string nt, .string by_] w fun e_ w' => e_ = .returned (.int .u8 ((16 * d + d2) % 256)) ∧ Rd w0 w' b s (a + 4) out ∧ KeepBut w w' b none := by
  obtain ⟨n1, n2, n3, n4, n5, n6⟩ := regex_reader_next.bd hn
  have HN := Aside0.mk hn
  have HI := Aside0.mk hI
  have c0 := hI.c0
  have c1 := hI.c1
  have f1 := hI.f1
  clear hn hI n5 n6
  have b1 := regex_digit.bd hd
  have b2 := regex_digit.bd hd2
  subst k3
  obtain ⟨m1, m2, m3, m4, m5, m6⟩ := regex_reader_next.bd he
  have HE := Aside0.mk he
  clear he m5 m6
  have s2 : IntKind.i64.wrap (a + 1 + 2) = a + 3 := by rw [IntWalk.i64_in _ (by omega)]; omega
  have s3 : IntKind.i64.wrap (a + 3) = a + 3 := IntWalk.i64_in _ (by omega)
  have s1 : IntKind.i64.wrap (a + 1 + 1) = a + 2 := by rw [IntWalk.i64_in _ (by omega)]; omega
  have s0 : IntKind.i64.wrap (a + 2) = a + 2 := IntWalk.i64_in _ (by omega)
  have x1 : (e == 120) = true := beq_iff_eq.mpr g
  have x2 : decide (a + 3 < (s.size : Int)) = true := decide_eq_true (by omega)
  have x3 : decide (0 ≤ d) = true := decide_eq_true (by omega)
  have x4 : decide (0 ≤ d2) = true := decide_eq_true (by omega)
  have HD := Aside0.mk hd
  have HD2 := Aside0.mk hd2
  have p2 := eq_true (show (0 : Int) ≤ a + 2 by omega)
  have q2 := eq_true (show a + 2 < (s.size : Int) by omega)
  have hx2 := bt_at s (a + 2)
  have hl2 : (a + 2).toNat < s.size := by omega
  have r20 := (bt_range s (a + 2)).1
  have r21 := (bt_range s (a + 2)).2
  have p3 := eq_true (show (0 : Int) ≤ a + 3 by omega)
  have q3 := eq_true (show a + 3 < (s.size : Int) by omega)
  have hx3 := bt_at s (a + 3)
  have hl3 : (a + 3).toNat < s.size := by omega
  have r30 := (bt_range s (a + 3)).1
  have r31 := (bt_range s (a + 3)).2
  have cw : IntKind.u8.wrap (16 * d + d2) = (16 * d + d2) % 256 := by rw [IntKind.wrap_u8]
  have s5 : IntKind.i64.wrap (a + 4) = a + 4 := IntWalk.i64_in _ (by omega)
  have s6 : IntKind.i64.wrap (a + 1 + 3 - 2) = a + 2 := by rw [IntWalk.i64_in _ (by omega)]; omega
  have s7 : IntKind.i64.wrap (a + 1 + 3 - 1) = a + 3 := by rw [IntWalk.i64_in _ (by omega)]; omega
  have s8 : IntKind.i64.wrap (16 * d) = 16 * d := IntWalk.i64_in _ (by omega)
  have s9 : IntKind.i64.wrap (16 * d + d2) = 16 * d + d2 := IntWalk.i64_in _ (by omega)
  clear g hd hd2
  go_enter Tryd.func48, Tryd.ntmps48
  go_wp2_with (first | (go_at_call 31; (with_reducible refine (regex_reader_next.calls w0 _ b s a out 92 ?side HN.out).mono ?_); (case side => repeat (first | (with_reducible exact HI.out) | (with_reducible apply Rd.at_) | (with_reducible apply Rd.drewN) | (with_reducible apply Rd.drew) | (with_reducible apply Rd.alloc))); rintro e' w' ⟨rfl, ⟨nd, rfl⟩⟩) | (go_at_call 31; (with_reducible refine (regex_reader_next.calls w0 _ b s (a + 1) out e ?side2 HE.out).mono ?_); (case side2 => repeat (first | (with_reducible exact HI.out) | (with_reducible apply Rd.at_) | (with_reducible apply Rd.drewN) | (with_reducible apply Rd.drew) | (with_reducible apply Rd.alloc))); rintro e' w' ⟨rfl, ⟨nd2, rfl⟩⟩))
  go_quiet ((first | (go_at_call 51; with_reducible exact quiet_more (regex_digit.calls (bt s (a + 2)) d _ HD.out)) | (go_at_call 51; with_reducible exact quiet_more (regex_digit.calls (bt s (a + 3)) d2 _ HD2.out))))
  go_wp2_with fail
  go_quiet ((first | (go_at_call 51; with_reducible exact quiet_more (regex_digit.calls (bt s (a + 2)) d _ HD.out)) | (go_at_call 51; with_reducible exact quiet_more (regex_digit.calls (bt s (a + 3)) d2 _ HD2.out)) | (go_at_call 51; with_reducible exact quiet_one (regex_digit.calls (bt s (a + 2)) d _ HD.out)) | (go_at_call 51; with_reducible exact quiet_one (regex_digit.calls (bt s (a + 3)) d2 _ HD2.out))))
  go_wp2_with fail
  go_ret
  refine ⟨by first | rfl | (simp [*]; done), ?_, (by repeat (first | (with_reducible exact KeepBut.refl _ _ _) | (with_reducible apply KeepBut.set_) | (with_reducible apply keep_drewN) | (with_reducible apply keep_drew) | (with_reducible apply keep_alloc)))⟩
  have h4 : a + 1 + 3 = a + 4 := by omega
  rw [← h4]
  repeat (first | (with_reducible exact HI.out) | (with_reducible apply Rd.at_) | (with_reducible apply Rd.drewN) | (with_reducible apply Rd.drew) | (with_reducible apply Rd.alloc))
/-- What reading a sign comes to. -/
def ToldSign (w0 w : World) (b : Nat) (s : ByteArray) (out : List S40) : Except Int (Int × Int) → Ending → World → Prop
  | .ok q, e, w' => e = .returned (.int .u8 q.1) ∧ Rd w0 w' b s q.2 out ∧ KeepBut w w' b none
  | .error n, e, w' => e = thrown n ∧ (∃ a out, Rd w0 w' b s a out) ∧ KeepBut w w' b none
theorem regex_reader_sign.calls (w0 w : World) (b : Nat) (s : ByteArray) (a : Int) (out : List S40) (nt by_ : ByteArray) (R : Except Int (Int × Int)) (hI : Rd w0 w b s a out) (h : regex_reader_sign.f s a nt by_ = some R) :
    Calls Tryd.prog 48 #[.pointer (some ⟨b, 0, none⟩), .string nt, .string by_] w (ToldSign w0 w b s out R) := by
  unfold regex_reader_sign.f at h
  by_cases hs : (s.size : Int) < 100000
  · rw [if_pos hs] at h
    obtain ⟨c, hn, h⟩ := Option.bind_eq_some_iff.mp h
    by_cases k1 : c < 32
    · rw [if_pos k1] at h
      obtain rfl := Option.some.inj h
      exact regex_reader_sign.p1 w0 w b s a c out nt by_ hs hI hn k1
    · rw [if_neg k1] at h
      by_cases k2 : c > 126
      · rw [if_pos k2] at h
        obtain rfl := Option.some.inj h
        exact regex_reader_sign.p2 w0 w b s a c out nt by_ hs hI hn k1 k2
      · rw [if_neg k2] at h
        by_cases k3 : c ≠ 92
        · rw [if_pos k3] at h
          obtain ⟨i, hj, h⟩ := Option.bind_eq_some_iff.mp h
          by_cases k4 : i ≥ 0
          · rw [if_pos k4] at h
            obtain rfl := Option.some.inj h
            exact regex_reader_sign.p3 w0 w b s a c out nt by_ hs hI hn k1 k2 k3 i hj k4
          · rw [if_neg k4] at h
            obtain rfl := Option.some.inj h
            exact regex_reader_sign.p4 w0 w b s a c out nt by_ hs hI hn k1 k2 k3 i hj k4
        · rw [if_neg k3] at h
          have k3' : c = 92 := by omega
          obtain ⟨e, he, h⟩ := Option.bind_eq_some_iff.mp h
          have esc : ∀ R, (e ≠ 120 ∨ e = 120 ∧ ¬ a + 3 < (s.size : Int) ∨ (e = 120 ∧ a + 3 < (s.size : Int) ∧ ∃ d, regex_digit.f (bt s (a + 2)) = some d ∧ ¬ d ≥ 0) ∨ (e = 120 ∧ a + 3 < (s.size : Int) ∧ ∃ d d2, regex_digit.f (bt s (a + 2)) = some d ∧ d ≥ 0 ∧ regex_digit.f (bt s (a + 3)) = some d2 ∧ ¬ d2 ≥ 0)) →
              regex_reader_sign.esc s a e by_ = some R → Calls Tryd.prog 48 #[.pointer (some ⟨b, 0, none⟩), .string nt, .string by_] w (ToldSign w0 w b s out R) := by
            intro R hh h
            unfold regex_reader_sign.esc at h
            by_cases k5 : e ≥ 0
            · rw [if_pos k5] at h
              obtain ⟨i, hj, h⟩ := Option.bind_eq_some_iff.mp h
              by_cases k6 : i ≥ 0
              · rw [if_pos k6] at h
                by_cases k7 : i < 3
                · rw [if_pos k7] at h
                  obtain rfl := Option.some.inj h
                  exact regex_reader_sign.p6 w0 w b s a c out nt by_ hs hI hn k3' e he hh k5 i hj k6 k7
                · rw [if_neg k7] at h; cases h
              · rw [if_neg k6] at h
                obtain ⟨j, hj2, h⟩ := Option.bind_eq_some_iff.mp h
                by_cases k7 : j ≥ 0
                · rw [if_pos k7] at h
                  obtain rfl := Option.some.inj h
                  exact regex_reader_sign.p7 w0 w b s a c out nt by_ hs hI hn k3' e he hh k5 i hj k6 j hj2 k7
                · rw [if_neg k7] at h
                  obtain rfl := Option.some.inj h
                  exact regex_reader_sign.p8 w0 w b s a c out nt by_ hs hI hn k3' e he hh k5 i hj k6 j hj2 k7
            · rw [if_neg k5] at h
              obtain rfl := Option.some.inj h
              exact regex_reader_sign.p5 w0 w b s a c out nt by_ hs hI hn k3' e he hh k5
          by_cases g : e = 120
          · rw [if_pos g] at h
            unfold regex_reader_sign.hex at h
            by_cases g2 : a + 3 < (s.size : Int)
            · rw [if_pos g2, Option.bind_assoc] at h
              obtain ⟨d, hd, h⟩ := Option.bind_eq_some_iff.mp h
              by_cases g3 : d ≥ 0
              · rw [if_pos g3, Option.bind_assoc] at h
                obtain ⟨d2, hd2, h⟩ := Option.bind_eq_some_iff.mp h
                by_cases g4 : d2 ≥ 0
                · rw [if_pos g4, Option.bind_some] at h
                  obtain rfl := Option.some.inj h
                  exact regex_reader_sign.p9 w0 w b s a c out nt by_ hs hI hn k3' e he g g2 d d2 hd g3 hd2 g4
                · rw [if_neg g4, Option.bind_some] at h
                  exact esc R (.inr (.inr (.inr ⟨g, g2, d, d2, hd, g3, hd2, g4⟩))) h
              · rw [if_neg g3, Option.bind_some] at h
                exact esc R (.inr (.inr (.inl ⟨g, g2, d, hd, g3⟩))) h
            · rw [if_neg g2, Option.bind_some] at h
              exact esc R (.inr (.inl ⟨g, g2⟩)) h
          · rw [if_neg g] at h
            exact esc R (.inl g) h
  · rw [if_neg hs] at h
    cases h

end Go.Proofs.YtkabcjchgaokoaaDoor.PSj
