/- Proved here: what the functions below come to: walks printed by a program, over contracts of this claim. -/
import Derived.Test.YtkabcjchgaokoaaDoorGSjx0
import Derived.Test.YtkabcjchgaokoaaDoorGSjx5
import Derived.Test.YtkabcjchgaokoaaDoorGSjx6
import Derived.Test.YtkabcjchgaokoaaDoorGSjx11
import Derived.Test.YtkabcjchgaokoaaDoorGSjx12
import Derived.Test.YtkabcjchgaokoaaDoorGSjx13
import Derived.Test.YtkabcjchgaokoaaDoorGSjx15
namespace Go.Proofs.YtkabcjchgaokoaaDoor.PSj
open Go.RowKit Go.Proofs.YtkabcjchgaokoaaDoorW.PrintWords Go.Proofs.YtkabcjchgaokoaaDoorW.PrintLast Go.Proofs.YtkabcjchgaokoaaDoorW.PrintMore
attribute [local go_sem] max2_int min2_int max_two min_two max_three min_three max_four min_four   -- for this text's walks alone
set_option linter.unusedVariables false
set_option linter.unusedSimpArgs false

/-! ### regex_reader_atom: function 44 -/
mutual
def regex_reader_atom.f : Nat → ByteArray → Int → List S40 → Option (Except Int (Int × List S40))
  | 0, _, _, _ => none
  | k + 1, s, a, out => (regex_reader_next.f s a).bind fun c =>
    if c = 40 then (regex_reader_next.f s (a + 1)).bind fun c2 => Ex (if c2 = 41 then (regex_reader_put.f out 2 0 0 0 0).bind fun o => some (.ok (a + 1, o)) else regex_reader_rows.f k s (a + 1) out) fun r => Ex (regex_reader_must.f s r.1 41) fun a2 => some (.ok (a2, r.2))
    else if c = 46 then (bytes_One.f 10).bind fun q => (bytes_Not.f q.1 q.2.1 q.2.2.1 q.2.2.2).bind fun n => (regex_reader_put.f out 1 n.1 n.2.1 n.2.2.1 n.2.2.2).bind fun o => some (.ok (a + 1, o))
    else if c = 91 then Ex (regex_reader_class.f k s a) fun q => (regex_reader_put.f out 1 q.1.1 q.1.2.1 q.1.2.2.1 q.1.2.2.2).bind fun o => some (.ok (q.2, o))
    else Ex (regex_reader_sign.f s a ⟨#[46, 42, 43, 63, 40, 41, 91, 93, 124, 92, 47]⟩ ⟨#[46, 42, 43, 63, 40, 41, 91, 93, 124, 92, 47, 45, 94]⟩) fun q => (bytes_One.f q.1).bind fun n => (regex_reader_put.f out 1 n.1 n.2.1 n.2.2.1 n.2.2.2).bind fun o => some (.ok (q.2, o))
def regex_reader_piece.f : Nat → ByteArray → Int → List S40 → Option (Except Int (Int × List S40))
  | 0, _, _, _ => none
  | k + 1, s, a, out => Ex (regex_reader_atom.f k s a out) fun r => regex_reader_piece.l0 k s r.1 r.2
def regex_reader_piece.l0 : Nat → ByteArray → Int → List S40 → Option (Except Int (Int × List S40))
  | 0, _, _, _ => none
  | k + 1, s, a, out => (regex_reader_next.f s a).bind fun c => (strings_IndexByte.f ⟨#[42, 43, 63]⟩ (if c < 0 then 0 else c)).bind fun i => if i < 0 then some (.ok (a, out)) else if i < 3 then (regex_reader_put.f out (i + 5) 0 0 0 0).bind fun o => regex_reader_piece.l0 k s (a + 1) o else none
def regex_reader_row.f : Nat → ByteArray → Int → List S40 → Option (Except Int (Int × List S40))
  | 0, _, _, _ => none
  | k + 1, s, a, out => Ex (regex_reader_piece.f k s a out) fun r => regex_reader_row.l0 k s r.1 r.2
def regex_reader_row.l0 : Nat → ByteArray → Int → List S40 → Option (Except Int (Int × List S40))
  | 0, _, _, _ => none
  | k + 1, s, a, out => (regex_reader_next.f s a).bind fun c => if c ≥ 0 ∧ c ≠ 124 ∧ c ≠ 41 then Ex (regex_reader_piece.f k s a out) fun r => (regex_reader_put.f r.2 3 0 0 0 0).bind fun o => regex_reader_row.l0 k s r.1 o else some (.ok (a, out))
def regex_reader_rows.f : Nat → ByteArray → Int → List S40 → Option (Except Int (Int × List S40))
  | 0, _, _, _ => none
  | k + 1, s, a, out => Ex (regex_reader_row.f k s a out) fun r => regex_reader_rows.l0 k s r.1 r.2
def regex_reader_rows.l0 : Nat → ByteArray → Int → List S40 → Option (Except Int (Int × List S40))
  | 0, _, _, _ => none
  | k + 1, s, a, out => (regex_reader_next.f s a).bind fun c => if c = 124 then Ex (regex_reader_row.f k s (a + 1) out) fun r => (regex_reader_put.f r.2 4 0 0 0 0).bind fun o => regex_reader_rows.l0 k s r.1 o else some (.ok (a, out))
end
theorem regex_reader_atom.mono_all : ∀ k, (∀ s a out, LeO (regex_reader_atom.f k s a out) (regex_reader_atom.f (k + 1) s a out)) ∧ (∀ s a out, LeO (regex_reader_piece.f k s a out) (regex_reader_piece.f (k + 1) s a out)) ∧ (∀ s a out, LeO (regex_reader_piece.l0 k s a out) (regex_reader_piece.l0 (k + 1) s a out)) ∧ (∀ s a out, LeO (regex_reader_row.f k s a out) (regex_reader_row.f (k + 1) s a out)) ∧ (∀ s a out, LeO (regex_reader_row.l0 k s a out) (regex_reader_row.l0 (k + 1) s a out)) ∧ (∀ s a out, LeO (regex_reader_rows.f k s a out) (regex_reader_rows.f (k + 1) s a out)) ∧ (∀ s a out, LeO (regex_reader_rows.l0 k s a out) (regex_reader_rows.l0 (k + 1) s a out))
  | 0 => by
    refine ⟨?_, ?_, ?_, ?_, ?_, ?_, ?_⟩
    · intro s a out r h; rw [regex_reader_atom.f] at h; cases h
    · intro s a out r h; rw [regex_reader_piece.f] at h; cases h
    · intro s a out r h; rw [regex_reader_piece.l0] at h; cases h
    · intro s a out r h; rw [regex_reader_row.f] at h; cases h
    · intro s a out r h; rw [regex_reader_row.l0] at h; cases h
    · intro s a out r h; rw [regex_reader_rows.f] at h; cases h
    · intro s a out r h; rw [regex_reader_rows.l0] at h; cases h
  | k + 1 => by
    obtain ⟨i1, i2, i3, i4, i5, i6, i7⟩ := regex_reader_atom.mono_all k
    refine ⟨?_, ?_, ?_, ?_, ?_, ?_, ?_⟩
    · intro s a out
      rw [regex_reader_atom.f, regex_reader_atom.f]
      repeat' first
      | (with_reducible exact i6 _ _ _)
      | (with_reducible exact regex_reader_class.mono _ _ _)
      | (with_reducible exact LeO.refl _)
      | (with_reducible refine LeO.ite ?_ ?_)
      | (with_reducible refine LeO.bind ?_ (fun _ => ?_))
      | (with_reducible refine Ex_mono ?_ (fun _ => ?_))
    · intro s a out
      rw [regex_reader_piece.f, regex_reader_piece.f]
      exact Ex_mono (i1 _ _ _) (fun _ => i3 _ _ _)
    · intro s a out
      rw [regex_reader_piece.l0, regex_reader_piece.l0]
      repeat' first
      | (with_reducible exact i3 _ _ _)
      | (with_reducible exact LeO.refl _)
      | (with_reducible refine LeO.ite ?_ ?_)
      | (with_reducible refine LeO.bind ?_ (fun _ => ?_))
    · intro s a out
      rw [regex_reader_row.f, regex_reader_row.f]
      exact Ex_mono (i2 _ _ _) (fun _ => i5 _ _ _)
    · intro s a out
      rw [regex_reader_row.l0, regex_reader_row.l0]
      repeat' first
      | (with_reducible exact i2 _ _ _)
      | (with_reducible exact i5 _ _ _)
      | (with_reducible exact LeO.refl _)
      | (with_reducible refine LeO.ite ?_ ?_)
      | (with_reducible refine LeO.bind ?_ (fun _ => ?_))
      | (with_reducible refine Ex_mono ?_ (fun _ => ?_))
    · intro s a out
      rw [regex_reader_rows.f, regex_reader_rows.f]
      exact Ex_mono (i4 _ _ _) (fun _ => i7 _ _ _)
    · intro s a out
      rw [regex_reader_rows.l0, regex_reader_rows.l0]
      repeat' first
      | (with_reducible exact i4 _ _ _)
      | (with_reducible exact i7 _ _ _)
      | (with_reducible exact LeO.refl _)
      | (with_reducible refine LeO.ite ?_ ?_)
      | (with_reducible refine LeO.bind ?_ (fun _ => ?_))
      | (with_reducible refine Ex_mono ?_ (fun _ => ?_))
/-- A reader's call of a function, at some rounds, comes to what the function tells. -/
def Says (N : Nat) (F : Nat → ByteArray → Int → List S40 → Option (Except Int (Int × List S40))) (w0 : World) (b : Nat) (s : ByteArray) (k : Nat) : Prop :=
  ∀ (w : World) (a : Int) (out : List S40) (R : Except Int (Int × List S40)), Rd w0 w b s a out → F k s a out = some R → Calls Tryd.prog N #[.pointer (some ⟨b, 0, none⟩)] w (Told w0 b s (.tuple #[]) R)
theorem Says.calls {N : Nat} {F : Nat → ByteArray → Int → List S40 → Option (Except Int (Int × List S40))} {w0 : World} {b : Nat} {s : ByteArray} {k : Nat} (h : Says N F w0 b s k) (w : World) (a : Int) (out : List S40) (R : Except Int (Int × List S40)) (hI : Rd w0 w b s a out) (hf : F k s a out = some R) :
    Calls Tryd.prog N #[.pointer (some ⟨b, 0, none⟩)] w (Told w0 b s (.tuple #[]) R) := h w a out R hI hf
set_option maxHeartbeats 8000000 in
set_option maxRecDepth 100000 in
theorem regex_reader_atom.step (w0 : World) (b : Nat) (s : ByteArray) (hs : (s.size : Int) < 100000) (k : Nat) (ih : ∀ j, j ≤ k → Says 19 regex_reader_rows.f w0 b s j) : Says 44 regex_reader_atom.f w0 b s (k + 1) := by
  intro w a out R hI h
  rw [regex_reader_atom.f] at h
  obtain ⟨c, hn, h⟩ := Option.bind_eq_some_iff.mp h
  obtain ⟨n1, n2, n3, n4, n5, n6⟩ := regex_reader_next.bd hn
  have HN := Aside0.mk hn
  have HI := Aside0.mk hI
  have c0 := hI.c0
  have c1 := hI.c1
  have f1 := hI.f1
  clear hn hI n5 n6
  have IH := Aside0.mk ih
  clear ih
  by_cases k1 : c = 40
  · rw [if_pos k1] at h
    have d1 : (c == 40) = true := beq_iff_eq.mpr k1
    clear k1
    obtain ⟨c2, hn2, h⟩ := Option.bind_eq_some_iff.mp h
    obtain ⟨r1, r2, r3, r4, r5, r6⟩ := regex_reader_next.bd hn2
    have HN2 := Aside0.mk hn2
    clear hn2 r5 r6
    by_cases k2 : c2 = 41
    · rw [if_pos k2] at h
      have d2 : (c2 == 41) = true := beq_iff_eq.mpr k2
      clear k2
      rcases Ex_some h with ⟨n, h1, rfl⟩ | ⟨r, h1, h⟩
      · obtain ⟨o, ho, h1⟩ := Option.bind_eq_some_iff.mp h1
        cases h1
      · obtain ⟨o, ho, h1⟩ := Option.bind_eq_some_iff.mp h1
        obtain rfl := Except.ok.inj (Option.some.inj h1)
        have HO := Aside0.mk ho
        clear h1 ho
        rcases Ex_some h with ⟨n, h2, rfl⟩ | ⟨a2, h2, h⟩
        · have HM := Aside0.mk h2
          clear h h2
          go_enter Tryd.func44, Tryd.ntmps44
          go_wp2_with fail
          (go_at_call 31; (with_reducible refine (regex_reader_next.calls w0 _ b s (a) out c (by repeat (first | (with_reducible exact HI.out) | (with_reducible apply Rd.at_) | (with_reducible apply Rd.drewN) | (with_reducible apply Rd.drew) | (with_reducible apply Rd.alloc))) HN.out).mono ?_); rintro e' w' ⟨rfl, ⟨nd, rfl⟩⟩)
          go_wp2_with fail
          (go_at_call 31; (with_reducible refine (regex_reader_next.calls w0 _ b s (a + 1) out c2 (by repeat (first | (with_reducible exact HI.out) | (with_reducible apply Rd.at_) | (with_reducible apply Rd.drewN) | (with_reducible apply Rd.drew) | (with_reducible apply Rd.alloc))) HN2.out).mono ?_); rintro e' w' ⟨rfl, ⟨nd2, rfl⟩⟩)
          go_wp2_with fail
          (go_at_call 32; (with_reducible refine (regex_reader_put.calls w0 _ b s (a + 1) (out) o (2) 0 0 0 0 (by repeat (first | (with_reducible exact HI.out) | (with_reducible apply Rd.at_) | (with_reducible apply Rd.drewN) | (with_reducible apply Rd.drew) | (with_reducible apply Rd.alloc))) HO.out).mono ?_); rintro e' w' ⟨rfl, hr⟩; have HP := Aside0.mk hr; have uHP0 := hr.c0; have uHP1 := hr.c1; have uHPf := hr.f1; clear hr)
          go_wp2_with fail
          (go_at_call 46; (with_reducible refine (regex_reader_must.calls w0 _ b s (a + 1) 41 (o) (.error n) (by repeat (first | (with_reducible exact HP.out) | (with_reducible apply Rd.at_) | (with_reducible apply Rd.drewN) | (with_reducible apply Rd.drew) | (with_reducible apply Rd.alloc))) HM.out).mono ?_); rintro e' w' ⟨rfl, a9, o9, hr⟩; simp only [thrown])
          go_wp2_with fail
          exact ⟨rfl, rfl, a9, o9, hr⟩
        · have HM := Aside0.mk h2
          obtain rfl := Option.some.inj h
          clear h2
          go_enter Tryd.func44, Tryd.ntmps44
          go_wp2_with fail
          (go_at_call 31; (with_reducible refine (regex_reader_next.calls w0 _ b s (a) out c (by repeat (first | (with_reducible exact HI.out) | (with_reducible apply Rd.at_) | (with_reducible apply Rd.drewN) | (with_reducible apply Rd.drew) | (with_reducible apply Rd.alloc))) HN.out).mono ?_); rintro e' w' ⟨rfl, ⟨nd, rfl⟩⟩)
          go_wp2_with fail
          (go_at_call 31; (with_reducible refine (regex_reader_next.calls w0 _ b s (a + 1) out c2 (by repeat (first | (with_reducible exact HI.out) | (with_reducible apply Rd.at_) | (with_reducible apply Rd.drewN) | (with_reducible apply Rd.drew) | (with_reducible apply Rd.alloc))) HN2.out).mono ?_); rintro e' w' ⟨rfl, ⟨nd2, rfl⟩⟩)
          go_wp2_with fail
          (go_at_call 32; (with_reducible refine (regex_reader_put.calls w0 _ b s (a + 1) (out) o (2) 0 0 0 0 (by repeat (first | (with_reducible exact HI.out) | (with_reducible apply Rd.at_) | (with_reducible apply Rd.drewN) | (with_reducible apply Rd.drew) | (with_reducible apply Rd.alloc))) HO.out).mono ?_); rintro e' w' ⟨rfl, hr⟩; have HP := Aside0.mk hr; have uHP0 := hr.c0; have uHP1 := hr.c1; have uHPf := hr.f1; clear hr)
          go_wp2_with fail
          (go_at_call 46; (with_reducible refine (regex_reader_must.calls w0 _ b s (a + 1) 41 (o) (.ok a2) (by repeat (first | (with_reducible exact HP.out) | (with_reducible apply Rd.at_) | (with_reducible apply Rd.drewN) | (with_reducible apply Rd.drew) | (with_reducible apply Rd.alloc))) HM.out).mono ?_); rintro e' w' ⟨rfl, hr⟩; have HQ := Aside0.mk hr; have um0 := hr.c0; have um1 := hr.c1; have umf := hr.f1; clear hr)
          go_wp2_with fail
          refine bodyPost_end (v := .tuple #[]) (by simp [results, Tryd.results44, go_sem]) rfl ⟨rfl, ?_⟩
          repeat (first | (with_reducible exact HQ.out) | (with_reducible apply Rd.at_) | (with_reducible apply Rd.drewN) | (with_reducible apply Rd.drew) | (with_reducible apply Rd.alloc))
    · rw [if_neg k2] at h
      have d2 : (c2 == 41) = false := beq_eq_false_iff_ne.mpr k2
      clear k2
      rcases Ex_some h with ⟨n, h1, rfl⟩ | ⟨⟨ra, ro⟩, h1, h⟩
      · have HR1 := Aside0.mk h1
        clear h h1
        go_enter Tryd.func44, Tryd.ntmps44
        go_wp2_with fail
        (go_at_call 31; (with_reducible refine (regex_reader_next.calls w0 _ b s (a) out c (by repeat (first | (with_reducible exact HI.out) | (with_reducible apply Rd.at_) | (with_reducible apply Rd.drewN) | (with_reducible apply Rd.drew) | (with_reducible apply Rd.alloc))) HN.out).mono ?_); rintro e' w' ⟨rfl, ⟨nd, rfl⟩⟩)
        go_wp2_with fail
        (go_at_call 31; (with_reducible refine (regex_reader_next.calls w0 _ b s (a + 1) out c2 (by repeat (first | (with_reducible exact HI.out) | (with_reducible apply Rd.at_) | (with_reducible apply Rd.drewN) | (with_reducible apply Rd.drew) | (with_reducible apply Rd.alloc))) HN2.out).mono ?_); rintro e' w' ⟨rfl, ⟨nd2, rfl⟩⟩)
        go_wp2_with fail
        (go_at_call 19; (with_reducible refine ((IH.out k (Nat.le_refl _)).calls _ (a + 1) out (.error n) (by repeat (first | (with_reducible exact HI.out) | (with_reducible apply Rd.at_) | (with_reducible apply Rd.drewN) | (with_reducible apply Rd.drew) | (with_reducible apply Rd.alloc))) HR1.out).mono ?_); rintro e' w' ⟨rfl, a9, o9, hr⟩; simp only [thrown])
        go_wp2_with fail
        exact ⟨rfl, rfl, a9, o9, hr⟩
      · have HR1 := Aside0.mk h1
        clear h1
        rcases Ex_some h with ⟨n, h2, rfl⟩ | ⟨a2, h2, h⟩
        · have HM := Aside0.mk h2
          clear h h2
          go_enter Tryd.func44, Tryd.ntmps44
          go_wp2_with fail
          (go_at_call 31; (with_reducible refine (regex_reader_next.calls w0 _ b s (a) out c (by repeat (first | (with_reducible exact HI.out) | (with_reducible apply Rd.at_) | (with_reducible apply Rd.drewN) | (with_reducible apply Rd.drew) | (with_reducible apply Rd.alloc))) HN.out).mono ?_); rintro e' w' ⟨rfl, ⟨nd, rfl⟩⟩)
          go_wp2_with fail
          (go_at_call 31; (with_reducible refine (regex_reader_next.calls w0 _ b s (a + 1) out c2 (by repeat (first | (with_reducible exact HI.out) | (with_reducible apply Rd.at_) | (with_reducible apply Rd.drewN) | (with_reducible apply Rd.drew) | (with_reducible apply Rd.alloc))) HN2.out).mono ?_); rintro e' w' ⟨rfl, ⟨nd2, rfl⟩⟩)
          go_wp2_with fail
          (go_at_call 19; (with_reducible refine ((IH.out k (Nat.le_refl _)).calls _ (a + 1) out (.ok (ra, ro)) (by repeat (first | (with_reducible exact HI.out) | (with_reducible apply Rd.at_) | (with_reducible apply Rd.drewN) | (with_reducible apply Rd.drew) | (with_reducible apply Rd.alloc))) HR1.out).mono ?_); rintro e' w' ⟨rfl, hr⟩; have HP := Aside0.mk hr; have ur0 := hr.c0; have ur1 := hr.c1; have urf := hr.f1; clear hr)
          go_wp2_with fail
          (go_at_call 46; (with_reducible refine (regex_reader_must.calls w0 _ b s (ra) 41 (ro) (.error n) (by repeat (first | (with_reducible exact HP.out) | (with_reducible apply Rd.at_) | (with_reducible apply Rd.drewN) | (with_reducible apply Rd.drew) | (with_reducible apply Rd.alloc))) HM.out).mono ?_); rintro e' w' ⟨rfl, a9, o9, hr⟩; simp only [thrown])
          go_wp2_with fail
          exact ⟨rfl, rfl, a9, o9, hr⟩
        · have HM := Aside0.mk h2
          obtain rfl := Option.some.inj h
          clear h2
          go_enter Tryd.func44, Tryd.ntmps44
          go_wp2_with fail
          (go_at_call 31; (with_reducible refine (regex_reader_next.calls w0 _ b s (a) out c (by repeat (first | (with_reducible exact HI.out) | (with_reducible apply Rd.at_) | (with_reducible apply Rd.drewN) | (with_reducible apply Rd.drew) | (with_reducible apply Rd.alloc))) HN.out).mono ?_); rintro e' w' ⟨rfl, ⟨nd, rfl⟩⟩)
          go_wp2_with fail
          (go_at_call 31; (with_reducible refine (regex_reader_next.calls w0 _ b s (a + 1) out c2 (by repeat (first | (with_reducible exact HI.out) | (with_reducible apply Rd.at_) | (with_reducible apply Rd.drewN) | (with_reducible apply Rd.drew) | (with_reducible apply Rd.alloc))) HN2.out).mono ?_); rintro e' w' ⟨rfl, ⟨nd2, rfl⟩⟩)
          go_wp2_with fail
          (go_at_call 19; (with_reducible refine ((IH.out k (Nat.le_refl _)).calls _ (a + 1) out (.ok (ra, ro)) (by repeat (first | (with_reducible exact HI.out) | (with_reducible apply Rd.at_) | (with_reducible apply Rd.drewN) | (with_reducible apply Rd.drew) | (with_reducible apply Rd.alloc))) HR1.out).mono ?_); rintro e' w' ⟨rfl, hr⟩; have HP := Aside0.mk hr; have ur0 := hr.c0; have ur1 := hr.c1; have urf := hr.f1; clear hr)
          go_wp2_with fail
          (go_at_call 46; (with_reducible refine (regex_reader_must.calls w0 _ b s (ra) 41 (ro) (.ok a2) (by repeat (first | (with_reducible exact HP.out) | (with_reducible apply Rd.at_) | (with_reducible apply Rd.drewN) | (with_reducible apply Rd.drew) | (with_reducible apply Rd.alloc))) HM.out).mono ?_); rintro e' w' ⟨rfl, hr⟩; have HQ := Aside0.mk hr; have um0 := hr.c0; have um1 := hr.c1; have umf := hr.f1; clear hr)
          go_wp2_with fail
          refine bodyPost_end (v := .tuple #[]) (by simp [results, Tryd.results44, go_sem]) rfl ⟨rfl, ?_⟩
          repeat (first | (with_reducible exact HQ.out) | (with_reducible apply Rd.at_) | (with_reducible apply Rd.drewN) | (with_reducible apply Rd.drew) | (with_reducible apply Rd.alloc))
  · rw [if_neg k1] at h
    have d1 : (c == 40) = false := beq_eq_false_iff_ne.mpr k1
    clear k1
    by_cases k2 : c = 46
    · rw [if_pos k2] at h
      have d2 : (c == 46) = true := beq_iff_eq.mpr k2
      clear k2
      obtain ⟨⟨q0, q1, q2, q3⟩, hq, h⟩ := Option.bind_eq_some_iff.mp h
      obtain ⟨⟨m0, m1, m2, m3⟩, hm, h⟩ := Option.bind_eq_some_iff.mp h
      obtain ⟨o, ho, h⟩ := Option.bind_eq_some_iff.mp h
      obtain rfl := Option.some.inj h
      have HQ := Aside0.mk hq
      have HM := Aside0.mk hm
      have HO := Aside0.mk ho
      clear hq hm ho
      go_enter Tryd.func44, Tryd.ntmps44
      go_wp2_with fail
      (go_at_call 31; (with_reducible refine (regex_reader_next.calls w0 _ b s (a) out c (by repeat (first | (with_reducible exact HI.out) | (with_reducible apply Rd.at_) | (with_reducible apply Rd.drewN) | (with_reducible apply Rd.drew) | (with_reducible apply Rd.alloc))) HN.out).mono ?_); rintro e' w' ⟨rfl, ⟨nd, rfl⟩⟩)
      go_wp2_with fail
      (go_at_call 25; (with_reducible refine (bytes_One.calls 10 q0 q1 q2 q3 _ HQ.out).mono ?_); rintro e' w' ⟨rfl, hb⟩; have HB1 := Aside0.mk (Rd.below (by repeat (first | (with_reducible exact HI.out) | (with_reducible apply Rd.at_) | (with_reducible apply Rd.drewN) | (with_reducible apply Rd.drew) | (with_reducible apply Rd.alloc))) hb); clear hb)
      go_wp2_with fail
      (go_at_call 24; (with_reducible refine (bytes_Not.calls q0 q1 q2 q3 m0 m1 m2 m3 _ HM.out).mono ?_); rintro e' w' ⟨rfl, hb⟩; have HB2 := Aside0.mk (Rd.below (by repeat (first | (with_reducible exact HB1.out) | (with_reducible apply Rd.at_) | (with_reducible apply Rd.drewN) | (with_reducible apply Rd.drew) | (with_reducible apply Rd.alloc))) hb); clear hb)
      go_wp2_with fail
      (go_at_call 32; (with_reducible refine (regex_reader_put.calls w0 _ b s (a + 1) (out) o (1) m0 m1 m2 m3 (by repeat (first | (with_reducible exact HB2.out) | (with_reducible apply Rd.at_) | (with_reducible apply Rd.drewN) | (with_reducible apply Rd.drew) | (with_reducible apply Rd.alloc))) HO.out).mono ?_); rintro e' w' ⟨rfl, hr⟩; have HP := Aside0.mk hr; have uHP0 := hr.c0; have uHP1 := hr.c1; have uHPf := hr.f1; clear hr)
      go_wp2_with fail
      refine bodyPost_end (v := .tuple #[]) (by simp [results, Tryd.results44, go_sem]) rfl ⟨rfl, ?_⟩
      repeat (first | (with_reducible exact HP.out) | (with_reducible apply Rd.at_) | (with_reducible apply Rd.drewN) | (with_reducible apply Rd.drew) | (with_reducible apply Rd.alloc))
    · rw [if_neg k2] at h
      have d2 : (c == 46) = false := beq_eq_false_iff_ne.mpr k2
      clear k2
      by_cases k3 : c = 91
      · rw [if_pos k3] at h
        have d3 : (c == 91) = true := beq_iff_eq.mpr k3
        clear k3
        rcases Ex_some h with ⟨n, h1, rfl⟩ | ⟨⟨⟨m0, m1, m2, m3⟩, qa⟩, h1, h⟩
        · have HC := Aside0.mk h1
          clear h h1
          go_enter Tryd.func44, Tryd.ntmps44
          go_wp2_with fail
          (go_at_call 31; (with_reducible refine (regex_reader_next.calls w0 _ b s (a) out c (by repeat (first | (with_reducible exact HI.out) | (with_reducible apply Rd.at_) | (with_reducible apply Rd.drewN) | (with_reducible apply Rd.drew) | (with_reducible apply Rd.alloc))) HN.out).mono ?_); rintro e' w' ⟨rfl, ⟨nd, rfl⟩⟩)
          go_wp2_with fail
          (go_at_call 47; (with_reducible refine (regex_reader_class.calls k w0 _ b s a out (.error n) (by repeat (first | (with_reducible exact HI.out) | (with_reducible apply Rd.at_) | (with_reducible apply Rd.drewN) | (with_reducible apply Rd.drew) | (with_reducible apply Rd.alloc))) HC.out).mono ?_); rintro e' w' ⟨rfl, a9, o9, hr⟩; simp only [thrown])
          go_wp2_with fail
          exact ⟨rfl, rfl, a9, o9, hr⟩
        · have HC := Aside0.mk h1
          clear h1
          obtain ⟨o, ho, h⟩ := Option.bind_eq_some_iff.mp h
          obtain rfl := Option.some.inj h
          have HO := Aside0.mk ho
          clear ho
          go_enter Tryd.func44, Tryd.ntmps44
          go_wp2_with fail
          (go_at_call 31; (with_reducible refine (regex_reader_next.calls w0 _ b s (a) out c (by repeat (first | (with_reducible exact HI.out) | (with_reducible apply Rd.at_) | (with_reducible apply Rd.drewN) | (with_reducible apply Rd.drew) | (with_reducible apply Rd.alloc))) HN.out).mono ?_); rintro e' w' ⟨rfl, ⟨nd, rfl⟩⟩)
          go_wp2_with fail
          (go_at_call 47; (with_reducible refine (regex_reader_class.calls k w0 _ b s a out (.ok ((m0, m1, m2, m3), qa)) (by repeat (first | (with_reducible exact HI.out) | (with_reducible apply Rd.at_) | (with_reducible apply Rd.drewN) | (with_reducible apply Rd.drew) | (with_reducible apply Rd.alloc))) HC.out).mono ?_); rintro e' w' ⟨rfl, hr⟩; have HB2 := Aside0.mk hr; have uc0 := hr.c0; have uc1 := hr.c1; have ucf := hr.f1; clear hr)
          go_wp2_with fail
          (go_at_call 32; (with_reducible refine (regex_reader_put.calls w0 _ b s (qa) (out) o (1) m0 m1 m2 m3 (by repeat (first | (with_reducible exact HB2.out) | (with_reducible apply Rd.at_) | (with_reducible apply Rd.drewN) | (with_reducible apply Rd.drew) | (with_reducible apply Rd.alloc))) HO.out).mono ?_); rintro e' w' ⟨rfl, hr⟩; have HP := Aside0.mk hr; have uHP0 := hr.c0; have uHP1 := hr.c1; have uHPf := hr.f1; clear hr)
          go_wp2_with fail
          refine bodyPost_end (v := .tuple #[]) (by simp [results, Tryd.results44, go_sem]) rfl ⟨rfl, ?_⟩
          repeat (first | (with_reducible exact HP.out) | (with_reducible apply Rd.at_) | (with_reducible apply Rd.drewN) | (with_reducible apply Rd.drew) | (with_reducible apply Rd.alloc))
      · rw [if_neg k3] at h
        have d3 : (c == 91) = false := beq_eq_false_iff_ne.mpr k3
        clear k3
        rcases Ex_some h with ⟨n, h1, rfl⟩ | ⟨⟨qb, qa⟩, h1, h⟩
        · have HC := Aside0.mk h1
          clear h h1
          go_enter Tryd.func44, Tryd.ntmps44
          go_wp2_with fail
          (go_at_call 31; (with_reducible refine (regex_reader_next.calls w0 _ b s (a) out c (by repeat (first | (with_reducible exact HI.out) | (with_reducible apply Rd.at_) | (with_reducible apply Rd.drewN) | (with_reducible apply Rd.drew) | (with_reducible apply Rd.alloc))) HN.out).mono ?_); rintro e' w' ⟨rfl, ⟨nd, rfl⟩⟩)
          go_wp2_with fail
          (go_at_call 48; (with_reducible refine (regex_reader_sign.calls w0 _ b s a out _ _ (.error n) (by repeat (first | (with_reducible exact HI.out) | (with_reducible apply Rd.at_) | (with_reducible apply Rd.drewN) | (with_reducible apply Rd.drew) | (with_reducible apply Rd.alloc))) HC.out).mono ?_); rintro e' w' ⟨rfl, ⟨a9, o9, hr⟩, hk⟩; simp only [thrown])
          go_wp2_with fail
          exact ⟨rfl, rfl, a9, o9, hr⟩
        · have HC := Aside0.mk h1
          clear h1
          obtain ⟨⟨m0, m1, m2, m3⟩, hm, h⟩ := Option.bind_eq_some_iff.mp h
          obtain ⟨o, ho, h⟩ := Option.bind_eq_some_iff.mp h
          obtain rfl := Option.some.inj h
          have HM := Aside0.mk hm
          have HO := Aside0.mk ho
          clear hm ho
          go_enter Tryd.func44, Tryd.ntmps44
          go_wp2_with fail
          (go_at_call 31; (with_reducible refine (regex_reader_next.calls w0 _ b s (a) out c (by repeat (first | (with_reducible exact HI.out) | (with_reducible apply Rd.at_) | (with_reducible apply Rd.drewN) | (with_reducible apply Rd.drew) | (with_reducible apply Rd.alloc))) HN.out).mono ?_); rintro e' w' ⟨rfl, ⟨nd, rfl⟩⟩)
          go_wp2_with fail
          (go_at_call 48; (with_reducible refine (regex_reader_sign.calls w0 _ b s a out _ _ (.ok (qb, qa)) (by repeat (first | (with_reducible exact HI.out) | (with_reducible apply Rd.at_) | (with_reducible apply Rd.drewN) | (with_reducible apply Rd.drew) | (with_reducible apply Rd.alloc))) HC.out).mono ?_); rintro e' w' ⟨rfl, hr, hk⟩; have HB1 := Aside0.mk hr; have uc0 := hr.c0; have uc1 := hr.c1; have ucf := hr.f1; clear hr)
          go_wp2_with fail
          (go_at_call 25; (with_reducible refine (bytes_One.calls qb m0 m1 m2 m3 _ HM.out).mono ?_); rintro e' w' ⟨rfl, hb⟩; have HB2 := Aside0.mk (Rd.below (by repeat (first | (with_reducible exact HB1.out) | (with_reducible apply Rd.at_) | (with_reducible apply Rd.drewN) | (with_reducible apply Rd.drew) | (with_reducible apply Rd.alloc))) hb); clear hb)
          go_wp2_with fail
          (go_at_call 32; (with_reducible refine (regex_reader_put.calls w0 _ b s (qa) (out) o (1) m0 m1 m2 m3 (by repeat (first | (with_reducible exact HB2.out) | (with_reducible apply Rd.at_) | (with_reducible apply Rd.drewN) | (with_reducible apply Rd.drew) | (with_reducible apply Rd.alloc))) HO.out).mono ?_); rintro e' w' ⟨rfl, hr⟩; have HP := Aside0.mk hr; have uHP0 := hr.c0; have uHP1 := hr.c1; have uHPf := hr.f1; clear hr)
          go_wp2_with fail
          refine bodyPost_end (v := .tuple #[]) (by simp [results, Tryd.results44, go_sem]) rfl ⟨rfl, ?_⟩
          repeat (first | (with_reducible exact HP.out) | (with_reducible apply Rd.at_) | (with_reducible apply Rd.drewN) | (with_reducible apply Rd.drew) | (with_reducible apply Rd.alloc))
set_option maxHeartbeats 8000000 in
set_option maxRecDepth 100000 in
theorem regex_reader_piece.step (w0 : World) (b : Nat) (s : ByteArray) (hs : (s.size : Int) < 100000) (k : Nat) (ih : ∀ j, j ≤ k → Says 44 regex_reader_atom.f w0 b s j) : Says 41 regex_reader_piece.f w0 b s (k + 1) := by
  intro w a out R hI h
  rw [regex_reader_piece.f] at h
  have HI := Aside0.mk hI
  have c0 := hI.c0
  have c1 := hI.c1
  have f1 := hI.f1
  have IH := Aside0.mk ih
  clear ih hI
  rcases Ex_some h with ⟨n, h1, rfl⟩ | ⟨⟨ra, ro⟩, h1, h⟩
  · have HA := Aside0.mk h1
    clear h h1
    go_enter Tryd.func41, Tryd.ntmps41
    go_wp2_with fail
    (go_at_call 44; (with_reducible refine (Says.calls (IH.out k (Nat.le_refl _)) _ (a) (out) (.error n) (by repeat (first | (with_reducible exact HI.out) | (with_reducible apply Rd.at_) | (with_reducible apply Rd.drewN) | (with_reducible apply Rd.drew) | (with_reducible apply Rd.alloc))) HA.out).mono ?_); rintro e' w' ⟨rfl, a9, o9, hr⟩; simp only [thrown])
    go_wp2_with fail
    exact ⟨rfl, rfl, a9, o9, hr⟩
  · have HA := Aside0.mk h1
    have HL := Aside0.mk h
    clear h h1
    go_enter Tryd.func41, Tryd.ntmps41
    go_wp2_with fail
    (go_at_call 44; (with_reducible refine (Says.calls (IH.out k (Nat.le_refl _)) _ (a) (out) (.ok (ra, ro)) (by repeat (first | (with_reducible exact HI.out) | (with_reducible apply Rd.at_) | (with_reducible apply Rd.drewN) | (with_reducible apply Rd.drew) | (with_reducible apply Rd.alloc))) HA.out).mono ?_); rintro e' w' ⟨rfl, hr⟩; have HJ := Aside0.mk hr; have v0 := hr.c0; have v1 := hr.c1; have vf := hr.f1; clear hr)
    go_wp2_with fail
    go_loopg [] k (fun kq  w' => ∃ (a : Int) (out : List S40), Aside0 (Rd w0 w' b s a out) ∧ Aside0 (regex_reader_piece.l0 kq s a out = some R) ∧ Aside0 (kq ≤ k))
    case atStart => exact ⟨ra, ro, HJ, HL, ⟨Nat.le_refl _⟩⟩
    case round =>
      obtain ⟨a', out', HB, HQ, HK⟩ := hrel
      cases gk with
      | zero => exact absurd HQ.out (by simp [regex_reader_piece.l0])
      | succ kk =>
        have h0 := HQ.out
        clear HQ
        rw [regex_reader_piece.l0] at h0
        obtain ⟨c, hn, h0⟩ := Option.bind_eq_some_iff.mp h0
        obtain ⟨i, hi, h0⟩ := Option.bind_eq_some_iff.mp h0
        obtain ⟨n1, n2, n3, n4, n5, n6⟩ := regex_reader_next.bd hn
        have HN := Aside0.mk hn
        have hb := HB.out
        have j0 := hb.c0
        have j1 := hb.c1
        have jf := hb.f1
        have ib := ib_bd _ _ _ hi
        have ib1 := ib.1
        have HH := Aside0.mk h0
        have hkk := HK.out
        clear hn hb n5 n6 ib h0
        by_cases hc : c < 0
        · rw [if_pos hc] at hi
          have HIB := Aside0.mk hi
          have hcf : (c < 0) = True := eq_true hc
          clear hi hc
          by_cases k1 : i < 0
          · have h0 := HH.out
            rw [if_pos k1] at h0
            obtain rfl := Option.some.inj h0
            have d1 : decide (i < 0) = true := decide_eq_true k1
            clear h0
            go_wp2_with fail
            (go_at_call 31; (with_reducible refine (regex_reader_next.calls w0 _ b s (a') (out') c (by repeat (first | (with_reducible exact HB.out) | (with_reducible apply Rd.at_) | (with_reducible apply Rd.drewN) | (with_reducible apply Rd.drew) | (with_reducible apply Rd.alloc))) HN.out).mono ?_); rintro e' w' ⟨rfl, ⟨nd, rfl⟩⟩)
            go_wp2_with fail
            (go_at_call 34; (with_reducible refine (strings_IndexByte.calls (⟨#[42, 43, 63]⟩ : ByteArray) 0 i _ HIB.out).mono ?_); rintro e' w' ⟨rfl, ⟨nd2, rfl⟩⟩)
            go_wp2_with fail
            refine bodyPost_ret (v := .tuple #[]) (by simp [results, Tryd.results41, go_sem]) rfl ⟨rfl, ?_⟩
            repeat (first | (with_reducible exact HB.out) | (with_reducible apply Rd.at_) | (with_reducible apply Rd.drewN) | (with_reducible apply Rd.drew) | (with_reducible apply Rd.alloc))
          · have h0 := HH.out
            rw [if_neg k1] at h0
            have d1 : decide (i < 0) = false := decide_eq_false k1
            by_cases k2 : i < 3
            · rw [if_pos k2] at h0
              obtain ⟨o, ho, h0⟩ := Option.bind_eq_some_iff.mp h0
              have HN9 := Aside0.mk h0
              clear h0 HH
              have hi3 : i = 0 ∨ i = 1 ∨ i = 2 := by omega
              rcases hi3 with rfl | rfl | rfl
              · have ho2 : regex_reader_put.f out' 5 0 0 0 0 = some o := ho
                have HO := Aside0.mk ho2
                have ix : ∀ w, (Instr.index 70 (.agg #[.int .i64 5, .int .i64 6, .int .i64 7]) (.int .i64 0)).run Tryd.prog w = .ok (.int .i64 5) w := fun _ => by kernel_rfl
                clear ho ho2
                go_wp2_with fail
                (go_at_call 31; (with_reducible refine (regex_reader_next.calls w0 _ b s (a') (out') c (by repeat (first | (with_reducible exact HB.out) | (with_reducible apply Rd.at_) | (with_reducible apply Rd.drewN) | (with_reducible apply Rd.drew) | (with_reducible apply Rd.alloc))) HN.out).mono ?_); rintro e' w' ⟨rfl, ⟨nd, rfl⟩⟩)
                go_wp2_with fail
                (go_at_call 34; (with_reducible refine (strings_IndexByte.calls (⟨#[42, 43, 63]⟩ : ByteArray) 0 0 _ HIB.out).mono ?_); rintro e' w' ⟨rfl, ⟨nd2, rfl⟩⟩)
                go_wp2_with fail
                (go_at_call 32; (with_reducible refine (regex_reader_put.calls w0 _ b s (a' + 1) (out') o (5) 0 0 0 0 (by repeat (first | (with_reducible exact HB.out) | (with_reducible apply Rd.at_) | (with_reducible apply Rd.drewN) | (with_reducible apply Rd.drew) | (with_reducible apply Rd.alloc))) HO.out).mono ?_); rintro e' w' ⟨rfl, hr⟩; have HP := Aside0.mk hr; have uHP0 := hr.c0; have uHP1 := hr.c1; have uHPf := hr.f1; clear hr)
                go_wp2_with fail
                go_roundg kk
                case measure => omega
                case rel => exact ⟨a' + 1, o, HP, HN9, ⟨by omega⟩⟩
              · have ho2 : regex_reader_put.f out' 6 0 0 0 0 = some o := ho
                have HO := Aside0.mk ho2
                have ix : ∀ w, (Instr.index 70 (.agg #[.int .i64 5, .int .i64 6, .int .i64 7]) (.int .i64 1)).run Tryd.prog w = .ok (.int .i64 6) w := fun _ => by kernel_rfl
                clear ho ho2
                go_wp2_with fail
                (go_at_call 31; (with_reducible refine (regex_reader_next.calls w0 _ b s (a') (out') c (by repeat (first | (with_reducible exact HB.out) | (with_reducible apply Rd.at_) | (with_reducible apply Rd.drewN) | (with_reducible apply Rd.drew) | (with_reducible apply Rd.alloc))) HN.out).mono ?_); rintro e' w' ⟨rfl, ⟨nd, rfl⟩⟩)
                go_wp2_with fail
                (go_at_call 34; (with_reducible refine (strings_IndexByte.calls (⟨#[42, 43, 63]⟩ : ByteArray) 0 1 _ HIB.out).mono ?_); rintro e' w' ⟨rfl, ⟨nd2, rfl⟩⟩)
                go_wp2_with fail
                (go_at_call 32; (with_reducible refine (regex_reader_put.calls w0 _ b s (a' + 1) (out') o (6) 0 0 0 0 (by repeat (first | (with_reducible exact HB.out) | (with_reducible apply Rd.at_) | (with_reducible apply Rd.drewN) | (with_reducible apply Rd.drew) | (with_reducible apply Rd.alloc))) HO.out).mono ?_); rintro e' w' ⟨rfl, hr⟩; have HP := Aside0.mk hr; have uHP0 := hr.c0; have uHP1 := hr.c1; have uHPf := hr.f1; clear hr)
                go_wp2_with fail
                go_roundg kk
                case measure => omega
                case rel => exact ⟨a' + 1, o, HP, HN9, ⟨by omega⟩⟩
              · have ho2 : regex_reader_put.f out' 7 0 0 0 0 = some o := ho
                have HO := Aside0.mk ho2
                have ix : ∀ w, (Instr.index 70 (.agg #[.int .i64 5, .int .i64 6, .int .i64 7]) (.int .i64 2)).run Tryd.prog w = .ok (.int .i64 7) w := fun _ => by kernel_rfl
                clear ho ho2
                go_wp2_with fail
                (go_at_call 31; (with_reducible refine (regex_reader_next.calls w0 _ b s (a') (out') c (by repeat (first | (with_reducible exact HB.out) | (with_reducible apply Rd.at_) | (with_reducible apply Rd.drewN) | (with_reducible apply Rd.drew) | (with_reducible apply Rd.alloc))) HN.out).mono ?_); rintro e' w' ⟨rfl, ⟨nd, rfl⟩⟩)
                go_wp2_with fail
                (go_at_call 34; (with_reducible refine (strings_IndexByte.calls (⟨#[42, 43, 63]⟩ : ByteArray) 0 2 _ HIB.out).mono ?_); rintro e' w' ⟨rfl, ⟨nd2, rfl⟩⟩)
                go_wp2_with fail
                (go_at_call 32; (with_reducible refine (regex_reader_put.calls w0 _ b s (a' + 1) (out') o (7) 0 0 0 0 (by repeat (first | (with_reducible exact HB.out) | (with_reducible apply Rd.at_) | (with_reducible apply Rd.drewN) | (with_reducible apply Rd.drew) | (with_reducible apply Rd.alloc))) HO.out).mono ?_); rintro e' w' ⟨rfl, hr⟩; have HP := Aside0.mk hr; have uHP0 := hr.c0; have uHP1 := hr.c1; have uHPf := hr.f1; clear hr)
                go_wp2_with fail
                go_roundg kk
                case measure => omega
                case rel => exact ⟨a' + 1, o, HP, HN9, ⟨by omega⟩⟩
            · rw [if_neg k2] at h0; cases h0
        · rw [if_neg hc] at hi
          have HIB := Aside0.mk hi
          have hcf : (c < 0) = False := eq_false hc
          have cv : IntKind.u8.wrap c = c := IntWalk.u8_in _ (by omega)
          clear hi hc
          by_cases k1 : i < 0
          · have h0 := HH.out
            rw [if_pos k1] at h0
            obtain rfl := Option.some.inj h0
            have d1 : decide (i < 0) = true := decide_eq_true k1
            clear h0
            go_wp2_with fail
            (go_at_call 31; (with_reducible refine (regex_reader_next.calls w0 _ b s (a') (out') c (by repeat (first | (with_reducible exact HB.out) | (with_reducible apply Rd.at_) | (with_reducible apply Rd.drewN) | (with_reducible apply Rd.drew) | (with_reducible apply Rd.alloc))) HN.out).mono ?_); rintro e' w' ⟨rfl, ⟨nd, rfl⟩⟩)
            go_wp2_with fail
            (go_at_call 34; (with_reducible refine (strings_IndexByte.calls (⟨#[42, 43, 63]⟩ : ByteArray) c i _ HIB.out).mono ?_); rintro e' w' ⟨rfl, ⟨nd2, rfl⟩⟩)
            go_wp2_with fail
            refine bodyPost_ret (v := .tuple #[]) (by simp [results, Tryd.results41, go_sem]) rfl ⟨rfl, ?_⟩
            repeat (first | (with_reducible exact HB.out) | (with_reducible apply Rd.at_) | (with_reducible apply Rd.drewN) | (with_reducible apply Rd.drew) | (with_reducible apply Rd.alloc))
          · have h0 := HH.out
            rw [if_neg k1] at h0
            have d1 : decide (i < 0) = false := decide_eq_false k1
            by_cases k2 : i < 3
            · rw [if_pos k2] at h0
              obtain ⟨o, ho, h0⟩ := Option.bind_eq_some_iff.mp h0
              have HN9 := Aside0.mk h0
              clear h0 HH
              have hi3 : i = 0 ∨ i = 1 ∨ i = 2 := by omega
              rcases hi3 with rfl | rfl | rfl
              · have ho2 : regex_reader_put.f out' 5 0 0 0 0 = some o := ho
                have HO := Aside0.mk ho2
                have ix : ∀ w, (Instr.index 70 (.agg #[.int .i64 5, .int .i64 6, .int .i64 7]) (.int .i64 0)).run Tryd.prog w = .ok (.int .i64 5) w := fun _ => by kernel_rfl
                clear ho ho2
                go_wp2_with fail
                (go_at_call 31; (with_reducible refine (regex_reader_next.calls w0 _ b s (a') (out') c (by repeat (first | (with_reducible exact HB.out) | (with_reducible apply Rd.at_) | (with_reducible apply Rd.drewN) | (with_reducible apply Rd.drew) | (with_reducible apply Rd.alloc))) HN.out).mono ?_); rintro e' w' ⟨rfl, ⟨nd, rfl⟩⟩)
                go_wp2_with fail
                (go_at_call 34; (with_reducible refine (strings_IndexByte.calls (⟨#[42, 43, 63]⟩ : ByteArray) c 0 _ HIB.out).mono ?_); rintro e' w' ⟨rfl, ⟨nd2, rfl⟩⟩)
                go_wp2_with fail
                (go_at_call 32; (with_reducible refine (regex_reader_put.calls w0 _ b s (a' + 1) (out') o (5) 0 0 0 0 (by repeat (first | (with_reducible exact HB.out) | (with_reducible apply Rd.at_) | (with_reducible apply Rd.drewN) | (with_reducible apply Rd.drew) | (with_reducible apply Rd.alloc))) HO.out).mono ?_); rintro e' w' ⟨rfl, hr⟩; have HP := Aside0.mk hr; have uHP0 := hr.c0; have uHP1 := hr.c1; have uHPf := hr.f1; clear hr)
                go_wp2_with fail
                go_roundg kk
                case measure => omega
                case rel => exact ⟨a' + 1, o, HP, HN9, ⟨by omega⟩⟩
              · have ho2 : regex_reader_put.f out' 6 0 0 0 0 = some o := ho
                have HO := Aside0.mk ho2
                have ix : ∀ w, (Instr.index 70 (.agg #[.int .i64 5, .int .i64 6, .int .i64 7]) (.int .i64 1)).run Tryd.prog w = .ok (.int .i64 6) w := fun _ => by kernel_rfl
                clear ho ho2
                go_wp2_with fail
                (go_at_call 31; (with_reducible refine (regex_reader_next.calls w0 _ b s (a') (out') c (by repeat (first | (with_reducible exact HB.out) | (with_reducible apply Rd.at_) | (with_reducible apply Rd.drewN) | (with_reducible apply Rd.drew) | (with_reducible apply Rd.alloc))) HN.out).mono ?_); rintro e' w' ⟨rfl, ⟨nd, rfl⟩⟩)
                go_wp2_with fail
                (go_at_call 34; (with_reducible refine (strings_IndexByte.calls (⟨#[42, 43, 63]⟩ : ByteArray) c 1 _ HIB.out).mono ?_); rintro e' w' ⟨rfl, ⟨nd2, rfl⟩⟩)
                go_wp2_with fail
                (go_at_call 32; (with_reducible refine (regex_reader_put.calls w0 _ b s (a' + 1) (out') o (6) 0 0 0 0 (by repeat (first | (with_reducible exact HB.out) | (with_reducible apply Rd.at_) | (with_reducible apply Rd.drewN) | (with_reducible apply Rd.drew) | (with_reducible apply Rd.alloc))) HO.out).mono ?_); rintro e' w' ⟨rfl, hr⟩; have HP := Aside0.mk hr; have uHP0 := hr.c0; have uHP1 := hr.c1; have uHPf := hr.f1; clear hr)
                go_wp2_with fail
                go_roundg kk
                case measure => omega
                case rel => exact ⟨a' + 1, o, HP, HN9, ⟨by omega⟩⟩
              · have ho2 : regex_reader_put.f out' 7 0 0 0 0 = some o := ho
                have HO := Aside0.mk ho2
                have ix : ∀ w, (Instr.index 70 (.agg #[.int .i64 5, .int .i64 6, .int .i64 7]) (.int .i64 2)).run Tryd.prog w = .ok (.int .i64 7) w := fun _ => by kernel_rfl
                clear ho ho2
                go_wp2_with fail
                (go_at_call 31; (with_reducible refine (regex_reader_next.calls w0 _ b s (a') (out') c (by repeat (first | (with_reducible exact HB.out) | (with_reducible apply Rd.at_) | (with_reducible apply Rd.drewN) | (with_reducible apply Rd.drew) | (with_reducible apply Rd.alloc))) HN.out).mono ?_); rintro e' w' ⟨rfl, ⟨nd, rfl⟩⟩)
                go_wp2_with fail
                (go_at_call 34; (with_reducible refine (strings_IndexByte.calls (⟨#[42, 43, 63]⟩ : ByteArray) c 2 _ HIB.out).mono ?_); rintro e' w' ⟨rfl, ⟨nd2, rfl⟩⟩)
                go_wp2_with fail
                (go_at_call 32; (with_reducible refine (regex_reader_put.calls w0 _ b s (a' + 1) (out') o (7) 0 0 0 0 (by repeat (first | (with_reducible exact HB.out) | (with_reducible apply Rd.at_) | (with_reducible apply Rd.drewN) | (with_reducible apply Rd.drew) | (with_reducible apply Rd.alloc))) HO.out).mono ?_); rintro e' w' ⟨rfl, hr⟩; have HP := Aside0.mk hr; have uHP0 := hr.c0; have uHP1 := hr.c1; have uHPf := hr.f1; clear hr)
                go_wp2_with fail
                go_roundg kk
                case measure => omega
                case rel => exact ⟨a' + 1, o, HP, HN9, ⟨by omega⟩⟩
            · rw [if_neg k2] at h0; cases h0
set_option maxHeartbeats 8000000 in
set_option maxRecDepth 100000 in
theorem regex_reader_row.step (w0 : World) (b : Nat) (s : ByteArray) (hs : (s.size : Int) < 100000) (k : Nat) (ih : ∀ j, j ≤ k → Says 41 regex_reader_piece.f w0 b s j) : Says 30 regex_reader_row.f w0 b s (k + 1) := by
  intro w a out R hI h
  rw [regex_reader_row.f] at h
  have HI := Aside0.mk hI
  have c0 := hI.c0
  have c1 := hI.c1
  have f1 := hI.f1
  have IH := Aside0.mk ih
  clear ih hI
  rcases Ex_some h with ⟨n, h1, rfl⟩ | ⟨⟨ra, ro⟩, h1, h⟩
  · have HA := Aside0.mk h1
    clear h h1
    go_enter Tryd.func30, Tryd.ntmps30
    go_wp2_with fail
    (go_at_call 41; (with_reducible refine (Says.calls (IH.out k (Nat.le_refl _)) _ (a) (out) (.error n) (by repeat (first | (with_reducible exact HI.out) | (with_reducible apply Rd.at_) | (with_reducible apply Rd.drewN) | (with_reducible apply Rd.drew) | (with_reducible apply Rd.alloc))) HA.out).mono ?_); rintro e' w' ⟨rfl, a9, o9, hr⟩; simp only [thrown])
    go_wp2_with fail
    exact ⟨rfl, rfl, a9, o9, hr⟩
  · have HA := Aside0.mk h1
    have HL := Aside0.mk h
    clear h h1
    go_enter Tryd.func30, Tryd.ntmps30
    obtain ⟨c, hn⟩ : ∃ c, regex_reader_next.f s ra = some c := by
      cases k with
      | zero => exact absurd HL.out (by simp [regex_reader_row.l0])
      | succ k => have h0 := HL.out; rw [regex_reader_row.l0] at h0; obtain ⟨c, hn, _⟩ := Option.bind_eq_some_iff.mp h0; exact ⟨c, hn⟩
    have HN := Aside0.mk hn
    clear hn
    go_wp2_with fail
    (go_at_call 41; (with_reducible refine (Says.calls (IH.out k (Nat.le_refl _)) _ (a) (out) (.ok (ra, ro)) (by repeat (first | (with_reducible exact HI.out) | (with_reducible apply Rd.at_) | (with_reducible apply Rd.drewN) | (with_reducible apply Rd.drew) | (with_reducible apply Rd.alloc))) HA.out).mono ?_); rintro e' w' ⟨rfl, hr⟩; have HJ := Aside0.mk hr; have v0 := hr.c0; have v1 := hr.c1; have vf := hr.f1; clear hr)
    go_wp2_with fail
    (go_at_call 31; (with_reducible refine (regex_reader_next.calls w0 _ b s (ra) (ro) c (by repeat (first | (with_reducible exact HJ.out) | (with_reducible apply Rd.at_) | (with_reducible apply Rd.drewN) | (with_reducible apply Rd.drew) | (with_reducible apply Rd.alloc))) HN.out).mono ?_); rintro e' w' ⟨rfl, ⟨nd, rfl⟩⟩)
    go_wp2_with fail
    go_loopg [2] k (fun kq v2 w' => ∃ (a : Int) (out : List S40) (c : Int), v2 = .int .i64 c ∧ Aside0 (regex_reader_next.f s a = some c) ∧ Aside0 (Rd w0 w' b s a out) ∧ Aside0 (regex_reader_row.l0 kq s a out = some R) ∧ Aside0 (kq ≤ k))
    case atStart => exact ⟨ra, ro, c, rfl, HN, ⟨by repeat (first | (with_reducible exact HJ.out) | (with_reducible apply Rd.at_) | (with_reducible apply Rd.drewN) | (with_reducible apply Rd.drew) | (with_reducible apply Rd.alloc))⟩, HL, ⟨Nat.le_refl _⟩⟩
    case round =>
      obtain ⟨a', out', c', rfl, HN', HB, HQ, HK⟩ := hrel
      cases gk with
      | zero => exact absurd HQ.out (by simp [regex_reader_row.l0])
      | succ kk =>
        have h0 := HQ.out
        clear HQ
        rw [regex_reader_row.l0, HN'.out, Option.bind_some] at h0
        obtain ⟨n1, n2, n3, n4, n5, n6⟩ := regex_reader_next.bd HN'.out
        have hb := HB.out
        have j0 := hb.c0
        have j1 := hb.c1
        have jf := hb.f1
        have hkk := HK.out
        clear hb n5 n6
        by_cases k1 : c' ≥ 0 ∧ c' ≠ 124 ∧ c' ≠ 41
        · rw [if_pos k1] at h0
          have d1 : decide (0 ≤ c') = true := decide_eq_true k1.1
          have d2 : (c' != 124) = true := bne_iff_ne.mpr k1.2.1
          have d3 : (c' != 41) = true := bne_iff_ne.mpr k1.2.2
          clear k1
          rcases Ex_some h0 with ⟨n, h1, rfl⟩ | ⟨⟨pa, po⟩, h1, h0⟩
          · have HA2 := Aside0.mk h1
            clear h0 h1
            go_wp2_with fail
            (go_at_call 41; (with_reducible refine (Says.calls (IH.out kk (by omega)) _ (a') (out') (.error n) (by repeat (first | (with_reducible exact HB.out) | (with_reducible apply Rd.at_) | (with_reducible apply Rd.drewN) | (with_reducible apply Rd.drew) | (with_reducible apply Rd.alloc))) HA2.out).mono ?_); rintro e' w' ⟨rfl, a9, o9, hr⟩; simp only [thrown])
            go_wp2_with fail
            exact ⟨rfl, rfl, a9, o9, hr⟩
          · have HA2 := Aside0.mk h1
            obtain ⟨o, ho, h0⟩ := Option.bind_eq_some_iff.mp h0
            have HO := Aside0.mk ho
            obtain ⟨c2, hn2⟩ : ∃ c, regex_reader_next.f s pa = some c := by
              cases kk with
              | zero => exact absurd h0 (by simp [regex_reader_row.l0])
              | succ kk => rw [regex_reader_row.l0] at h0; obtain ⟨c, hn, _⟩ := Option.bind_eq_some_iff.mp h0; exact ⟨c, hn⟩
            have HN2 := Aside0.mk hn2
            have HN9 := Aside0.mk h0
            clear h0 h1 ho hn2
            go_wp2_with fail
            (go_at_call 41; (with_reducible refine (Says.calls (IH.out kk (by omega)) _ (a') (out') (.ok (pa, po)) (by repeat (first | (with_reducible exact HB.out) | (with_reducible apply Rd.at_) | (with_reducible apply Rd.drewN) | (with_reducible apply Rd.drew) | (with_reducible apply Rd.alloc))) HA2.out).mono ?_); rintro e' w' ⟨rfl, hr⟩; have HX := Aside0.mk hr; have x0 := hr.c0; have x1 := hr.c1; have xf := hr.f1; clear hr)
            go_wp2_with fail
            (go_at_call 32; (with_reducible refine (regex_reader_put.calls w0 _ b s (pa) (po) o (3) 0 0 0 0 (by repeat (first | (with_reducible exact HX.out) | (with_reducible apply Rd.at_) | (with_reducible apply Rd.drewN) | (with_reducible apply Rd.drew) | (with_reducible apply Rd.alloc))) HO.out).mono ?_); rintro e' w' ⟨rfl, hr⟩; have HP := Aside0.mk hr; have uHP0 := hr.c0; have uHP1 := hr.c1; have uHPf := hr.f1; clear hr)
            go_wp2_with fail
            (go_at_call 31; (with_reducible refine (regex_reader_next.calls w0 _ b s (pa) (o) c2 (by repeat (first | (with_reducible exact HP.out) | (with_reducible apply Rd.at_) | (with_reducible apply Rd.drewN) | (with_reducible apply Rd.drew) | (with_reducible apply Rd.alloc))) HN2.out).mono ?_); rintro e' w' ⟨rfl, ⟨nd2, rfl⟩⟩)
            go_wp2_with fail
            go_roundg kk
            case measure => omega
            case rel => exact ⟨pa, o, c2, rfl, HN2, ⟨by repeat (first | (with_reducible exact HP.out) | (with_reducible apply Rd.at_) | (with_reducible apply Rd.drewN) | (with_reducible apply Rd.drew) | (with_reducible apply Rd.alloc))⟩, HN9, ⟨by omega⟩⟩
        · rw [if_neg k1] at h0
          obtain rfl := Option.some.inj h0
          clear h0
          rcases (show c' < 0 ∨ c' = 124 ∨ c' = 41 by omega) with k2 | k2 | k2
          · have d1 : decide (0 ≤ c') = false := decide_eq_false (by omega)
            clear k1 k2
            go_wp2_with fail
            refine bodyPost_end (v := .tuple #[]) (by simp [results, Tryd.results30, go_sem]) rfl ⟨rfl, ?_⟩
            repeat (first | (with_reducible exact HB.out) | (with_reducible apply Rd.at_) | (with_reducible apply Rd.drewN) | (with_reducible apply Rd.drew) | (with_reducible apply Rd.alloc))
          · subst k2
            clear k1
            go_wp2_with fail
            refine bodyPost_end (v := .tuple #[]) (by simp [results, Tryd.results30, go_sem]) rfl ⟨rfl, ?_⟩
            repeat (first | (with_reducible exact HB.out) | (with_reducible apply Rd.at_) | (with_reducible apply Rd.drewN) | (with_reducible apply Rd.drew) | (with_reducible apply Rd.alloc))
          · subst k2
            clear k1
            go_wp2_with fail
            refine bodyPost_end (v := .tuple #[]) (by simp [results, Tryd.results30, go_sem]) rfl ⟨rfl, ?_⟩
            repeat (first | (with_reducible exact HB.out) | (with_reducible apply Rd.at_) | (with_reducible apply Rd.drewN) | (with_reducible apply Rd.drew) | (with_reducible apply Rd.alloc))
set_option maxHeartbeats 8000000 in
set_option maxRecDepth 100000 in
theorem regex_reader_rows.step (w0 : World) (b : Nat) (s : ByteArray) (hs : (s.size : Int) < 100000) (k : Nat) (ih : ∀ j, j ≤ k → Says 30 regex_reader_row.f w0 b s j) : Says 19 regex_reader_rows.f w0 b s (k + 1) := by
  intro w a out R hI h
  rw [regex_reader_rows.f] at h
  have HI := Aside0.mk hI
  have c0 := hI.c0
  have c1 := hI.c1
  have f1 := hI.f1
  have IH := Aside0.mk ih
  clear ih hI
  rcases Ex_some h with ⟨n, h1, rfl⟩ | ⟨⟨ra, ro⟩, h1, h⟩
  · have HA := Aside0.mk h1
    clear h h1
    go_enter Tryd.func19, Tryd.ntmps19
    go_wp2_with fail
    (go_at_call 30; (with_reducible refine (Says.calls (IH.out k (Nat.le_refl _)) _ (a) (out) (.error n) (by repeat (first | (with_reducible exact HI.out) | (with_reducible apply Rd.at_) | (with_reducible apply Rd.drewN) | (with_reducible apply Rd.drew) | (with_reducible apply Rd.alloc))) HA.out).mono ?_); rintro e' w' ⟨rfl, a9, o9, hr⟩; simp only [thrown])
    go_wp2_with fail
    exact ⟨rfl, rfl, a9, o9, hr⟩
  · have HA := Aside0.mk h1
    have HL := Aside0.mk h
    clear h h1
    go_enter Tryd.func19, Tryd.ntmps19
    go_wp2_with fail
    (go_at_call 30; (with_reducible refine (Says.calls (IH.out k (Nat.le_refl _)) _ (a) (out) (.ok (ra, ro)) (by repeat (first | (with_reducible exact HI.out) | (with_reducible apply Rd.at_) | (with_reducible apply Rd.drewN) | (with_reducible apply Rd.drew) | (with_reducible apply Rd.alloc))) HA.out).mono ?_); rintro e' w' ⟨rfl, hr⟩; have HJ := Aside0.mk hr; have v0 := hr.c0; have v1 := hr.c1; have vf := hr.f1; clear hr)
    go_wp2_with fail
    go_loopg [] k (fun kq  w' => ∃ (a : Int) (out : List S40), Aside0 (Rd w0 w' b s a out) ∧ Aside0 (regex_reader_rows.l0 kq s a out = some R) ∧ Aside0 (kq ≤ k))
    case atStart => exact ⟨ra, ro, HJ, HL, ⟨Nat.le_refl _⟩⟩
    case round =>
      obtain ⟨a', out', HB, HQ, HK⟩ := hrel
      cases gk with
      | zero => exact absurd HQ.out (by simp [regex_reader_rows.l0])
      | succ kk =>
        have h0 := HQ.out
        clear HQ
        rw [regex_reader_rows.l0] at h0
        obtain ⟨c, hn, h0⟩ := Option.bind_eq_some_iff.mp h0
        obtain ⟨n1, n2, n3, n4, n5, n6⟩ := regex_reader_next.bd hn
        have HN := Aside0.mk hn
        have hb := HB.out
        have j0 := hb.c0
        have j1 := hb.c1
        have jf := hb.f1
        have hkk := HK.out
        clear hn hb n5 n6
        by_cases k1 : c = 124
        · rw [if_pos k1] at h0
          have d1 : (c == 124) = true := beq_iff_eq.mpr k1
          clear k1
          rcases Ex_some h0 with ⟨n, h1, rfl⟩ | ⟨⟨pa, po⟩, h1, h0⟩
          · have HA2 := Aside0.mk h1
            clear h0 h1
            go_wp2_with fail
            (go_at_call 31; (with_reducible refine (regex_reader_next.calls w0 _ b s (a') (out') c (by repeat (first | (with_reducible exact HB.out) | (with_reducible apply Rd.at_) | (with_reducible apply Rd.drewN) | (with_reducible apply Rd.drew) | (with_reducible apply Rd.alloc))) HN.out).mono ?_); rintro e' w' ⟨rfl, ⟨nd, rfl⟩⟩)
            go_wp2_with fail
            (go_at_call 30; (with_reducible refine (Says.calls (IH.out kk (by omega)) _ (a' + 1) (out') (.error n) (by repeat (first | (with_reducible exact HB.out) | (with_reducible apply Rd.at_) | (with_reducible apply Rd.drewN) | (with_reducible apply Rd.drew) | (with_reducible apply Rd.alloc))) HA2.out).mono ?_); rintro e' w' ⟨rfl, a9, o9, hr⟩; simp only [thrown])
            go_wp2_with fail
            exact ⟨rfl, rfl, a9, o9, hr⟩
          · have HA2 := Aside0.mk h1
            obtain ⟨o, ho, h0⟩ := Option.bind_eq_some_iff.mp h0
            have HO := Aside0.mk ho
            have HN9 := Aside0.mk h0
            clear h0 h1 ho
            go_wp2_with fail
            (go_at_call 31; (with_reducible refine (regex_reader_next.calls w0 _ b s (a') (out') c (by repeat (first | (with_reducible exact HB.out) | (with_reducible apply Rd.at_) | (with_reducible apply Rd.drewN) | (with_reducible apply Rd.drew) | (with_reducible apply Rd.alloc))) HN.out).mono ?_); rintro e' w' ⟨rfl, ⟨nd, rfl⟩⟩)
            go_wp2_with fail
            (go_at_call 30; (with_reducible refine (Says.calls (IH.out kk (by omega)) _ (a' + 1) (out') (.ok (pa, po)) (by repeat (first | (with_reducible exact HB.out) | (with_reducible apply Rd.at_) | (with_reducible apply Rd.drewN) | (with_reducible apply Rd.drew) | (with_reducible apply Rd.alloc))) HA2.out).mono ?_); rintro e' w' ⟨rfl, hr⟩; have HX := Aside0.mk hr; have x0 := hr.c0; have x1 := hr.c1; have xf := hr.f1; clear hr)
            go_wp2_with fail
            (go_at_call 32; (with_reducible refine (regex_reader_put.calls w0 _ b s (pa) (po) o (4) 0 0 0 0 (by repeat (first | (with_reducible exact HX.out) | (with_reducible apply Rd.at_) | (with_reducible apply Rd.drewN) | (with_reducible apply Rd.drew) | (with_reducible apply Rd.alloc))) HO.out).mono ?_); rintro e' w' ⟨rfl, hr⟩; have HP := Aside0.mk hr; have uHP0 := hr.c0; have uHP1 := hr.c1; have uHPf := hr.f1; clear hr)
            go_wp2_with fail
            go_roundg kk
            case measure => omega
            case rel => exact ⟨pa, o, HP, HN9, ⟨by omega⟩⟩
        · rw [if_neg k1] at h0
          obtain rfl := Option.some.inj h0
          have d1 : (c == 124) = false := beq_eq_false_iff_ne.mpr k1
          clear k1 h0
          go_wp2_with fail
          (go_at_call 31; (with_reducible refine (regex_reader_next.calls w0 _ b s (a') (out') c (by repeat (first | (with_reducible exact HB.out) | (with_reducible apply Rd.at_) | (with_reducible apply Rd.drewN) | (with_reducible apply Rd.drew) | (with_reducible apply Rd.alloc))) HN.out).mono ?_); rintro e' w' ⟨rfl, ⟨nd, rfl⟩⟩)
          go_wp2_with fail
          refine bodyPost_end (v := .tuple #[]) (by simp [results, Tryd.results19, go_sem]) rfl ⟨rfl, ?_⟩
          repeat (first | (with_reducible exact HB.out) | (with_reducible apply Rd.at_) | (with_reducible apply Rd.drewN) | (with_reducible apply Rd.drew) | (with_reducible apply Rd.alloc))
/-- All of a reader's calls, at any rounds. -/
theorem regex_reader_atom.all (w0 : World) (b : Nat) (s : ByteArray) (hs : (s.size : Int) < 100000) : ∀ k, ∀ j, j ≤ k → Says 44 regex_reader_atom.f w0 b s j ∧ Says 41 regex_reader_piece.f w0 b s j ∧ Says 30 regex_reader_row.f w0 b s j ∧ Says 19 regex_reader_rows.f w0 b s j := by
  have zero : Says 44 regex_reader_atom.f w0 b s 0 ∧ Says 41 regex_reader_piece.f w0 b s 0 ∧ Says 30 regex_reader_row.f w0 b s 0 ∧ Says 19 regex_reader_rows.f w0 b s 0 := by
    refine ⟨?_, ?_, ?_, ?_⟩
    · intro w a out R _ h; rw [regex_reader_atom.f] at h; cases h
    · intro w a out R _ h; rw [regex_reader_piece.f] at h; cases h
    · intro w a out R _ h; rw [regex_reader_row.f] at h; cases h
    · intro w a out R _ h; rw [regex_reader_rows.f] at h; cases h
  intro k
  induction k with
  | zero => intro j hj; obtain rfl : j = 0 := by omega
            exact zero
  | succ k ih =>
    intro j hj
    cases j with
    | zero => exact zero
    | succ j =>
      have i1 := fun i (hi : i ≤ j) => ih i (by omega)
      exact ⟨regex_reader_atom.step w0 b s hs j (fun i hi => (i1 i hi).2.2.2), regex_reader_piece.step w0 b s hs j (fun i hi => (i1 i hi).1), regex_reader_row.step w0 b s hs j (fun i hi => (i1 i hi).2.1), regex_reader_rows.step w0 b s hs j (fun i hi => (i1 i hi).2.2.1)⟩

end Go.Proofs.YtkabcjchgaokoaaDoor.PSj
