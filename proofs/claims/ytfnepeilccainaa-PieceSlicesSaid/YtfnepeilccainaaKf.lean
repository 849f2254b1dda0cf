/- Proved here: a part of the evaluator for the model's functions, and that a call does what it says; the parts are told one by one. No condition. -/
import Derived.Test.YtfnepeilccainaaKe
import Derived.Laws.LoneSync
import Derived.Laws.Sem
/- Proved here: a store whose blocks are numbered anew bears what it bore; functions without a body do what the evaluator says. Its condition: the program's type table is laid as the check 'layB' tells; the functions without a body are those that the configuration tells. -/
namespace Go.Proofs.Ytfnepeilccainaa.Den
open Go
set_option linter.unusedVariables false
set_option linter.unusedSimpArgs false
section
variable {C : Cfg} {F : Nat → Prop} {σ : Sig} {S : List Blk} {w w' : World}
theorem mapO_at {β γ : Type} {f : β → Option γ} : ∀ {l : List β} {r : List γ}, mapO f l = some r → r.length = l.length ∧ ∀ (j : Nat) a b, l[j]? = some a → r[j]? = some b → f a = some b
  | [], r, h => by
    simp only [mapO, Option.some.injEq] at h
    subst h
    exact ⟨rfl, fun j a b h => by simp at h⟩
  | x :: l, r, h => by
    unfold mapO at h
    obtain ⟨y, hy, h⟩ := Option.bind_eq_some_iff.mp h
    obtain ⟨ys, hys, h⟩ := Option.bind_eq_some_iff.mp h
    simp only [Option.some.injEq] at h
    subst h
    obtain ⟨h1, h2⟩ := mapO_at hys
    refine ⟨by simp [h1], fun j a b ha hb => ?_⟩
    cases j with
    | zero =>
      simp only [List.getElem?_cons_zero, Option.some.injEq] at ha hb
      subst ha hb
      exact hy
    | succ j => exact h2 j a b (by simpa using ha) (by simpa using hb)
theorem renA_eq {ren : Nat → Option Nat} {d : Nat} {a a' : AV} (h : renA ren d a = some a') : ∃ d', d = d' + 1 ∧ ((∃ e id i, a = .w e id ∧ ren id = some i ∧ a' = .w e i) ∨ (∃ e id off len i, a = .r e id off len ∧ ren id = some i ∧ a' = .r e i off len) ∨ (∃ id path i, a = .p id path ∧ ren id = some i ∧ a' = .p i path) ∨
    (∃ id idx path i, a = .q id idx path ∧ ren id = some i ∧ a' = .q i idx path) ∨ (∃ fs as, a = .g fs ∧ mapO (renA ren d') fs = some as ∧ a' = .g as) ∨ (∃ vs as, a = .t vs ∧ mapO (renA ren d') vs = some as ∧ a' = .t as) ∨
    (∃ f as bs as' bs', a = .fn f as bs ∧ mapO (renA ren d') as = some as' ∧ mapO (renA ren d') bs = some bs' ∧ a' = .fn f as' bs') ∨
    (a' = a ∧ (∀ e id, a ≠ .w e id) ∧ (∀ e id off len, a ≠ .r e id off len) ∧ (∀ id path, a ≠ .p id path) ∧ (∀ id idx path, a ≠ .q id idx path) ∧ (∀ fs, a ≠ .g fs) ∧ (∀ vs, a ≠ .t vs) ∧ (∀ f as bs, a ≠ .fn f as bs))) := by
  cases d with
  | zero => simp [renA] at h
  | succ d =>
    refine ⟨d, rfl, ?_⟩
    unfold renA at h
    cases a with
    | w e id =>
      obtain ⟨i, hi, h⟩ := Option.bind_eq_some_iff.mp h
      exact .inl ⟨e, id, i, rfl, hi, by simpa using h.symm⟩
    | r e id off len =>
      obtain ⟨i, hi, h⟩ := Option.bind_eq_some_iff.mp h
      exact .inr (.inl ⟨e, id, off, len, i, rfl, hi, by simpa using h.symm⟩)
    | p id path =>
      obtain ⟨i, hi, h⟩ := Option.bind_eq_some_iff.mp h
      exact .inr (.inr (.inl ⟨id, path, i, rfl, hi, by simpa using h.symm⟩))
    | q id idx path =>
      obtain ⟨i, hi, h⟩ := Option.bind_eq_some_iff.mp h
      exact .inr (.inr (.inr (.inl ⟨id, idx, path, i, rfl, hi, by simpa using h.symm⟩)))
    | g fs =>
      obtain ⟨as, hi, h⟩ := Option.bind_eq_some_iff.mp h
      exact .inr (.inr (.inr (.inr (.inl ⟨fs, as, rfl, hi, by simpa using h.symm⟩))))
    | t vs =>
      obtain ⟨as, hi, h⟩ := Option.bind_eq_some_iff.mp h
      exact .inr (.inr (.inr (.inr (.inr (.inl ⟨vs, as, rfl, hi, by simpa using h.symm⟩)))))
    | fn f as bs =>
      obtain ⟨as', hi, h⟩ := Option.bind_eq_some_iff.mp h
      obtain ⟨bs', hj, h⟩ := Option.bind_eq_some_iff.mp h
      exact .inr (.inr (.inr (.inr (.inr (.inr (.inl ⟨f, as, bs, as', bs', rfl, hi, hj, by simpa using h.symm⟩))))))
    | _ =>
      simp only [Option.some.injEq] at h
      exact .inr (.inr (.inr (.inr (.inr (.inr (.inr ⟨h.symm, by simp, by simp, by simp, by simp, by simp, by simp, by simp⟩))))))
/-- The cells of a value do not change by its blocks' new numbers. -/
theorem R.ren {ren : Nat → Option Nat} {σ0 : Sig} {a : AV} {cs : List Value} (h : R C w F σ0 a cs) : ∀ {σ2 : Sig}, (∀ id i, ren id = some i → σ2 i = σ0 id) → ∀ {d : Nat} {a' : AV}, renA ren d a = some a' → R C w F σ2 a' cs := by
  induction h with
  | @g σ1 fs css h1 h2 ih =>
    intro σ2 hren d a' h
    obtain ⟨d', rfl, hh⟩ := renA_eq h
    rcases hh with ⟨_, _, _, e, _⟩ | ⟨_, _, _, _, _, e, _⟩ | ⟨_, _, _, e, _⟩ | ⟨_, _, _, _, e, _⟩ | ⟨fs', as, e, hm, rfl⟩ | ⟨_, _, e, _⟩ | ⟨_, _, _, _, _, e, _⟩ | ⟨_, _, _, _, _, e, _⟩ <;> first | (cases e; done) | skip
    · cases e
      obtain ⟨m1, m2⟩ := mapO_at hm
      refine .g css (by omega) fun j a c ha hc => ?_
      obtain ⟨x, hx⟩ := getElem?_of_lt (l := fs) (j := j) (by have := getElem?_lt ha; omega)
      exact ih j x c hx hc hren (m2 j x a hx ha)
    · exact absurd rfl (e _)
  | @fn σ1 f as bs cs ds h1 h2 h3 h4 ih1 ih2 =>
    intro σ2 hren d a' h
    obtain ⟨d', rfl, hh⟩ := renA_eq h
    rcases hh with ⟨_, _, _, e, _⟩ | ⟨_, _, _, _, _, e, _⟩ | ⟨_, _, _, e, _⟩ | ⟨_, _, _, _, e, _⟩ | ⟨_, _, e, _⟩ | ⟨_, _, e, _⟩ | ⟨f', as1, bs1, as', bs', e, hm1, hm2, rfl⟩ | ⟨_, _, _, _, _, _, _, e⟩ <;> first | (cases e; done) | skip
    · cases e
      obtain ⟨m1, m2⟩ := mapO_at hm1
      obtain ⟨k1, k2⟩ := mapO_at hm2
      refine .fn cs ds (by omega) (by omega) (fun j a c ha hc => ?_) fun j a c ha hc => ?_
      · obtain ⟨x, hx⟩ := getElem?_of_lt (l := as) (j := j) (by have := getElem?_lt ha; omega)
        exact ih1 j x c hx hc hren (m2 j x a hx ha)
      · obtain ⟨x, hx⟩ := getElem?_of_lt (l := bs) (j := j) (by have := getElem?_lt ha; omega)
        exact ih2 j x c hx hc hren (k2 j x a hx ha)
    · exact absurd rfl (e _ _ _)
  | @w σ1 e id b o n c cap h1 h2 h3 =>
    intro σ2 hren d a' h
    cases d with
    | zero => simp [renA] at h
    | succ d =>
      unfold renA at h
      obtain ⟨i, hi, h⟩ := Option.bind_eq_some_iff.mp h
      cases h
      exact .w (by rw [hren _ _ hi]; exact h1) h2 h3
  | @w0 σ1 e id ad h1 h8 =>
    intro σ2 hren d a' h
    cases d with
    | zero => simp [renA] at h
    | succ d =>
      unfold renA at h
      obtain ⟨i, hi, h⟩ := Option.bind_eq_some_iff.mp h
      cases h
      exact .w0 (by rw [hren _ _ hi]; exact h1) h8
  | @r σ1 e id off len b o n c cap h1 h2 h3 h4 =>
    intro σ2 hren d a' h
    cases d with
    | zero => simp [renA] at h
    | succ d =>
      unfold renA at h
      obtain ⟨i, hi, h⟩ := Option.bind_eq_some_iff.mp h
      cases h
      exact .r (by rw [hren _ _ hi]; exact h1) h2 h3 h4
  | @r0 σ1 e id off ad =>
    intro σ2 hren d a' h
    cases d with
    | zero => simp [renA] at h
    | succ d =>
      unfold renA at h
      obtain ⟨i, hi, h⟩ := Option.bind_eq_some_iff.mp h
      cases h
      exact .r0
  | @p σ1 id path b T T' h1 h2 =>
    intro σ2 hren d a' h
    cases d with
    | zero => simp [renA] at h
    | succ d =>
      unfold renA at h
      obtain ⟨i, hi, h⟩ := Option.bind_eq_some_iff.mp h
      cases h
      exact .p (by rw [hren _ _ hi]; exact h1) h2
  | @pa σ1 id b o n c e h1 =>
    intro σ2 hren d a' h
    cases d with
    | zero => simp [renA] at h
    | succ d =>
      unfold renA at h
      obtain ⟨i, hi, h⟩ := Option.bind_eq_some_iff.mp h
      cases h
      exact .pa (by rw [hren _ _ hi]; exact h1)
  | @q σ1 id idx path b o n c e T' h1 h2 h3 =>
    intro σ2 hren d a' h
    cases d with
    | zero => simp [renA] at h
    | succ d =>
      unfold renA at h
      obtain ⟨i, hi, h⟩ := Option.bind_eq_some_iff.mp h
      cases h
      exact .q (by rw [hren _ _ hi]; exact h1) h2 h3
  | i => intro σ2 _ d a' h; cases d with | zero => simp [renA] at h | succ d => (simp only [renA, Option.some.injEq] at h; subst h; exact .i)
  | b => intro σ2 _ d a' h; cases d with | zero => simp [renA] at h | succ d => (simp only [renA, Option.some.injEq] at h; subst h; exact .b)
  | s => intro σ2 _ d a' h; cases d with | zero => simp [renA] at h | succ d => (simp only [renA, Option.some.injEq] at h; subst h; exact .s)
  | l0 => intro σ2 _ d a' h; cases d with | zero => simp [renA] at h | succ d => (simp only [renA, Option.some.injEq] at h; subst h; exact .l0)
  | l cells h1 h2 h3 h4 ih => intro σ2 _ d a' h; cases d with | zero => simp [renA] at h | succ d => (simp only [renA, Option.some.injEq] at h; subst h; exact .l cells h1 h2 h3 h4)
  | «at» h1 h2 h3 h4 h5 ih => intro σ2 _ d a' h; cases d with | zero => simp [renA] at h | succ d => (simp only [renA, Option.some.injEq] at h; subst h; exact .at h1 h2 h3 h4 h5)
  | z0 => intro σ2 _ d a' h; cases d with | zero => simp [renA] at h | succ d => (simp only [renA, Option.some.injEq] at h; subst h; exact .z0)
  | z1 => intro σ2 _ d a' h; cases d with | zero => simp [renA] at h | succ d => (simp only [renA, Option.some.injEq] at h; subst h; exact .z1)
  | z8 => intro σ2 _ d a' h; cases d with | zero => simp [renA] at h | succ d => (simp only [renA, Option.some.injEq] at h; subst h; exact .z8)
  | z2 => intro σ2 _ d a' h; cases d with | zero => simp [renA] at h | succ d => (simp only [renA, Option.some.injEq] at h; subst h; exact .z2)
  | z3 => intro σ2 _ d a' h; cases d with | zero => simp [renA] at h | succ d => (simp only [renA, Option.some.injEq] at h; subst h; exact .z3)
  | z4 => intro σ2 _ d a' h; cases d with | zero => simp [renA] at h | succ d => (simp only [renA, Option.some.injEq] at h; subst h; exact .z4)
theorem VR.ren {ren : Nat → Option Nat} {σ0 σ2 : Sig} {a : AV} {v : Value} (h : VR C w F σ0 a v) (hren : ∀ id i, ren id = some i → σ2 i = σ0 id) : ∀ {d : Nat} {a' : AV}, renA ren d a = some a' → VR C w F σ2 a' v := by
  induction h with
  | u => intro d a' h; cases d with | zero => simp [renA] at h | succ d => (simp only [renA, Option.some.injEq] at h; subst h; exact .u)
  | @one a v h1 h2 =>
    intro d a' h
    refine .one (fun fs e => ?_) (h2.ren hren h)
    subst e
    obtain ⟨d', _, hh⟩ := renA_eq h
    rcases hh with ⟨_, _, _, _, _, e⟩ | ⟨_, _, _, _, _, _, _, e⟩ | ⟨_, _, _, _, _, e⟩ | ⟨_, _, _, _, _, _, e⟩ | ⟨fs', _, e, _⟩ | ⟨_, _, _, _, e⟩ | ⟨_, _, _, _, _, _, _, _, e⟩ | ⟨e, _, _, _, _, k, _⟩ <;> first | (cases e; done) | skip
    · exact h1 _ e
    · exact k _ e.symm
  | @agg fs cs h =>
    intro d a' h'
    have h2 := h.ren hren h'
    obtain ⟨d', _, hh⟩ := renA_eq h'
    rcases hh with ⟨_, _, _, e, _⟩ | ⟨_, _, _, _, _, e, _⟩ | ⟨_, _, _, e, _⟩ | ⟨_, _, _, _, e, _⟩ | ⟨fs', as, e, hm, rfl⟩ | ⟨_, _, e, _⟩ | ⟨_, _, _, _, _, e, _⟩ | ⟨_, _, _, _, _, e, _⟩ <;> first | (cases e; done) | skip
    · exact .agg h2
    · exact absurd rfl (e _)
  | @t as vs h1 h2 ih =>
    intro d a' h'
    obtain ⟨d', _, hh⟩ := renA_eq h'
    rcases hh with ⟨_, _, _, e, _⟩ | ⟨_, _, _, _, _, e, _⟩ | ⟨_, _, _, e, _⟩ | ⟨_, _, _, _, e, _⟩ | ⟨_, _, e, _⟩ | ⟨vs', as', e, hm, rfl⟩ | ⟨_, _, _, _, _, e, _⟩ | ⟨_, _, _, _, _, _, e, _⟩ <;> first | (cases e; done) | skip
    · cases e
      obtain ⟨m1, m2⟩ := mapO_at hm
      refine .t vs (by omega) fun j a v ha hv => ?_
      obtain ⟨x, hx⟩ := getElem?_of_lt (l := as) (j := j) (by have := getElem?_lt ha; omega)
      exact ih j x v hx hv (m2 j x a hx ha)
    · exact absurd rfl (e _)
theorem Sh.ren {ren : Nat → Option Nat} {T : TypeId} {a : AV} (h : Sh C T a) : ∀ {d : Nat} {a' : AV}, renA ren d a = some a' → Sh C T a' := by
  induction h with
  | @g T fs as h1 h2 h3 ih =>
    intro d a' h
    obtain ⟨d', rfl, hh⟩ := renA_eq h
    rcases hh with ⟨_, _, _, e, _⟩ | ⟨_, _, _, _, _, e, _⟩ | ⟨_, _, _, e, _⟩ | ⟨_, _, _, _, e, _⟩ | ⟨fs', as', e, hm, rfl⟩ | ⟨_, _, e, _⟩ | ⟨_, _, _, _, _, e, _⟩ | ⟨_, _, _, _, _, e, _⟩ <;> first | (cases e; done) | skip
    · cases e
      obtain ⟨m1, m2⟩ := mapO_at hm
      refine .g h1 (by omega) fun j f a hf ha => ?_
      obtain ⟨x, hx⟩ := getElem?_of_lt (l := as) (j := j) (by have := getElem?_lt ha; omega)
      exact ih j f x hf hx (m2 j x a hx ha)
    · exact absurd rfl (e _)
  | @ga T n e as h1 h2 h3 ih =>
    intro d a' h
    obtain ⟨d', rfl, hh⟩ := renA_eq h
    rcases hh with ⟨_, _, _, e, _⟩ | ⟨_, _, _, _, _, e, _⟩ | ⟨_, _, _, e, _⟩ | ⟨_, _, _, _, e, _⟩ | ⟨fs', as', e, hm, rfl⟩ | ⟨_, _, e, _⟩ | ⟨_, _, _, _, _, e, _⟩ | ⟨_, _, _, _, _, e, _⟩ <;> first | (cases e; done) | skip
    · cases e
      obtain ⟨m1, m2⟩ := mapO_at hm
      refine .ga h1 (by omega) fun j a ha => ?_
      obtain ⟨x, hx⟩ := getElem?_of_lt (l := as) (j := j) (by have := getElem?_lt ha; omega)
      exact ih j x hx (m2 j x a hx ha)
    · exact absurd rfl (e _)
  | i hu => intro d a' h; cases d with | zero => simp [renA] at h | succ d => (simp only [renA, Option.some.injEq] at h; subst h; exact .i hu)
  | b hu => intro d a' h; cases d with | zero => simp [renA] at h | succ d => (simp only [renA, Option.some.injEq] at h; subst h; exact .b hu)
  | s hu => intro d a' h; cases d with | zero => simp [renA] at h | succ d => (simp only [renA, Option.some.injEq] at h; subst h; exact .s hu)
  | l hu => intro d a' h; cases d with | zero => simp [renA] at h | succ d => (simp only [renA, Option.some.injEq] at h; subst h; exact .l hu)
  | «at» hu => intro d a' h; cases d with | zero => simp [renA] at h | succ d => (simp only [renA, Option.some.injEq] at h; subst h; exact .at hu)
  | z0 hu => intro d a' h; cases d with | zero => simp [renA] at h | succ d => (simp only [renA, Option.some.injEq] at h; subst h; exact .z0 hu)
  | z1 hu => intro d a' h; cases d with | zero => simp [renA] at h | succ d => (simp only [renA, Option.some.injEq] at h; subst h; exact .z1 hu)
  | z2 hu => intro d a' h; cases d with | zero => simp [renA] at h | succ d => (simp only [renA, Option.some.injEq] at h; subst h; exact .z2 hu)
  | z3 hu => intro d a' h; cases d with | zero => simp [renA] at h | succ d => (simp only [renA, Option.some.injEq] at h; subst h; exact .z3 hu)
  | z4 hu => intro d a' h; cases d with | zero => simp [renA] at h | succ d => (simp only [renA, Option.some.injEq] at h; subst h; exact .z4 hu)
  | w hu => intro d a' h; cases d with | zero => simp [renA] at h | succ d => (unfold renA at h; obtain ⟨i, hi, h⟩ := Option.bind_eq_some_iff.mp h; cases h; exact .w hu)
  | r hu => intro d a' h; cases d with | zero => simp [renA] at h | succ d => (unfold renA at h; obtain ⟨i, hi, h⟩ := Option.bind_eq_some_iff.mp h; cases h; exact .r hu)
  | p hu => intro d a' h; cases d with | zero => simp [renA] at h | succ d => (unfold renA at h; obtain ⟨i, hi, h⟩ := Option.bind_eq_some_iff.mp h; cases h; exact .p hu)
  | q hu => intro d a' h; cases d with | zero => simp [renA] at h | succ d => (unfold renA at h; obtain ⟨i, hi, h⟩ := Option.bind_eq_some_iff.mp h; cases h; exact .q hu)
  | fn hu => intro d a' h; cases d with | zero => simp [renA] at h | succ d => (unfold renA at h; obtain ⟨i, hi, h⟩ := Option.bind_eq_some_iff.mp h; obtain ⟨j, hj, h⟩ := Option.bind_eq_some_iff.mp h; cases h; exact .fn hu)
theorem isLive_iff {B : Blk} : isLive B = true ↔ B ≠ .dead := by cases B <;> simp [isLive]
/-- The signature behind new numbers. -/
def renS (σ σ' : Sig) (slot : Nat) (lv : List Nat) : Sig := fun id => if slot ≤ id ∧ id < slot + lv.length then σ' (lv.getD (id - slot) 0) else σ id
theorem renum_ok (hs : Sim C F σ S w) {F' : Nat → Prop} {σ' : Sig} {S1 S2 : List Blk} {slot : Nat} {lv : List Nat} (hs' : Sim C F' σ' S1 w') (hst : Stp F σ S w F' σ' S1 w') (hext : ∀ id, σ id ≠ .no → σ' id = σ id) (hsl : ∀ j, slot ≤ j → j < slot + 8 → Slot σ S j) {as : List AV} (h : renum S slot as S1 = some (lv, S2)) :
    Sim C F' (renS σ σ' slot lv) S2 w' ∧ Stp F σ S w F' (renS σ σ' slot lv) S2 w' ∧ S2.length = S.length ∧ (∀ id, σ id ≠ .no → renS σ σ' slot lv id = σ id) ∧ (∀ j, (j < slot ∨ slot + 8 ≤ j) → S.getD j .dead = .dead → σ j = .no → S2.getD j .dead = .dead ∧ renS σ σ' slot lv j = .no) ∧
      ∀ id i, renI S slot lv id = some i → renS σ σ' slot lv i = σ' id := by
  unfold renum at h
  obtain ⟨⟨hl4, hdead⟩, h⟩ := ite_some h
  obtain ⟨S3, hm, h⟩ := Option.bind_eq_some_iff.mp h
  simp only [Option.some.injEq, Prod.mk.injEq] at h
  obtain ⟨rfl, rfl⟩ := h
  generalize hlv : newL S S1 as = lv at *
  obtain ⟨m1, m2⟩ := mapO_at hm
  have hmem : ∀ id, id ∈ lv → id < S1.length ∧ S.length ≤ id ∧ live S1 id := fun id hid => by
    rw [← hlv] at hid
    unfold newL at hid
    dsimp only at hid
    rw [List.mem_filter, List.mem_range] at hid
    simp only [Bool.and_eq_true, decide_eq_true_eq, isLive_iff] at hid
    exact ⟨hid.1, hid.2.1.1, hid.2.1.2⟩
  have hnod : lv.Nodup := by
    rw [← hlv]
    unfold newL
    dsimp only
    exact List.nodup_range.sublist List.filter_sublist
  have hd : ∀ id, id < S.length → S.getD id .dead = .dead → S1.getD id .dead = .dead := fun id hid h0 => by
    have := List.all_eq_true.mp hdead id (List.mem_range.mpr hid)
    rw [h0] at this
    cases hB : S1.getD id .dead with
    | dead => rfl
    | _ => rw [hB] at this; simp [isLive] at this
  have hlen : S3.length = S.length := by rw [m1, List.length_range]
  -- which block each is
  let src : Nat → Nat := fun id => if slot ≤ id ∧ id < slot + lv.length then lv.getD (id - slot) 0 else id
  have hat : ∀ id, id < S.length → renB (renI S slot lv) (S1.getD (src id) .dead) = some (S3.getD id .dead) := fun id hid => by
    obtain ⟨B, hB⟩ := getElem?_of_lt (l := S3) (j := id) (by omega)
    have := m2 id id B (by rw [List.getElem?_range hid]) hB
    rw [List.getD_eq_getElem?_getD (l := S3), hB]
    exact this
  have hin : ∀ id, slot ≤ id ∧ id < slot + lv.length → src id ∈ lv := fun id hid => by
    show (if slot ≤ id ∧ id < slot + lv.length then lv.getD (id - slot) 0 else id) ∈ lv
    rw [if_pos hid, List.getD_eq_getElem?_getD, List.getElem?_eq_getElem (by omega)]
    exact List.getElem_mem _
  have hS : ∀ id, renS σ σ' slot lv id = if slot ≤ id ∧ id < slot + lv.length then σ' (src id) else σ id := fun id => by
    show (if slot ≤ id ∧ id < slot + lv.length then σ' (lv.getD (id - slot) 0) else σ id) = _
    split
    · rename_i q
      show _ = σ' (if slot ≤ id ∧ id < slot + lv.length then lv.getD (id - slot) 0 else id)
      rw [if_pos q]
    · rfl
  have hsrc : ∀ id, ¬ (slot ≤ id ∧ id < slot + lv.length) → src id = id := fun id hid => if_neg hid
  have hslotlt : ∀ id, slot ≤ id ∧ id < slot + lv.length → id < S.length ∧ S.getD id .dead = .dead ∧ σ id = .no := fun id ⟨q1, q2⟩ => by
    have := hsl id q1 (by omega)
    exact ⟨this.lt, this.dead, this.no⟩
  have hexts : ∀ id, σ id ≠ .no → renS σ σ' slot lv id = σ id := fun id hid => by
    rw [hS]
    split
    · rename_i q
      exact absurd (hslotlt id q).2.2 hid
    · rfl
  have hren : ∀ id i, renI S slot lv id = some i → renS σ σ' slot lv i = σ' id := fun id i hi => by
    unfold renI at hi
    split at hi
    · rename_i hlt
      split at hi
      · rename_i hl
        cases hi
        have hσ := hs.place (isLive_iff.mp hl : live S id)
        rw [hexts id hσ, hext id hσ]
      · cases hi
    · split at hi
      · rename_i hc
        cases hi
        have hidx : lv.idxOf id < lv.length := List.idxOf_lt_length_iff.mpr (by simpa using hc)
        show (if slot ≤ slot + lv.idxOf id ∧ slot + lv.idxOf id < slot + lv.length then σ' (lv.getD (slot + lv.idxOf id - slot) 0) else σ (slot + lv.idxOf id)) = σ' id
        rw [if_pos (by omega), Nat.add_sub_cancel_left, List.getD_eq_getElem?_getD, List.getElem?_eq_getElem hidx]
        simp
      · cases hi
  -- a live block came from a live block
  have hlive : ∀ id, live S3 id → id < S.length ∧ live S1 (src id) ∧ renS σ σ' slot lv id = σ' (src id) := fun id hl => by
    have hid : id < S.length := by have := live_lt hl; omega
    have hB := hat id hid
    have hl1 : live S1 (src id) := fun e => by
      rw [e] at hB
      simp only [renB, Option.some.injEq] at hB
      exact hl hB.symm
    refine ⟨hid, hl1, ?_⟩
    rw [hS]
    by_cases q : slot ≤ id ∧ id < slot + lv.length
    · rw [if_pos q]
    · rw [if_neg q, hsrc id q]
      rw [hsrc id q] at hl1
      have hl0 : live S id := fun e => hl1 (hd id hid e)
      rw [hext id (hs.place hl0)]
  have hsrcinj : ∀ id id', live S3 id → live S3 id' → src id = src id' → id = id' := fun id id' l1 l2 e => by
    have h1 := hlive id l1
    have h2 := hlive id' l2
    by_cases q : slot ≤ id ∧ id < slot + lv.length
    · have hm1 := hmem _ (hin id q)
      by_cases q' : slot ≤ id' ∧ id' < slot + lv.length
      · have e1 : src id = lv.getD (id - slot) 0 := if_pos q
        have e2 : src id' = lv.getD (id' - slot) 0 := if_pos q'
        have hlt : id - slot < lv.length := by omega
        have hlt' : id' - slot < lv.length := by omega
        rw [e1, e2, List.getD_eq_getElem?_getD, List.getD_eq_getElem?_getD, List.getElem?_eq_getElem hlt, List.getElem?_eq_getElem hlt', Option.getD_some, Option.getD_some] at e
        have h3 := hnod.idxOf_getElem (id - slot) hlt
        have h4 := hnod.idxOf_getElem (id' - slot) hlt'
        rw [e, h4] at h3
        omega
      · rw [hsrc id' q'] at e
        omega
    · rw [hsrc id q] at e
      by_cases q' : slot ≤ id' ∧ id' < slot + lv.length
      · have hm1 := hmem _ (hin id' q')
        omega
      · rw [hsrc id' q'] at e
        exact e
  refine ⟨⟨fun id => ?_, fun id id' b l1 l2 e1 e2 => ?_, fun id b l1 e1 => ?_, fun id hid => ?_, hs'.fin⟩, ⟨hst.os, hst.tape, hst.output, hst.heap, hst.keep, hst.grow, hst.new, fun id b hl e => ?_⟩, hlen, hexts, fun j hj h1 h2 => ?_, hren⟩
  · by_cases hl : live S3 id
    · obtain ⟨q1, q2, q3⟩ := hlive id hl
      have hB := hat id q1
      have hb := hs'.blk (src id)
      rw [q3]
      cases hS1 : S1.getD (src id) .dead with
      | dead => exact absurd hS1 q2
      | obj T a =>
        rw [hS1] at hB hb
        simp only [renB] at hB
        obtain ⟨a', ha, hB⟩ := Option.bind_eq_some_iff.mp hB
        simp only [Option.some.injEq] at hB
        rw [← hB]
        cases hp : σ' (src id) with
        | obj b T' =>
          rw [hp] at hb
          obtain ⟨rfl, k1, cur, t, k2, k3⟩ := hb
          exact ⟨rfl, k1.ren ha, cur, t, k2, k3.ren hren ha⟩
        | no => rw [hp] at hb; exact hb.elim
        | nil => rw [hp] at hb; exact hb.elim
        | arr b o n c e => rw [hp] at hb; exact hb.elim
      | arr e xs =>
        rw [hS1] at hB hb
        simp only [renB, Option.some.injEq] at hB
        rw [← hB]
        cases hp : σ' (src id) <;> rw [hp] at hb <;> exact hb
    · rw [not_live hl]
      exact trivial
  · obtain ⟨_, q2, q3⟩ := hlive id l1
    obtain ⟨_, r2, r3⟩ := hlive id' l2
    rw [q3] at e1
    rw [r3] at e2
    exact hsrcinj id id' l1 l2 (hs'.inj _ _ b q2 r2 e1 e2)
  · obtain ⟨_, q2, q3⟩ := hlive id l1
    rw [q3] at e1
    exact hs'.out _ b q2 e1
  · rw [hS, if_neg fun q => by have := (hslotlt id q).1; omega]
    exact hs.top id (by omega)
  · obtain ⟨_, q2, q3⟩ := hlive id hl
    rw [q3] at e
    exact hst.own _ b q2 e
  · have hn : ¬ (slot ≤ j ∧ j < slot + lv.length) := by omega
    refine ⟨?_, by rw [hS, if_neg hn]; exact h2⟩
    by_cases hjl : j < S.length
    · have hB := hat j hjl
      rw [hsrc j hn, hd j hjl h1] at hB
      simp only [renB, Option.some.injEq] at hB
      exact hB.symm
    · rw [List.getD_eq_getElem?_getD, List.getElem?_eq_none (by omega)]
      rfl
end
end Go.Proofs.Ytfnepeilccainaa.Den

/- Proved here: functions without a body do what the evaluator says. Its conditions: the program's type table is laid as the check 'layB' tells; the functions without a body are those that the configuration tells. -/
namespace Go.Proofs.Ytfnepeilccainaa.Den
open Go
set_option linter.unusedVariables false
set_option linter.unusedSimpArgs false
section
variable {C : Cfg} {F : Nat → Prop} {σ : Sig} {S : List Blk} {w w' : World}
/-- What a function without a body is. -/
def ExtIs (f : Func) (q : Nat × IntKind) : Prop :=
  (f.name == "runtime.NumGoroutine") = false ∧ f.body.isNone = true ∧ Extern.findNext f = none ∧ Extern.find f = some (match q.1 with
    | 1 => Extern.Atomic.loadT (.int q.2)
    | 2 => Extern.Atomic.storeT
    | 3 => Extern.Atomic.update (Op.intArith .add) q.2 true
    | _ => Extern.AbiNoEscape.same)
def ExtOk (C : Cfg) : Prop := ∀ n q f, C.ext n = some q → C.P.funcs[n]? = some f → ExtIs f q
theorem int_at (hl : layB C = true) (hs : Sim C F σ S w) {id : Nat} {path : List Nat} {T T' : TypeId} {a : AV} {k : IntKind} {v : Value} (hS : S.getD id .dead = .obj T a) (hp : pty C T path = some T') (hu : C.und T' = some (.int k)) (hv : VR C w F σ (.p id path) v) :
    ∃ b cur, v = .pointer (some ⟨b, poff C T path, none⟩) ∧ (σ id).blk = some b ∧ w.heap[b]? = some (.cells cur T (0, 0)) ∧ C.sz T' = 1 ∧ poff C T path + 1 ≤ cur.size ∧ Sh C T a ∧ R C w F σ a cur.toList ∧ σ id = .obj b T ∧ ∀ k' n, getPath a path = .i k' n → cur[poff C T path]? = some (.int k' n) := by
  have hr := hv.one_inv (by simp) (by simp) (by simp)
  have hb := hs.blk id
  rw [hS] at hb
  cases hr with
  | p h1 h2 =>
    rename_i b T2 T3
    have hblk : (σ id).blk = some b := by rw [h1]; rfl
    rw [h1] at hb
    obtain ⟨rfl, hshv, cur, t, hh, hrr⟩ := hb
    obtain ⟨cs', r1, r2, r3, r4⟩ := path_at hl path _ T' a cur.toList hshv hrr hp
    have hsz : C.sz T' = 1 := lay_one hl hu (by simp) (by simp)
    rw [hsz] at r3 r4
    refine ⟨b, cur, rfl, hblk, hh, hsz, by simpa using r3, hshv, hrr, h1, fun k' n hg => ?_⟩
    rw [hg] at r1
    generalize hc : cs' = cc at r1
    cases r1
    subst hc
    have := congrArg (fun l => l[0]?) r4
    simp only [List.getElem?_cons_zero] at this
    rw [List.getElem?_take_of_lt (by omega), List.getElem?_drop, Nat.add_zero, Array.getElem?_toList] at this
    exact this.symm
  | pa h1 => rw [h1] at hb; exact hb.elim
theorem int_set (hl : layB C = true) (hs : Sim C F σ S w) {id b : Nat} {path : List Nat} {T T' : TypeId} {a : AV} {cur : Array Value} {k : IntKind} {n : Int} {o : Oper} {slot : Nat} {v : AV} {val : Value} (hS : S.getD id .dead = .obj T a) (hp : pty C T path = some T') (hu : C.und T' = some (.int k)) (hsz : C.sz T' = 1) (hblk : (σ id).blk = some b) (hh : w.heap[b]? = some (.cells cur T (0, 0))) (ho : poff C T path + 1 ≤ cur.size) (hsh : Sh C T a) (hr : R C w F σ a cur.toList) (h1 : σ id = .obj b T)
    (hv : ∀ w', VR C w' F σ v val) : Post C o F σ S w slot v (S.set id (.obj T (setPath (.i k n) a path))) [] val (w.setCell ⟨b, poff C T path, none⟩ (.int k n)) := by
  have hlv : live S id := by unfold live; rw [hS]; simp
  have e : w.setCell ⟨b, poff C T path, none⟩ (.int k n) = w.setRow b (cur.toList.take (poff C T path) ++ [Value.int k n] ++ cur.toList.drop (poff C T path + 1)).toArray := by
    have := setCells_row (w := w) (oo := poff C T path) (vs := [Value.int k n]) hh (by simpa using ho) (by simp [Value.oneCell'])
    simpa [World.setCells] using this
  have hry : R C w F σ (.i k n) [.int k n] := .i
  obtain ⟨s1, s2⟩ := set_path hl (.i hu) hry path _ a cur.toList hsh hr hp
  rw [hsz] at s2
  obtain ⟨m1, m2⟩ := hs.set hlv hblk (cur.toList.take (poff C T path) ++ [Value.int k n] ++ cur.toList.drop (poff C T path + 1)).toArray (.obj T (setPath (.i k n) a path)) (by
    rw [h1]
    refine ⟨rfl, s1, _, (), setRow_heap w b cur _ _ (0, 0) hh, ?_⟩
    exact s2.mono (fun c hc => setRow_other w b c _ fun e => hs.out id b hlv hblk (e ▸ hc)) (fun _ h => h) σ fun _ _ => rfl)
  rw [e]
  refine ⟨F, σ, m1, m2, fun _ _ => rfl, fun k hk => by simp at hk, hv _, List.length_set .., fun j _ q1 q2 => ⟨?_, q2⟩⟩
  by_cases z : j = id
  · subst z
    exact absurd q1 hlv
  · rw [getD_set_ne z]
    exact q1
theorem ext_ok (hl : layB C = true) (hx : ExtOk C) {n : FuncId} {f : Func} {q : Nat × IntKind} {args : List AV} {vals : Array Value} {v : AV} {S' : List Blk} {o : Oper} {slot : Nat} (hf : C.P.funcs[n]? = some f) (he : C.ext n = some q) (hs : Sim C F σ S w) (hn : vals.size = args.length) (hv : ∀ (j : Nat) a u, args[j]? = some a → vals[j]? = some u → VR C w F σ a u) (h : extD C S q args = some (v, S')) :
    ∃ val w', (callFunc n vals).run C.P w = .ok (.value val) w' ∧ Post C o F σ S w slot v S' [] val w' := by
  obtain ⟨x1, x2, x3, x4⟩ := hx n q f he hf
  obtain ⟨op, kk⟩ := q
  have one : ∀ {a : AV}, args = [a] → ∃ u, vals = #[u] ∧ VR C w F σ a u := fun {a} e => by
    subst e
    obtain ⟨⟨l⟩⟩ := vals
    · match hn with
      | hn => simp at hn
    rename_i u l
    obtain rfl : l = [] := by simpa using hn
    exact ⟨u, rfl, hv 0 a u rfl rfl⟩
  have two : ∀ {a b : AV}, args = [a, b] → ∃ u t, vals = #[u, t] ∧ VR C w F σ a u ∧ VR C w F σ b t := fun {a b} e => by
    subst e
    obtain ⟨l⟩ := vals
    match l, hn with
    | [u, t], _ => exact ⟨u, t, rfl, hv 0 a u rfl rfl, hv 1 b t rfl rfl⟩
  unfold extD at h
  split at h
  · rename_i T a hop
    dsimp only at hop
    subst hop
    obtain ⟨u, rfl, hu⟩ := one rfl
    split at h <;> try (cases h; done)
    rename_i k k' m hk
    obtain ⟨⟨e1, e2⟩, h⟩ := ite_some h
    dsimp only at e1
    subst e1 e2
    simp only [Option.some.injEq, Prod.mk.injEq] at h
    obtain ⟨rfl, rfl⟩ := h
    have hr := hu.one_inv (by simp) (by simp) (by simp)
    cases hr with
    | «at» h1 h2 h3 h4 h5 =>
      cases h5
      have hc := h3 0 _ rfl
      rw [Nat.add_zero] at hc
      exact ⟨_, _, run_call_load hf x1 x2 x3 k' x4 hc, .still hs (.one (by simp) .i)⟩
  · rename_i id path hop
    dsimp only at hop
    subst hop
    obtain ⟨u, rfl, hu⟩ := one rfl
    split at h <;> try (cases h; done)
    rename_i T a hS
    split at h <;> try (cases h; done)
    rename_i T' hp
    split at h <;> try (cases h; done)
    rename_i k k' m hk hg
    obtain ⟨⟨e1, e2⟩, h⟩ := ite_some h
    dsimp only at e1
    subst e1 e2
    simp only [Option.some.injEq, Prod.mk.injEq] at h
    obtain ⟨rfl, rfl⟩ := h
    obtain ⟨b, cur, rfl, hblk, hh, hsz, ho, hsh, hr, h1, hcell⟩ := int_at hl hs hS hp hk hu
    have hc : w.cell? ⟨b, poff C T path, none⟩ = some (.int k' m) := by
      have := hcell _ _ hg
      simpa [World.cell?, hh] using this
    exact ⟨_, _, run_call_load hf x1 x2 x3 k' x4 hc, .still hs (.one (by simp) .i)⟩
  · rename_i id path k m hop
    dsimp only at hop
    subst hop
    obtain ⟨u, t, rfl, hu, ht⟩ := two rfl
    have ht := ht.i_inv
    subst ht
    split at h <;> try (cases h; done)
    rename_i T a hS
    split at h <;> try (cases h; done)
    rename_i T' hp
    split at h <;> try (cases h; done)
    rename_i k' hk
    obtain ⟨⟨e1, e2⟩, h⟩ := ite_some h
    subst e1
    simp only [Option.some.injEq, Prod.mk.injEq] at h
    obtain ⟨rfl, rfl⟩ := h
    obtain ⟨b, cur, rfl, hblk, hh, hsz, ho, hsh, hr, h1, hcell⟩ := int_at hl hs hS hp hk hu
    obtain ⟨u0, hu0⟩ : ∃ u0, w.cell? ⟨b, poff C T path, none⟩ = some u0 := by
      refine ⟨cur[poff C T path]'(by omega), ?_⟩
      simp [World.cell?, hh]
    have hfz : w.frozen? ⟨b, poff C T path, none⟩ = false := by simp [World.frozen?, hh]
    exact ⟨_, _, run_call_store hf x1 x2 x3 x4 hu0 hfz, int_set hl hs hS hp hk hsz hblk hh ho hsh hr h1 fun w' => .t [] rfl fun j a v ha => by simp at ha⟩
  · rename_i id path k m hop
    dsimp only at hop
    subst hop
    obtain ⟨u, t, rfl, hu, ht⟩ := two rfl
    have ht := ht.i_inv
    subst ht
    split at h <;> try (cases h; done)
    rename_i T a hS
    split at h <;> try (cases h; done)
    rename_i T' hp
    split at h <;> try (cases h; done)
    rename_i k' k'' m' hk hg
    obtain ⟨⟨e1, e2, e3⟩, h⟩ := ite_some h
    dsimp only at e2
    subst e1 e2 e3
    simp only [Option.some.injEq, Prod.mk.injEq] at h
    obtain ⟨rfl, rfl⟩ := h
    obtain ⟨b, cur, rfl, hblk, hh, hsz, ho, hsh, hr, h1, hcell⟩ := int_at hl hs hS hp hk hu
    have hc : w.cell? ⟨b, poff C T path, none⟩ = some (.int k'' m') := by
      have := hcell _ _ hg
      simpa [World.cell?, hh] using this
    have hfz : w.frozen? ⟨b, poff C T path, none⟩ = false := by simp [World.frozen?, hh]
    exact ⟨_, _, run_call_add hf x1 x2 x3 k'' x4 hc hfz (by simp [Op.intArith, pure, Sem.run]), int_set hl hs hS hp hk hsz hblk hh ho hsh hr h1 fun w' => .one (by simp) .i⟩
  · rename_i a hop
    dsimp only at hop
    subst hop
    obtain ⟨u, rfl, hu⟩ := one rfl
    simp only [Option.some.injEq, Prod.mk.injEq] at h
    obtain ⟨rfl, rfl⟩ := h
    refine ⟨u, w, ?_, .still hs hu⟩
    rw [run_callFunc_extern hf x1 x2 x3 x4]
    rfl
  · cases h
end
end Go.Proofs.Ytfnepeilccainaa.Den

/- Proved here: a call does what the evaluator says, if its function's body does. Its condition: the program's type table is laid as the check 'layB' tells. -/
namespace Go.Proofs.Ytfnepeilccainaa.Den
open Go
set_option linter.unusedVariables false
set_option linter.unusedSimpArgs false
section
variable {C : Cfg} {F : Nat → Prop} {σ : Sig} {S : List Blk} {w w' : World}
theorem rmL_length {ms : List Nat} {Ts : List TypeId} : (rmL ms Ts).length = Ts.length := by simp [rmL]
theorem rmL_at {ms : List Nat} {Ts : List TypeId} {j : Nat} {T : TypeId} (h : Ts[j]? = some T) : (rmL ms Ts)[j]? = some (ms.getD j 0, T, none) := by
  unfold rmL
  rw [List.getElem?_map, List.getElem?_zipIdx, h]
  simp
/-- What is asked of a function that is told by what its calls do to the caller's store. -/
def PrimSOk (C : Cfg) : Prop :=
  ∀ {n : FuncId} {g : List Blk → Nat → List AV → Option (Bool × AV × List Blk × List Nat)}, C.primS n = some g → ∀ {F : Nat → Prop} {σ : Sig} {S : List Blk} {w : World} {slot : Nat} {args : List AV} {vals : Array Value} {q : AV × List Blk × List Nat} {o : Oper}, slotsOf o.op = 8 → Sim C F σ S w → (∀ j, slot ≤ j → j < slot + 8 → Slot σ S j) →
    vals.size = args.length → (∀ (j : Nat) a v, args[j]? = some a → vals[j]? = some v → VR C w F σ a v) → g S slot args = some (true, q) → q.2.1.length = S.length → Calls C.P n vals w fun e w' => ∃ val, e = .returned val ∧ Post C o F σ S w slot q.1 q.2.1 q.2.2 val w'
/-- What is asked of bodies that are run on the caller's store. -/
def SOk (C : Cfg) (call : CallF) : Prop :=
  ∀ {n : FuncId} {f : Func} {S : List Blk} {slot : Nat} {args : List AV} {v : AV} {S' : List Blk} {ks : List Nat}, C.P.funcs[n]? = some f → f.body.isSome = true → call.s n f S slot args (fun v S' ks => some (v, S', ks)) = some (v, S', ks) → ∀ {F : Nat → Prop} {σ : Sig} {w : World} {vals : Array Value} {o : Oper}, slotsOf o.op = 8 → Sim C F σ S w → (∀ j, slot ≤ j → j < slot + 8 → Slot σ S j) →
    vals.size = args.length → (∀ (j : Nat) a v, args[j]? = some a → vals[j]? = some v → VR C w F σ a v) → Calls C.P n vals w fun e w' => ∃ val, e = .returned val ∧ Post C o F σ S w slot v S' ks val w'
theorem called_of (hl : layB C = true) {call : CallF} (hps : PrimSOk C) (hx : ExtOk C) (hc : CalleeOk C (callP C call)) (hnat : SNat call) (hsok : SOk C call) : Called C call := by
  refine ⟨hnat, ?_⟩
  intro F σ S w slot n args vals α K out o ho hs hslot hn hv h
  have h0 := h
  unfold callD at h
  split at h
  · cases h
  rename_i f hf
  split at h
  · rename_i g hg
    split at h
    · cases h
    rename_i q hq
    obtain ⟨hct, h⟩ := ite_some h
    obtain ⟨hcond, h⟩ := ite_some h
    refine ⟨_, _, _, h, fun K' => ?_, .inl ⟨f, hf, hcond.2, hps hg ho hs hslot hn hv (q := q.2) (by rw [hq, ← hct]) hcond.1⟩⟩
    unfold callD
    simp only [hf, hg, hq]
    rw [if_pos hct, if_pos hcond]
  rename_i hg
  split at h
  · rename_i e he
    obtain ⟨q, hq, h⟩ := Option.bind_eq_some_iff.mp h
    obtain ⟨hcond, h⟩ := ite_some h
    obtain ⟨val, w', k1, k2⟩ := ext_ok (o := o) (slot := slot) hl hx hf he hs hn hv hq
    refine ⟨_, _, _, h, fun K' => ?_, .inr ⟨val, w', k1, k2⟩⟩
    unfold callD
    simp only [hf, hg, he, hq]
    simp only [Option.bind_some]
    rw [if_pos hcond]
  rename_i he
  split at h
  · rename_i hi
    obtain ⟨hb, h⟩ := ite_some h
    obtain ⟨v, S', ks, h1, h2⟩ := hnat h
    obtain ⟨hlen, h1⟩ := ite_some h1
    refine ⟨v, S', ks, h1, fun K' => ?_, .inl ⟨f, hf, hb, hsok hf hb (h2 _) ho hs hslot hn hv⟩⟩
    unfold callD
    simp only [hf, hg, he]
    rw [if_pos hi, if_pos hb, h2, if_pos hlen]
  rename_i hi
  split at h
  · cases h
  rename_i x hx
  obtain ⟨xs, ks, src⟩ := x
  obtain ⟨⟨hargs, hfree⟩, h⟩ := ite_some h
  obtain ⟨r, hr, h⟩ := Option.bind_eq_some_iff.mp h
  obtain ⟨⟨hend, hbody⟩, h⟩ := ite_some h
  dsimp only at hfree hr hend h
  obtain ⟨p1, p2, plss, p3, p4, p5, p6, _⟩ := passL_ok hl hs (C.pm n) (parL f) args xs ks src vals.toList (by simpa using hn) (fun j a v ha hv' => hv j a v ha (by simpa using hv')) hx
  obtain ⟨e0, e1, e2⟩ := enter_ok hs (by omega) (by simp; omega) p4 p5 hfree
  have hcalls := hc (vals := vals) hf hbody (by omega) hr e0 (by omega) e2 fun j a v ha hv' => e1 j a v ha (by simpa using hv')
  refine ⟨_, _, _, h, fun K' => ?_, .inl ⟨f, hf, hbody, hcalls.mono fun e w' hq => ?_⟩⟩
  · unfold callD
    simp only [hf, hg, he, hx]
    rw [if_neg hi, if_pos ⟨hargs, hfree⟩, hr]
    simp only [Option.bind_some]
    rw [if_pos ⟨hend, hbody⟩]
  obtain ⟨val, rfl, F1, σ1, S1, vs, pls1, ks1, src1, g1, g2, g4, g5, g6, g7, g8, g9, g10, g11⟩ := hq
  refine ⟨val, rfl, ?_⟩
  obtain ⟨t1, t2⟩ := ref_tgt (C := C) (C.pm n) (parL f) args plss 0 (by simp [parL]; omega) (by omega) fun j pls hp t base y => by
    obtain ⟨x, hx'⟩ := getElem?_of_lt (l := xs) (j := j) (by have := getElem?_lt hp; omega)
    obtain ⟨v, hv'⟩ := getElem?_of_lt (l := vals.toList) (j := j) (by have := getElem?_lt hp; simp; omega)
    exact (p4 j x pls v hx' hp hv').1 t base y
  have htarg : ∀ k q, (tgtL (C.pm n) (parL f) args)[k]? = some q → ∃ T a, (refE C 0 (C.pm n) (parL f))[k]? = some (T, a) ∧ q.1 = 1 ∧ q.2.1 = T ∧ ∀ id, q.2.2 = some id → id ∈ src ∧ live S id ∧ ∀ pls, pls1[f.resultTypes.size + k]? = some pls → pls.head? = some (σ id) := fun k q hk => by
    obtain ⟨⟨T, a⟩, hTa⟩ := getElem?_of_lt (l := refE C 0 (C.pm n) (parL f)) (j := k) (by have := getElem?_lt hk; omega)
    obtain ⟨m, T', opt⟩ := q
    obtain ⟨u1, u2, j, aj, pls, u3, u4, u5, u6, u7⟩ := t2 k T a m T' opt hTa hk
    refine ⟨T, a, hTa, u1, u2, fun id hid => ?_⟩
    dsimp only at hid
    rw [hid] at u6
    obtain ⟨d1, d2, d3⟩ := p6 j aj pls u3 u4 (.inl u5) id (opt_cases u6.symm)
    refine ⟨d2, d3, fun p1' hp1 => ?_⟩
    obtain ⟨t, ha, hh⟩ := g10 k T a p1' hTa hp1
    have := u7 t ha (fun i => plss.flatten.getD i .no) fun i hi => by rw [Nat.zero_add]
    rw [d1] at this
    have e : plss.flatten.getD t .no = σ id := (Option.some.inj this).symm
    rw [hh]
    exact congrArg some e
  have hsl : ∀ j, slot ≤ j → j < slot + 8 → Slot σ S j := hslot
  have hpsn : (rmL (C.rm n) f.resultTypes.toList).length = f.resultTypes.size := by rw [rmL_length]; simp
  have hat : ∀ (j : Nat) q, (rmL (C.rm n) f.resultTypes.toList ++ tgtL (C.pm n) (parL f) args)[j]? = some q → (∃ T, f.resultTypes.toList[j]? = some T ∧ q = ((C.rm n).getD j 0, T, none)) ∨ (f.resultTypes.size ≤ j ∧ (tgtL (C.pm n) (parL f) args)[j - f.resultTypes.size]? = some q) := fun j q hq => by
    rw [List.getElem?_append, hpsn] at hq
    split at hq
    · rename_i hlt
      obtain ⟨T, hT⟩ := getElem?_of_lt (l := f.resultTypes.toList) (j := j) (by simpa using hlt)
      rw [rmL_at hT] at hq
      exact .inl ⟨T, hT, (Option.some.inj hq).symm⟩
    · exact .inr ⟨by omega, hq⟩
  have hm : ∀ q ∈ rmL (C.rm n) f.resultTypes.toList ++ tgtL (C.pm n) (parL f) args, q.2.2 ≠ none → q.1 = 1 := fun q hq hne => by
    rcases List.mem_append.mp hq with hq | hq
    · exact absurd (rmL_none q hq) hne
    · exact tgtL_one _ _ _ q hq
  have hlen1 : (rmL (C.rm n) f.resultTypes.toList ++ tgtL (C.pm n) (parL f) args).length = r.length := by
    rw [List.length_append, hpsn, g6, t1]
  have hlay : ∀ (j : Nat) q x pls v, (rmL (C.rm n) f.resultTypes.toList ++ tgtL (C.pm n) (parL f) args)[j]? = some q → r[j]? = some x → pls1[j]? = some pls → vs[j]? = some v → LayOk C w' (more F1 σ1 S1 ks1) q.1 q.2.1 x pls v := fun j q x pls v hq hx hp hv' => by
    refine g7 j q.1 q.2.1 x pls v ?_ hx hp hv'
    rcases hat j q hq with ⟨T, hT, rfl⟩ | ⟨hge, hq⟩
    · rw [List.getElem?_append_left (by rw [List.length_map]; exact getElem?_lt (rmL_at (ms := C.rm n) hT)), List.getElem?_map, rmL_at hT]
      rfl
    · obtain ⟨T, a, k1, k2, k3, _⟩ := htarg _ q hq
      rw [List.getElem?_append_right (by rw [List.length_map, hpsn]; exact hge), List.length_map, hpsn, List.getElem?_map, k1, k2, k3]
      rfl
  have hhead : ∀ (j : Nat) q pls id, (rmL (C.rm n) f.resultTypes.toList ++ tgtL (C.pm n) (parL f) args)[j]? = some q → pls1[j]? = some pls → q.2.2 = some id → pls.head? = some (σ id) := fun j q pls id hq hp hid => by
    rcases hat j q hq with ⟨T, hT, rfl⟩ | ⟨hge, hq⟩
    · cases hid
    · obtain ⟨T, a, _, _, _, k⟩ := htarg _ q hq
      exact (k id hid).2.2 pls (by rw [show f.resultTypes.size + (j - f.resultTypes.size) = j by omega]; exact hp)
  have hrefs : ∀ q ∈ rmL (C.rm n) f.resultTypes.toList ++ tgtL (C.pm n) (parL f) args, ∀ id, q.2.2 = some id → id ∈ src ∧ live S id := fun q hq id hid => by
    rcases List.mem_append.mp hq with hq | hq
    · rw [rmL_none q hq] at hid; cases hid
    · obtain ⟨k, hk⟩ := List.mem_iff_getElem?.mp hq
      obtain ⟨T, a, _, _, _, u⟩ := htarg k q hk
      exact ⟨(u id hid).1, (u id hid).2.1⟩
  have hnod : (((rmL (C.rm n) f.resultTypes.toList ++ tgtL (C.pm n) (parL f) args).map (·.2.2)).filterMap id).Nodup := by
    rw [List.map_append, List.filterMap_append]
    have e : ((rmL (C.rm n) f.resultTypes.toList).map (·.2.2)).filterMap id = [] := by
      rw [List.filterMap_eq_nil_iff]
      intro x hx
      obtain ⟨q, hq, rfl⟩ := List.mem_map.mp hx
      exact rmL_none q hq
    rw [e, List.nil_append]
    unfold freeB at hfree
    rw [Bool.and_eq_true] at hfree
    exact (nodupB_ok hfree.1).sublist (tgt_sub _ _ _ _ _ _ hx)
  obtain ⟨b1, b2⟩ := g8.apart g1 g9
  obtain ⟨c1, c2, c3⟩ := base_ok (ks1 := ks1) hs p5 hfree (fun _ => rfl) e0 g1 g2
  have hown : ∀ i b, (pls1.flatten.getD i .no).blk = some b → (w.heap.size ≤ b ∨ ∃ id ∈ src, live S id ∧ (σ id).blk = some b) := fun i b hb => by
    obtain ⟨⟨i', _, q1, q2⟩, _⟩ := b2 i b hb
    rcases c3 b with q | q | q
    · exact .inl q
    · exact .inr q
    · exact absurd q2 (q i' q1)
  have hval : ∀ {σ2 : Sig} {F2 : Nat → Prop} {as : List AV}, as.length = r.length → (∀ (j : Nat) a v, as[j]? = some a → vs[j]? = some v → VR C w' F2 σ2 a v) → VR C w' F2 σ2 (one (as.take f.resultTypes.size)) val := fun {σ2 F2 as} hn' hj => by
    rw [g11]
    refine vr_one (by simp; omega) fun j a v ha hv' => ?_
    have hlt : j < f.resultTypes.size := by have := getElem?_lt ha; simp at this; omega
    rw [List.getElem?_take_of_lt hlt] at ha hv'
    exact hj j a v ha hv'
  by_cases hle : lends C n f = true
  · -- arguments are lent
    have hle' := hle
    unfold lends at hle'
    rw [Bool.and_eq_true] at hle'
    have hsrc : src = [] := passL_lent hle'.1 hx
    have htg : tgtL (C.pm n) (parL f) args = [] := tgtL_lent hle'.1
    subst hsrc
    rw [if_pos hle] at hend ⊢
    rw [htg, List.append_nil] at hlay hhead hm hlen1 hnod hrefs hend ⊢
    have hkill : kill ([] ++ []) S = S := kill_nil S
    rw [hkill] at hend ⊢
    have hno : ∀ i b, ((fun i => plss.flatten.getD i .no) i : Place).blk = some b → False := fun i b hb => by
      obtain ⟨⟨id, q1, _⟩, _⟩ := (p5.apart hs hfree).2 i b hb
      cases q1
    have hkeep : ∀ b, b < w.heap.size → w'.heap[b]? = w.heap[b]? := fun b hb => g2.keep b hb fun id _ he => hno id b he
    have hb' : Sim C F σ S w' := ⟨fun id => by
      by_cases hlv : live S id
      · exact (hs.blk id).mono (fun b hb => hkeep b (hs.fin b hb)) (fun _ h => h) (fun _ _ => rfl) fun b hb => hkeep b (hs.lt hlv hb)
      · rw [not_live hlv]; exact trivial, hs.inj, hs.out, hs.top, fun b hb => Nat.lt_of_lt_of_le (hs.fin b hb) g2.heap⟩
    have hnew : ∀ i b, (pls1.flatten.getD i .no).blk = some b → w.heap.size ≤ b := fun i b hb => by
      rcases hown i b hb with q | ⟨id, q, _⟩
      · exact q
      · cases q
    obtain ⟨σ2, r1, r2, r3, r4, r5, r6, r7⟩ := merge_core hb' hm hlen1 g4 g5 (fun j q x pls v hq hx hp hv' => by
      obtain ⟨T, hT, rfl⟩ : ∃ T, f.resultTypes.toList[j]? = some T ∧ q = ((C.rm n).getD j 0, T, none) := by
        rcases hat j q (by rw [htg, List.append_nil]; exact hq) with k | ⟨k1, k2⟩
        · exact k
        · rw [htg] at k2; cases k2
      exact lay_flat (flatR_at _ _ hle'.2 j T hT) (hlay j _ x pls v hq hx hp hv')) hnod hhead (fun q hq id hid => by rw [rmL_none q hq] at hid; cases hid) hsl hend b1 (fun i b hb => ⟨fun hF => by have := hs.fin b hF; have := hnew i b hb; omega, fun id hlv he => by have := hs.lt hlv he; have := hnew i b hb; omega⟩)
    refine ⟨F, σ2, r1, ⟨g2.os, g2.tape, g2.output, g2.heap, fun b hb _ => hkeep b hb, fun _ h => h, fun _ h => .inl h, fun id b hlv he => ?_⟩, r2, fun id hid => (by cases hid), hval (by rw [r4, hlen1]) r3, r6, fun j hj h1 h2 => ?_⟩
    · rcases r5 id b hlv he with ⟨q1, q2⟩ | ⟨i, q⟩
      · exact .inr ⟨id, q1, q2⟩
      · exact .inl (hnew i b q)
    · rw [ho] at hj
      obtain ⟨q1, q2⟩ := r7 j hj fun q hq => by rw [rmL_none q hq]; simp
      exact ⟨q1.trans h1, q2.trans h2⟩
  · rw [if_neg hle] at hend ⊢
    have hdeadk : ∀ id, id ∈ src → (kill (ks ++ src) S).getD id .dead = .dead := fun id hid => by
      rw [getD_kill, if_pos (by simp [hid])]
    obtain ⟨σ2, r1, r2, r3, r4, r5, r6, r7⟩ := merge_core c1 hm hlen1 g4 g5 hlay hnod hhead (fun q hq id hid => by
      obtain ⟨q1, q2⟩ := hrefs q hq id hid
      exact ⟨hdeadk id q1, hs.place q2, by rw [kill_length]; exact live_lt q2⟩) (fun j h1 h2 => by
        have := hsl j h1 h2
        refine ⟨by rw [kill_length]; exact this.lt, ?_, this.no⟩
        rw [getD_kill]
        split
        · rfl
        · exact this.dead) hend b1 (fun i b hb => ⟨(b2 i b hb).2.1, fun id hlv he => by
          obtain ⟨⟨i', _, q1, q2⟩, _⟩ := b2 i b hb
          exact (c2 id b hlv he).2.2 i' q1 q2⟩)
    have hlk : ∀ id, live (kill (ks ++ src) S) id → live S id := fun id hlv => by
      unfold live at *
      rw [getD_kill] at hlv
      split at hlv
      · exact absurd rfl hlv
      · exact hlv
    have hS0 : ∀ i b, ((fun i => plss.flatten.getD i .no) i : Place).blk = some b → ∃ id ∈ src, live S id ∧ (σ id).blk = some b := fun i b hb => ((p5.apart hs hfree).2 i b hb).1
    refine ⟨more F1 σ1 S1 ks1, σ2, r1, ⟨g2.os, g2.tape, g2.output, g2.heap, fun b hb hno => g2.keep b hb fun i _ he => ?_, fun b hb => .inl (g2.grow b (.inl hb)), fun b hb => ?_, fun id b hlv he => ?_⟩, r2, fun id hid b hlv he => ?_, hval (by rw [r4, hlen1]) r3, by rw [r6, kill_length], fun j hj h1 h2 => ?_⟩
    · obtain ⟨id, _, q2, q3⟩ := hS0 i b he
      exact hno id q2 q3
    · rcases hb with hb | ⟨i, _, q1, q2⟩
      · rcases g2.new b hb with q | q | ⟨i, _, q⟩
        · rcases q with q | ⟨id, _, q2, q3⟩
          · exact .inl q
          · exact .inr (.inr ⟨id, q2, q3⟩)
        · exact .inr (.inl q)
        · obtain ⟨id, _, q2, q3⟩ := hS0 i b q
          exact .inr (.inr ⟨id, q2, q3⟩)
      · rcases g2.own i b q1 q2 with q | ⟨i', _, q⟩
        · exact .inr (.inl q)
        · obtain ⟨id, _, q2, q3⟩ := hS0 i' b q
          exact .inr (.inr ⟨id, q2, q3⟩)
    · rcases r5 id b hlv he with ⟨q1, q2⟩ | ⟨i, q⟩
      · exact .inr ⟨id, hlk id q1, q2⟩
      · rcases hown i b q with q | ⟨id', _, q1, q2⟩
        · exact .inl q
        · exact .inr ⟨id', q1, q2⟩
    · have hF0 : more F σ S ks b := .inr ⟨id, hid, hlv, he⟩
      exact ⟨.inl (g2.grow b hF0), g2.dat e0 b hF0⟩
    · rw [ho] at hj
      obtain ⟨q1, q2⟩ := r7 j hj fun q hq hid => by
        have := (hrefs q hq j hid).2
        exact this h1
      refine ⟨q1.trans ?_, q2.trans h2⟩
      rw [getD_kill]
      split
      · rfl
      · exact h1
end
end Go.Proofs.Ytfnepeilccainaa.Den

/- Proved here: a function's body does what the evaluator says. Its conditions: the program's type table is laid as the check 'layB' tells; its operations come in any order that their edges allow. -/
namespace Go.Proofs.Ytfnepeilccainaa.Den
open Go
set_option linter.unusedVariables false
set_option linter.unusedSimpArgs false
section
variable {C : Cfg} {F : Nat → Prop} {σ : Sig} {S : List Blk} {w w' : World}
theorem mapM_vals {P : Program} {f : ResultVar → Sem Value} : ∀ (rs : List ResultVar) (vs : List Value), vs.length = rs.length → (∀ (j : Nat) r v, rs[j]? = some r → vs[j]? = some v → (f r).run P w = .ok v w) → (rs.mapM f).run P w = .ok vs w
  | [], vs, hn, _ => by
    have : vs = [] := List.length_eq_zero_iff.mp hn
    subst this
    rfl
  | r :: rs, vs, hn, h => by
    cases vs with
    | nil => simp at hn
    | cons v vs =>
      rw [List.mapM_cons]
      have h1 := h 0 r v rfl rfl
      have h2 := mapM_vals (P := P) (f := f) rs vs (by simpa using hn) fun j r v hr hv => h (j + 1) r v (by simpa using hr) (by simpa using hv)
      simp [Sem.run_bind, h1, h2, pure, Sem.run]
/-- A result, where the frame keeps it. -/
def ResAt (P : Program) (tmps : Array Value) (w : World) (r : ResultVar) (v : Value) : Prop := match r with
  | .tmp t => tmps.getD t undef = v
  | .cell a T => (Instr.loadAt T (tmps.getD a undef)).run P w = .ok v w ∧ ∃ ad, tmps.getD a undef = .pointer (some ad)
theorem results_vals {P : Program} {fn : Func} {tmps : Array Value} {vs : List Value} (hn : vs.length = fn.results.toList.length) (h : ∀ (j : Nat) r v, fn.results.toList[j]? = some r → vs[j]? = some v → ResAt P tmps w r v) : (results fn tmps).run P w = .ok (oneV vs) w := by
  unfold results
  rw [Array.mapM_eq_mapM_toList]
  have key : ∀ (f : ResultVar → Sem Value), (∀ t, f (.tmp t) = pure (tmps.getD t undef)) → (∀ a T, f (.cell a T) = (do loadVar T (← asAddr (tmps.getD a undef)))) → (do let vs ← List.toArray <$> fn.results.toList.mapM f; pure (if h : vs.size = 1 then vs[0] else Value.tuple vs) : Sem Value).run P w = .ok (oneV vs) w := fun f h1 h2 => by
    have hk : (fn.results.toList.mapM f).run P w = .ok vs w := by
      refine mapM_vals _ vs hn fun j r v hr hv => ?_
      have := h j r v hr hv
      cases r with
      | tmp t => rw [h1, ← this]; rfl
      | cell a T =>
        obtain ⟨k1, ad, k2⟩ := this
        rw [h2, k2]
        rw [k2] at k1
        exact k1
    simp only [map_eq_pure_bind, Sem.run_bind, hk, Result.andThen_ok]
    match vs with
    | [] => rfl
    | [t] => rfl
    | t :: u :: ts => simp [oneV, pure, Sem.run]
  exact key _ (fun _ => rfl) fun _ _ => rfl
theorem resL_at {env : List AV} : ∀ {rs : List ResultVar} {as : List AV}, resL env S rs = some as → as.length = rs.length ∧ ∀ (j : Nat) r b, rs[j]? = some r → as[j]? = some b → resV env S r = some b
  | [], as, h => by
    simp only [resL, Option.some.injEq] at h
    subst h
    exact ⟨rfl, fun j r b hr => by simp at hr⟩
  | r :: rs, as, h => by
    simp only [resL] at h
    obtain ⟨a, h1, h⟩ := Option.bind_eq_some_iff.mp h
    obtain ⟨bs, h2, h⟩ := Option.bind_eq_some_iff.mp h
    simp only [Option.some.injEq] at h
    subst h
    obtain ⟨k1, k2⟩ := resL_at h2
    refine ⟨by simp [k1], fun j r' b hr hb => ?_⟩
    cases j with
    | zero =>
      simp only [List.getElem?_cons_zero, Option.some.injEq] at hr hb
      subst hr hb
      exact h1
    | succ j => exact k2 j r' b (by simpa using hr) (by simpa using hb)
theorem resV_ok (hl : layB C = true) (hs : Sim C F σ S w) {env : List AV} {tmps : Array Value} (he : EnvR C w F σ env tmps) {r : ResultVar} {b : AV} (h : resV env S r = some b) : ∃ v, VR C w F σ b v ∧ ResAt C.P tmps w r v := by
  cases r with
  | tmp t =>
    simp only [resV, Option.some.injEq] at h
    subst h
    exact ⟨_, he.at_ t, rfl⟩
  | cell a T =>
    simp only [resV] at h
    have ha := he.at_ a
    split at h <;> try (cases h; done)
    rename_i id ea
    split at h <;> try (cases h; done)
    rename_i T' v hS
    have hq_ := ite_some h
    clear h
    obtain ⟨rfl, h⟩ := hq_
    simp only [Option.some.injEq] at h
    subst h
    rw [ea] at ha
    have hb := hs.blk id
    rw [hS] at hb
    have hr := ha.one_inv (by simp) (by simp) (by simp)
    generalize hp : tmps.getD a undef = pv at hr
    cases hr with
    | pa g1 => rw [g1] at hb; exact hb.elim
    | p g1 g2 =>
      rw [g1] at hb
      obtain ⟨rfl, hsh, cur, ty, hh, hR⟩ := hb
      obtain ⟨val, q1, q2⟩ := load_ok hl hsh hR (rangeAt_row hh)
      refine ⟨val, q1, ?_⟩
      unfold ResAt
      dsimp only
      rw [hp]
      exact ⟨q2, _, rfl⟩
theorem resL_vals (hl : layB C = true) (hs : Sim C F σ S w) {env : List AV} {tmps : Array Value} (he : EnvR C w F σ env tmps) : ∀ {rs : List ResultVar} {as : List AV}, resL env S rs = some as → ∃ vs : List Value, vs.length = rs.length ∧ (∀ (j : Nat) b v, as[j]? = some b → vs[j]? = some v → VR C w F σ b v) ∧ ∀ (j : Nat) r v, rs[j]? = some r → vs[j]? = some v → ResAt C.P tmps w r v
  | [], as, h => by
    simp only [resL, Option.some.injEq] at h
    subst h
    exact ⟨[], rfl, fun j b v hb => by simp at hb, fun j r v hr => by simp at hr⟩
  | r :: rs, as, h => by
    simp only [resL] at h
    obtain ⟨a, h1, h⟩ := Option.bind_eq_some_iff.mp h
    obtain ⟨bs, h2, h⟩ := Option.bind_eq_some_iff.mp h
    simp only [Option.some.injEq] at h
    subst h
    obtain ⟨v, v1, v2⟩ := resV_ok hl hs he h1
    obtain ⟨vs, k1, k2, k3⟩ := resL_vals hl hs he h2
    refine ⟨v :: vs, by simp [k1], fun j b u hb hu => ?_, fun j r' u hr hu => ?_⟩
    · cases j with
      | zero =>
        simp only [List.getElem?_cons_zero, Option.some.injEq] at hb hu
        subst hb hu
        exact v1
      | succ j => exact k2 j b u (by simpa using hb) (by simpa using hu)
    · cases j with
      | zero =>
        simp only [List.getElem?_cons_zero, Option.some.injEq] at hr hu
        subst hr hu
        exact v2
      | succ j => exact k3 j r' u (by simpa using hr) (by simpa using hu)
/-- References lead where they led. -/
def Leads (σ σ' : Sig) (re re' : Refs) : Prop :=
  re'.length = re.length ∧ ∀ (k : Nat) T a, re[k]? = some (T, a) → ∃ a', re'[k]? = some (T, a') ∧ (a' = .u ∨ ∃ t t', (a = .p t [] ∨ ∃ e, a = .w e t) ∧ (a' = .p t' [] ∨ ∃ e, a' = .w e t') ∧ σ t ≠ .no ∧ σ' t' = σ t)
theorem Leads.trans {σ1 σ2 σ3 : Sig} {r1 r2 r3 : Refs} (h : Leads σ1 σ2 r1 r2) (k : Leads σ2 σ3 r2 r3) : Leads σ1 σ3 r1 r3 := by
  refine ⟨k.1.trans h.1, fun i T a hi => ?_⟩
  obtain ⟨a', h1, h2⟩ := h.2 i T a hi
  obtain ⟨a'', k1, k2⟩ := k.2 i T a' h1
  refine ⟨a'', k1, ?_⟩
  rcases k2 with k2 | ⟨t, t', p1, p2, p3, p4⟩
  · exact .inl k2
  rcases h2 with rfl | ⟨s, s', q1, q2, q3, q4⟩
  · rcases p1 with p1 | ⟨_, p1⟩ <;> cases p1
  have : t = s' := by
    rcases p1 with p1 | ⟨_, p1⟩ <;> rcases q2 with q2 | ⟨_, q2⟩ <;> (rw [p1] at q2; cases q2 <;> rfl)
  subst this
  exact .inr ⟨s, t', q1, p2, q3, p4.trans q4⟩
/-- Where references lead they go on leading, from region to region. -/
theorem Leads.mono {σ σ1 : Sig} {re : Refs} (h : ∀ (k : Nat) T a, re[k]? = some (T, a) → a = .u ∨ ∃ t, (a = .p t [] ∨ ∃ e, a = .w e t) ∧ σ t ≠ .no) (hσ : ∀ id, σ id ≠ .no → σ1 id = σ id) : Leads σ σ1 re re :=
  ⟨rfl, fun k T a hk => ⟨a, hk, by
    rcases h k T a hk with q | ⟨t, q1, q2⟩
    · exact .inl q
    · exact .inr ⟨t, t, q1, q1, q2, hσ t q2⟩⟩⟩
/-- References that lead somewhere. -/
def Led (σ : Sig) (re : Refs) : Prop := ∀ (k : Nat) T a, re[k]? = some (T, a) → a = .u ∨ ∃ t, (a = .p t [] ∨ ∃ e, a = .w e t) ∧ σ t ≠ .no
theorem Leads.led {σ1 σ2 : Sig} {r1 r2 : Refs} (h : Leads σ1 σ2 r1 r2) : Led σ2 r2 := fun k T a hk => by
  have hlt := getElem?_lt hk
  rw [h.1] at hlt
  obtain ⟨⟨T0, a0⟩, h0⟩ := getElem?_of_lt hlt
  obtain ⟨a', h1, h2⟩ := h.2 k T0 a0 h0
  rw [hk] at h1
  cases h1
  rcases h2 with h2 | ⟨t, t', q1, q2, q3, q4⟩
  · exact .inl h2
  · exact .inr ⟨t', q2, by rw [q4]; exact q3⟩
/-- Values stand behind references. -/
def RV (C : Cfg) (w : World) (F : Nat → Prop) (σ : Sig) (re : Refs) : Prop := ∀ (k : Nat) T a, re[k]? = some (T, a) → ∃ v, VR C w F σ a v
theorem RV.list : ∀ {re : Refs}, RV C w F σ re → ∃ vs : List Value, vs.length = re.length ∧ ∀ (k : Nat) a v, (re.map (·.2))[k]? = some a → vs[k]? = some v → VR C w F σ a v
  | [], _ => ⟨[], rfl, fun k a v h => by simp at h⟩
  | (T, a) :: re, h => by
    obtain ⟨v, hv⟩ := h 0 T a rfl
    obtain ⟨vs, h1, h2⟩ := RV.list (re := re) fun k T a hk => h (k + 1) T a (by simpa using hk)
    refine ⟨v :: vs, by simp [h1], fun k b u hb hu => ?_⟩
    cases k with
    | zero =>
      simp only [List.map_cons, List.getElem?_cons_zero, Option.some.injEq] at hb hu
      subst hb hu
      exact hv
    | succ k => exact h2 k b u (by simpa using hb) (by simpa using hu)
theorem passL_at : ∀ {ms : List Nat} {Ts : List TypeId} {as : List AV} {x : List AV × List Nat × List Nat}, passL C S ms Ts as = some x → ∀ (j : Nat) a, as[j]? = some a → ∃ y, passD C S (ms.getD j 0) (Ts.getD j 0) a = some y
  | ms, Ts, [], x, _, j, a, ha => by simp at ha
  | ms, Ts, a0 :: as, x, h, j, a, ha => by
    simp only [passL] at h
    obtain ⟨y, h1, h⟩ := Option.bind_eq_some_iff.mp h
    obtain ⟨z, h2, h⟩ := Option.bind_eq_some_iff.mp h
    cases j with
    | zero =>
      simp only [List.getElem?_cons_zero, Option.some.injEq] at ha
      subst ha
      refine ⟨y, ?_⟩
      cases ms <;> cases Ts <;> exact h1
    | succ j =>
      obtain ⟨u, hu⟩ := passL_at h2 j a (by simpa using ha)
      refine ⟨u, ?_⟩
      cases ms <;> cases Ts <;> simpa using hu
theorem passD_u {T : TypeId} : passD C S 1 T .u = none := by
  simp only [passD]
  split <;> first | rfl | (rename_i h; cases h; done)
/-- What a frame's end asks. -/
theorem finish_ok (hl : layB C = true) {n : FuncId} {f : Func} {re0 re : Refs} {x : X} {o : List AV} {F0 F1 : Nat → Prop} {σ0 σ1 : Sig} {S0 : List Blk} {a : Act} (hre0 : re0 = refE C 0 (C.pm n) (parL f)) (hs : Sim C F1 σ1 x.st w') (he : EnvR C w' F1 σ1 x.env a.tmps) (ht : Stp F0 σ0 S0 w F1 σ1 x.st w') (hld : Leads σ0 σ1 re0 re) (hrv : RV C w' F1 σ1 re)
    (h : finish C n f re x = some o) : ∃ val, (results f a.tmps).run C.P w' = .ok val w' ∧ Ends C n f o F0 σ0 S0 w val w' := by
  unfold finish at h
  split at h
  · cases h
  rename_i as has
  split at h
  · cases h
  rename_i p hp
  obtain ⟨⟨hn, hfr⟩, h⟩ := ite_some h
  obtain ⟨o', ks, src⟩ := p
  simp only [Option.some.injEq] at h
  subst h
  dsimp only at hfr
  obtain ⟨rvals, e1, e2, e3⟩ := resL_vals hl hs he has
  have e4 := (resL_at has).1
  obtain ⟨rvs, r1, r2⟩ := hrv.list
  have hts : rvals.length = f.resultTypes.size := by omega
  have hrl : (rmL (C.rm n) f.resultTypes.toList).length = f.resultTypes.size := by simp [rmL]
  obtain ⟨p1, p2, plss, p3, p4, p5, p6, _⟩ := passL_ok hl hs _ _ _ _ _ _ (rvals ++ rvs) (by simp [r1]; omega) (fun j b v hb hv => by
    rw [List.getElem?_append] at hb hv
    rw [show rvals.length = as.length by omega] at hv
    split at hb
    · rename_i hlt
      rw [if_pos hlt] at hv
      exact e2 j b v hb hv
    · rename_i hlt
      rw [if_neg hlt] at hv
      exact r2 _ b v hb hv) hp
  have hlen : o'.length = f.resultTypes.size + re0.length := by rw [p2, List.length_append, hn, List.length_map, hld.1]
  refine ⟨_, results_vals e1 e3, F1, σ1, x.st, rvals ++ rvs, plss, ks, src, hs, ht, by rw [p3, p2], by rw [List.length_append, hts, r1, hlen, hld.1], by rw [hlen, hre0], fun j m T y pls v hj hy hpl hv => ?_, p5, hfr, fun k T b pls hk hpl => ?_, ?_⟩
  · have := p4 j y pls v hy hpl hv
    rw [List.getElem?_append] at hj
    simp only [List.length_map, hrl] at hj
    split at hj
    · rename_i hlt
      rw [List.getElem?_map] at hj
      obtain ⟨q, hq, hj⟩ := Option.map_eq_some_iff.mp hj
      simp only [Prod.mk.injEq] at hj
      obtain ⟨rfl, rfl⟩ := hj
      obtain ⟨T', hT'⟩ := getElem?_of_lt (l := f.resultTypes.toList) (j := j) (by simpa using hlt)
      rw [rmL_at hT'] at hq
      cases hq
      have em : ((rmL (C.rm n) f.resultTypes.toList).map (fun q : Nat × TypeId × Option Nat => q.1) ++ re.map fun _ => 1).getD j 0 = (C.rm n).getD j 0 := by
        rw [List.getD_eq_getElem?_getD, List.getElem?_append_left (by simp [hrl, hlt]), List.getElem?_map, rmL_at hT']
        rfl
      have eT : (f.resultTypes.toList ++ re.map (·.1)).getD j 0 = T' := by
        rw [List.getD_eq_getElem?_getD, List.getElem?_append_left (by simpa using hlt), hT']
        rfl
      rw [em, eT] at this
      exact this
    · rename_i hge
      rw [← hre0, List.getElem?_map] at hj
      obtain ⟨⟨T0, a0⟩, hq, hj⟩ := Option.map_eq_some_iff.mp hj
      simp only [Prod.mk.injEq] at hj
      obtain ⟨rfl, rfl⟩ := hj
      obtain ⟨a', h1, _⟩ := hld.2 _ _ _ hq
      have em : ((rmL (C.rm n) f.resultTypes.toList).map (fun q : Nat × TypeId × Option Nat => q.1) ++ re.map fun _ => 1).getD j 0 = 1 := by
        rw [List.getD_eq_getElem?_getD, List.getElem?_append_right (by simp [hrl]; omega), List.getElem?_map, List.length_map, hrl, h1]
        rfl
      have eT : (f.resultTypes.toList ++ re.map (·.1)).getD j 0 = T0 := by
        rw [List.getD_eq_getElem?_getD, List.getElem?_append_right (by simp; omega), List.getElem?_map]
        simp only [Array.length_toList]
        rw [h1]
        rfl
      rw [em, eT] at this
      exact this
  · rw [← hre0] at hk
    obtain ⟨a', h1, h2⟩ := hld.2 k T b hk
    have ha' : (as ++ re.map (·.2))[f.resultTypes.size + k]? = some a' := by
      rw [List.getElem?_append_right (by omega), hn, Nat.add_sub_cancel_left, List.getElem?_map, h1]
      rfl
    have em : ((rmL (C.rm n) f.resultTypes.toList).map (fun q : Nat × TypeId × Option Nat => q.1) ++ re.map fun _ => 1).getD (f.resultTypes.size + k) 0 = 1 := by
      rw [List.getD_eq_getElem?_getD, List.getElem?_append_right (by simp [hrl]), List.getElem?_map, List.length_map, hrl, Nat.add_sub_cancel_left, h1]
      rfl
    rcases h2 with rfl | ⟨t, t', q1, q2, q3, q4⟩
    · obtain ⟨y, hy⟩ := passL_at hp _ _ ha'
      rw [em, passD_u] at hy
      cases hy
    · have := (p6 _ a' pls ha' hpl (.inl em) t' q2).1
      exact ⟨t, q1, by rw [this, q4]⟩
  · rw [List.take_append_of_le_length (by simp [hts]), List.take_of_length_le (by simp [hts])]
end
end Go.Proofs.Ytfnepeilccainaa.Den

/- Proved here: where a named region begins, the store may be numbered anew. Its condition: the program's type table is laid as the check 'layB' tells. -/
namespace Go.Proofs.Ytfnepeilccainaa.Den
open Go
set_option linter.unusedVariables false
set_option linter.unusedSimpArgs false
section
variable {C : Cfg} {F : Nat → Prop} {σ : Sig} {S : List Blk} {w w' : World}
/-- Where what is handed over by reference stands in the new frame. -/
theorem enter_at : ∀ (ms : List Nat) (Ts : List TypeId) (xs : List AV) (plss : List (List Place)) (id0 : Nat), plss.length = xs.length → (∀ (j : Nat) pls, plss[j]? = some pls → ∀ t base y, (lay C (ms.getD j 0) (Ts.getD j 0) t base y).2.length = pls.length) → ∀ (j : Nat) a, (enterL C id0 ms Ts xs).1[j]? = some a → (ms.getD j 0 = 1 ∨ ms.getD j 0 = 2 ∨ ms.getD j 0 = 4) →
    ∃ t pls, plss[j]? = some pls ∧ (a = .u ∨ a = .p t [] ∨ ∃ e, a = .w e t) ∧ ∀ (r : Nat) p, pls[r]? = some p → ∀ σ2 : Sig, (∀ i, i < plss.flatten.length → σ2 (id0 + i) = plss.flatten.getD i .no) → σ2 (t + r) = p
  | ms, Ts, [], plss, id0, _, _, j, a, ha, _ => by simp [enterL] at ha
  | ms, Ts, x :: xs, plss, id0, h1, h2, j, a, ha, hm => by
    cases plss with
    | nil => simp at h1
    | cons pls plss =>
      have h0 : ∀ t base y, (lay C (ms.headD 0) (Ts.headD 0) t base y).2.length = pls.length := by
        have := h2 0 pls rfl
        cases ms <;> cases Ts <;> exact this
      simp only [enterL, h0] at ha
      cases j with
      | zero =>
        simp only [List.getElem?_cons_zero, Option.some.injEq] at ha
        have hm' : ms.headD 0 = 1 ∨ ms.headD 0 = 2 ∨ ms.headD 0 = 4 := by cases ms <;> exact hm
        refine ⟨id0, pls, rfl, ?_, fun r p hp σ2 hσ2 => ?_⟩
        · rw [← ha]
          have hO : ∀ T', (layO C T' id0 (id0 + 1) x).1 = .u ∨ (layO C T' id0 (id0 + 1) x).1 = .p id0 [] ∨ ∃ e, (layO C T' id0 (id0 + 1) x).1 = .w e id0 := fun T' => by
            unfold layO
            split <;> exact .inr (.inl rfl)
          unfold lay
          by_cases h12 : ms.headD 0 = 1 ∨ ms.headD 0 = 2
          · rw [if_pos h12]
            split
            · exact .inr (.inr ⟨_, rfl⟩)
            · exact hO _
            · exact .inl rfl
          · rw [if_neg h12, if_pos (by omega)]
            exact hO _
        · have hlt := getElem?_lt hp
          rw [hσ2 r (by simp only [List.flatten_cons, List.length_append]; omega), List.flatten_cons, getD_app, if_pos hlt, List.getD_eq_getElem?_getD, hp]
          rfl
      | succ j =>
        obtain ⟨t, p, q1, q2, q3⟩ := enter_at ms.tail Ts.tail xs plss (id0 + pls.length) (by simpa using h1) (fun j p hp => by
          have := h2 (j + 1) p (by simpa using hp)
          cases ms <;> cases Ts <;> simpa using this) j a (by simpa using ha) (by cases ms with | nil => simp at hm | cons m ms => simpa using hm)
        refine ⟨t, p, by simpa using q1, q2, fun r u hu σ2 hσ2 => q3 r u hu σ2 fun i hi => ?_⟩
        rw [Nat.add_assoc, hσ2 (pls.length + i) (by simp only [List.flatten_cons, List.length_append]; omega), List.flatten_cons, getD_app, if_neg (by omega)]
        congr 1
        omega
theorem same_ref {a b : AV} (h : sameRef a b = true) : a = b ∧ ∃ id, a = .p id [] ∨ ∃ e, a = .w e id := by
  cases a <;> cases b <;> simp only [sameRef] at h <;> try (cases h; done)
  · rename_i e id e' id'
    simp only [Bool.and_eq_true, beq_iff_eq] at h
    obtain ⟨rfl, rfl⟩ := h
    exact ⟨rfl, id, .inr ⟨e, rfl⟩⟩
  · rename_i id path id' path'
    cases path <;> cases path' <;> simp only [sameRef] at h <;> try (cases h; done)
    rw [beq_iff_eq] at h
    subst h
    exact ⟨rfl, id, .inl rfl⟩
theorem passD_ty {m T e id : Nat} {y : AV × List Nat × List Nat} (hm : m = 1 ∨ m = 2 ∨ m = 4) (h : passD C S m T (.w e id) = some y) : (m = 1 ∨ m = 2) ∧ C.und T = some (.slice e) := by
  rcases hm with rfl | rfl | rfl
  · cases hu : C.und T with
    | none => simp [passD, hu] at h
    | some d =>
      cases d with
      | slice e0 =>
        have h := (by simpa [passD, hu] using h : e = e0 ∧ _)
        obtain ⟨rfl, _⟩ := h
        exact ⟨.inl rfl, rfl⟩
      | _ => simp [passD, hu] at h
  · cases hu : C.und T with
    | none => simp [passD, hu] at h
    | some d =>
      cases d with
      | slice e0 =>
        have h := (by simpa [passD, hu] using h : e = e0 ∧ _)
        obtain ⟨rfl, _⟩ := h
        exact ⟨.inr rfl, rfl⟩
      | _ => simp [passD, hu] at h
  · simp [passD] at h
theorem enter_ty : ∀ {ms : List Nat} {Ts : List TypeId} {as : List AV} {x : List AV × List Nat × List Nat} {id0 j e e' id t : Nat}, passL C S ms Ts as = some x → (enterL C id0 ms Ts x.1).1[j]? = some (.w e' t) → as[j]? = some (.w e id) → (ms.getD j 0 = 1 ∨ ms.getD j 0 = 2 ∨ ms.getD j 0 = 4) → e' = e
  | ms, Ts, [], x, id0, j, e, e', id, t, h, h1, h2, h3 => by simp at h2
  | ms, Ts, a :: as, x, id0, j, e, e', id, t, h, h1, h2, h3 => by
    unfold passL at h
    obtain ⟨y, hy, h⟩ := Option.bind_eq_some_iff.mp h
    obtain ⟨z, hz, h⟩ := Option.bind_eq_some_iff.mp h
    simp only [Option.some.injEq] at h
    subst h
    unfold enterL at h1
    dsimp only at h1
    cases j with
    | zero =>
      simp only [List.getElem?_cons_zero, Option.some.injEq] at h1 h2
      subst h2
      have h3' : ms.headD 0 = 1 ∨ ms.headD 0 = 2 ∨ ms.headD 0 = 4 := by cases ms <;> exact h3
      obtain ⟨k1, k2⟩ := passD_ty h3' hy
      unfold lay at h1
      rw [if_pos k1, k2] at h1
      cases h1
      rfl
    | succ j =>
      exact enter_ty hz (by simpa using h1) (by simpa using h2) (by cases ms with | nil => simp at h3 | cons m ms => simpa using h3)
/-- A reference that stands elsewhere now. -/
theorem vr_moved {σ' : Sig} {F' : Nat → Prop} {id t : Nat} {a a' : AV} {u v : Value} (hee : ∀ e e', a = .w e id → a' = .w e' t → e' = e) (ha : a = .p id [] ∨ ∃ e, a = .w e id) (ha' : a' = .u ∨ a' = .p t [] ∨ ∃ e, a' = .w e t) (hσ : σ' t = σ id) (hu : VR C w F σ a u) (hu' : VR C w F' σ' a' u) (hv : VR C w F σ a v) : VR C w F' σ' a' v := by
  rcases ha' with rfl | rfl | ⟨e', rfl⟩
  · exact .u
  · have hr' := hu'.one_inv (by simp) (by simp) (by simp)
    rcases ha with rfl | ⟨e, rfl⟩
    · have hr := hv.one_inv (by simp) (by simp) (by simp)
      cases hr with
      | p h1 h2 => exact .one (by simp) (.p (hσ.trans h1) h2)
      | pa h1 => exact .one (by simp) (.pa (hσ.trans h1))
    · have hr := hu.one_inv (by simp) (by simp) (by simp)
      cases hr <;> cases hr'
  · have hr' := hu'.one_inv (by simp) (by simp) (by simp)
    rcases ha with rfl | ⟨e, rfl⟩
    · have hr := hu.one_inv (by simp) (by simp) (by simp)
      cases hr <;> cases hr'
    · have hr := hv.one_inv (by simp) (by simp) (by simp)
      cases hr with
      | w h1 h2 h3 =>
        cases hr' with
        | w k1 k2 k3 =>
          have := k1.symm.trans (hσ.trans h1)
          cases this
          exact .one (by simp) (.w k1 h2 h3)
        | w0 k1 =>
          have := k1.symm.trans (hσ.trans h1)
          cases this
      | w0 h1 h8 => exact .one (by simp) (.w0 (hσ.trans h1) (by rw [hee e e' rfl rfl]; exact h8))
theorem canon_ok (hl : layB C = true) {keep : List (Nat × Nat × TypeId)} {re re' : Refs} {x x' : X} {tmps : Array Value} (hs : Sim C F σ x.st w) (he : EnvR C w F σ x.env tmps) (hrv : RV C w F σ re) (hld : Led σ re) (h : canonX C keep re x = some (re', x')) :
    ∃ F' σ', Sim C F' σ' x'.st w ∧ EnvR C w F' σ' x'.env tmps ∧ Stp F σ x.st w F' σ' x'.st w ∧ Leads σ σ' re re' ∧ RV C w F' σ' re' := by
  unfold canonX at h
  dsimp only at h
  generalize hnk : keep.filter (fun q => decide (q.2.1 < 10)) = nk at h
  split at h
  · cases h
  rename_i p hp
  obtain ⟨⟨hfr, hal⟩, h⟩ := ite_some h
  obtain ⟨xs, ks, src⟩ := p
  dsimp only at hfr h
  simp only [Option.some.injEq, Prod.mk.injEq] at h
  obtain ⟨h1, h2⟩ := h
  obtain ⟨rvs, r1, r2⟩ := hrv.list
  -- the values of all that is handed over
  have hvals : ∀ (j : Nat) b v, (re.map (fun q : TypeId × AV => q.2) ++ nk.map fun q => x.env.getD q.1 .u)[j]? = some b → (rvs ++ nk.map fun q => tmps.getD q.1 undef)[j]? = some v → VR C w F σ b v := fun j b v hb hv => by
    rw [List.getElem?_append, List.length_map] at hb
    rw [List.getElem?_append, r1] at hv
    split at hb
    · rename_i hlt
      rw [if_pos hlt] at hv
      exact r2 j b v hb hv
    · rename_i hlt
      rw [if_neg hlt] at hv
      rw [List.getElem?_map] at hb hv
      obtain ⟨q, hq, rfl⟩ := Option.map_eq_some_iff.mp hb
      rw [hq] at hv
      simp only [Option.map_some, Option.some.injEq] at hv
      subst hv
      exact he.at_ q.1
  obtain ⟨p1, p2, plss, p3, p4, p5, p6, p7⟩ := passL_ok hl hs _ _ _ _ _ _ (rvs ++ nk.map fun q => tmps.getD q.1 undef) (by simp [r1]) hvals hp
  have hvl : (rvs ++ nk.map fun q => tmps.getD q.1 undef).length = xs.length := by rw [p2]; simp [r1]
  obtain ⟨e0, e1, e2⟩ := enter_ok hs (by omega) hvl p4 p5 hfr
  have hea := enter_at (C := C) _ _ xs plss 0 (by omega) fun j pls hpl t base y => by
    obtain ⟨z, hz⟩ := getElem?_of_lt (l := xs) (j := j) (by have := getElem?_lt hpl; omega)
    obtain ⟨v, hv⟩ := getElem?_of_lt (l := rvs ++ nk.map fun q => tmps.getD q.1 undef) (j := j) (by have := getElem?_lt hpl; omega)
    exact (p4 j z pls v hz hpl hv).1 t base y
  have hmode : ∀ k, k < re.length → ((re.map fun _ => 1) ++ nk.map (fun q : Nat × Nat × TypeId => q.2.1)).getD k 0 = 1 := fun k hk => by
    obtain ⟨q, hq⟩ := getElem?_of_lt hk
    rw [List.getD_eq_getElem?_getD, List.getElem?_append_left (by simpa using hk), List.getElem?_map, hq]
    rfl
  -- how a reference moves
  have hmove : ∀ (k : Nat) a a', (re.map (fun q : TypeId × AV => q.2) ++ nk.map fun q => x.env.getD q.1 .u)[k]? = some a → (enterL C 0 ((re.map fun _ => 1) ++ nk.map (fun q : Nat × Nat × TypeId => q.2.1)) (re.map (fun q : TypeId × AV => q.1) ++ nk.map (fun q : Nat × Nat × TypeId => q.2.2)) xs).1[k]? = some a' → (((re.map fun _ => 1) ++ nk.map (fun q : Nat × Nat × TypeId => q.2.1)).getD k 0 = 1 ∨ ((re.map fun _ => 1) ++ nk.map (fun q : Nat × Nat × TypeId => q.2.1)).getD k 0 = 2 ∨ ((re.map fun _ => 1) ++ nk.map (fun q : Nat × Nat × TypeId => q.2.1)).getD k 0 = 4) → ∀ id, (a = .p id [] ∨ ∃ e, a = .w e id) →
      ∃ t, (a' = .u ∨ a' = .p t [] ∨ ∃ e, a' = .w e t) ∧ plss.flatten.getD t .no = σ id := fun k a a' ha ha' hm id hid => by
    obtain ⟨t, pls, q1, q2, q3⟩ := hea k a' ha' hm
    exact ⟨t, q2, q3 0 _ (by rw [← List.head?_eq_getElem?]; exact (p6 k a pls ha q1 hm id hid).1) (fun i => plss.flatten.getD i .no) fun i hi => by rw [Nat.zero_add]⟩
  have hzip : ∀ (k : Nat) T a', re'[k]? = some (T, a') → ∃ a, re[k]? = some (T, a) ∧ (enterL C 0 ((re.map fun _ => 1) ++ nk.map (fun q : Nat × Nat × TypeId => q.2.1)) (re.map (fun q : TypeId × AV => q.1) ++ nk.map (fun q : Nat × Nat × TypeId => q.2.2)) xs).1[k]? = some a' := fun k T a' hk => by
    rw [← h1] at hk
    rw [List.getElem?_zip_eq_some] at hk
    obtain ⟨k1, k2⟩ := hk
    rw [List.getElem?_map] at k1
    obtain ⟨q, hq, k1⟩ := Option.map_eq_some_iff.mp k1
    dsimp only at k1
    exact ⟨q.2, by rw [hq, ← k1], k2⟩
  refine ⟨more F σ x.st ks, fun i => plss.flatten.getD i .no, by rw [← h2]; exact e0, ?_, ?_, ?_, fun k T a' hk => ?_⟩
  · rw [← h2]
    refine ⟨by simp [he.n], fun t => ?_⟩
    dsimp only
    rw [List.getD_eq_getElem?_getD, List.getElem?_map]
    by_cases htl : t < x.env.length
    · rw [List.getElem?_range htl]
      simp only [Option.map_some, Option.getD_some]
      cases hf : keep.find? fun q => q.1 == t with
      | none => exact .u
      | some q =>
        have hqm := List.mem_of_find?_eq_some hf
        have hqt : q.1 = t := by simpa using List.find?_some hf
        dsimp only
        by_cases hq10 : q.2.1 < 10
        · rw [if_pos hq10]
          have hmem : t ∈ nk.map (fun q : Nat × Nat × TypeId => q.1) := List.mem_map.mpr ⟨q, by rw [← hnk]; exact List.mem_filter.mpr ⟨hqm, by simpa using hq10⟩, hqt⟩
          have hix := List.idxOf_lt_length_of_mem hmem
          have hge : (nk.map (fun q : Nat × Nat × TypeId => q.1))[(nk.map (fun q : Nat × Nat × TypeId => q.1)).idxOf t]? = some t := by
            rw [List.getElem?_eq_getElem hix]
            simp
          rw [List.getElem?_map] at hge
          obtain ⟨q', hq', hqt'⟩ := Option.map_eq_some_iff.mp hge
          cases hy : (enterL C 0 ((re.map fun _ => 1) ++ nk.map (fun q : Nat × Nat × TypeId => q.2.1)) (re.map (fun q : TypeId × AV => q.1) ++ nk.map (fun q : Nat × Nat × TypeId => q.2.2)) xs).1[re.length + (nk.map (fun q : Nat × Nat × TypeId => q.1)).idxOf t]? with
          | none => rw [List.getD_eq_getElem?_getD, hy]; exact .u
          | some b =>
            rw [List.getD_eq_getElem?_getD, hy]
            refine e1 _ b _ hy ?_
            rw [List.getElem?_append_right (by omega), r1, Nat.add_sub_cancel_left, List.getElem?_map, hq', ← hqt']
            rfl
        · rw [if_neg hq10]
          have hsr := List.all_eq_true.mp hal q hqm
          rw [Bool.or_eq_true, Bool.or_eq_true] at hsr
          by_cases hq100 : q.2.1 < 100
          · rw [if_pos hq100]
            have hsr := (hsr.resolve_left (fun hh => by
              rcases hh with hh | hh
              · exact hq10 (by simpa using hh)
              · simp only [Bool.and_eq_true, decide_eq_true_eq] at hh
                omega))
            rw [Bool.and_eq_true, Bool.and_eq_true, Bool.or_eq_true, Bool.or_eq_true, beq_iff_eq, beq_iff_eq, beq_iff_eq] at hsr
            obtain ⟨⟨_, hm⟩, hsr⟩ := hsr
            have hm := or_assoc.mp hm
            obtain ⟨s1, id, s2⟩ := same_ref hsr
            have hk : (re.map (fun q : TypeId × AV => q.2) ++ nk.map fun q => x.env.getD q.1 .u)[q.2.1 - 10]? = some (x.env.getD q.1 .u) := by
              rw [List.getD_eq_getElem?_getD] at s1 s2
              cases hz : (re.map (fun q : TypeId × AV => q.2) ++ nk.map fun q => x.env.getD q.1 .u)[q.2.1 - 10]? with
              | none => rw [hz] at s2; rcases s2 with s2 | ⟨_, s2⟩ <;> cases s2
              | some z => rw [hz] at s1; exact congrArg some s1
            have hs2' : x.env.getD q.1 .u = .p id [] ∨ ∃ e, x.env.getD q.1 .u = .w e id := by rw [← s1]; exact s2
            cases hy : (enterL C 0 ((re.map fun _ => 1) ++ nk.map (fun q : Nat × Nat × TypeId => q.2.1)) (re.map (fun q : TypeId × AV => q.1) ++ nk.map (fun q : Nat × Nat × TypeId => q.2.2)) xs).1[q.2.1 - 10]? with
            | none => rw [List.getD_eq_getElem?_getD, hy]; exact .u
            | some b =>
              rw [List.getD_eq_getElem?_getD, hy]
              obtain ⟨v, hv⟩ := getElem?_of_lt (l := rvs ++ nk.map fun q => tmps.getD q.1 undef) (j := q.2.1 - 10) (by have := getElem?_lt hy; omega)
              obtain ⟨t', m1, m2⟩ := hmove _ _ b hk hy hm id hs2'
              have hvt := he.at_ q.1
              rw [hqt] at hvt hs2' hk
              exact vr_moved (σ := σ) (σ' := fun i => plss.flatten.getD i .no) (fun e e' q1 q2 => enter_ty (x := (xs, ks, src)) (id0 := 0) hp (hy.trans (congrArg some q2)) (hk.trans (congrArg some q1)) hm) hs2' m1 m2 (hvals _ _ v hk hv) (e1 _ b v hy hv) hvt
          · rw [if_neg hq100]
            have hsr := (hsr.resolve_right (fun hh => by
              simp only [Bool.and_eq_true, decide_eq_true_eq] at hh
              exact hq100 hh.1.1)).resolve_left (by simpa using hq10)
            rw [Bool.and_eq_true, Bool.and_eq_true, Bool.or_eq_true, beq_iff_eq, beq_iff_eq] at hsr
            obtain ⟨⟨_, hm⟩, hsr⟩ := hsr
            generalize (q.2.1 - 100) / 16 = k at hm hsr ⊢
            generalize (q.2.1 - 100) % 16 = j at hsr ⊢
            obtain ⟨s1, id2, s2⟩ := same_ref hsr
            -- the object's slice
            have hz : ∃ z, (re.map (fun q : TypeId × AV => q.2) ++ nk.map fun q => x.env.getD q.1 .u)[k]? = some z := by
              cases hz : (re.map (fun q : TypeId × AV => q.2) ++ nk.map fun q => x.env.getD q.1 .u)[k]? with
              | none =>
                rw [List.getD_eq_getElem?_getD, hz] at s2
                simp [fieldR] at s2
              | some z => exact ⟨z, rfl⟩
            obtain ⟨z, hz⟩ := hz
            have hzd : (re.map (fun q : TypeId × AV => q.2) ++ nk.map fun q => x.env.getD q.1 .u).getD k .u = z := by rw [List.getD_eq_getElem?_getD, hz]; rfl
            rw [hzd] at s1 s2 ⊢
            unfold fieldR at s1 s2
            split at s2
            · rename_i id
              dsimp only at s1
              split at s2
              · rename_i T0 v0 hS0
                rw [hS0] at s1
                dsimp only at s1
                split at s2
                · rename_i ho
                  rw [if_pos ho] at s1
                  cases hy : (enterL C 0 ((re.map fun _ => 1) ++ nk.map (fun q : Nat × Nat × TypeId => q.2.1)) (re.map (fun q : TypeId × AV => q.1) ++ nk.map (fun q : Nat × Nat × TypeId => q.2.2)) xs).1[k]? with
                  | none => rw [List.getD_eq_getElem?_getD, hy]; exact .u
                  | some b =>
                    rw [List.getD_eq_getElem?_getD, hy]
                    simp only [Option.getD_some]
                    obtain ⟨t1, pls, q1, q2, q3⟩ := hea k b hy (hm.elim .inl fun h => .inr (.inr h))
                    rcases q2 with rfl | rfl | ⟨e', rfl⟩
                    · exact .u
                    · unfold fieldN
                      dsimp only
                      rw [hS0]
                      dsimp only
                      split
                      · rename_i e id3 hfe
                        have hpl := p7 k _ pls hz q1 hm id T0 v0 j e id3 rfl hS0 ho hfe
                        have hσt := q3 _ _ hpl (fun i => plss.flatten.getD i .no) fun i hi => by rw [Nat.zero_add]
                        have hvt := he.at_ q.1
                        rw [hqt] at hvt s1
                        rw [← s1, hfe] at hvt
                        have hr := hvt.one_inv (by simp) (by simp) (by simp)
                        generalize tmps.getD t undef = tv at hr ⊢
                        cases hr with
                        | w k1 k2 k3 => exact .one (by simp) (.w (hσt.trans k1) k2 k3)
                        | w0 k1 h8 => exact .one (by simp) (.w0 (hσt.trans k1) h8)
                      · exact .u
                    · exact .u
                · rcases s2 with s2 | ⟨_, s2⟩ <;> cases s2
              · rcases s2 with s2 | ⟨_, s2⟩ <;> cases s2
            · rcases s2 with s2 | ⟨_, s2⟩ <;> cases s2
    · rw [List.getElem?_eq_none (by simpa using htl)]
      exact .u
  · rw [← h2]
    refine ⟨rfl, rfl, rfl, Nat.le_refl _, fun _ _ _ => rfl, fun _ h => .inl h, fun b hb => ?_, fun i b _ hb => ?_⟩
    · rcases hb with hb | ⟨id, q1, q2, q3⟩
      · exact .inl hb
      · exact .inr (.inr ⟨id, q2, q3⟩)
    · obtain ⟨⟨id, _, q2, q3⟩, _⟩ := (p5.apart hs hfr).2 i b hb
      exact .inr ⟨id, q2, q3⟩
  · refine ⟨?_, fun k T a hk => ?_⟩
    · rw [← h1, List.length_zip, List.length_map, e2, p2]
      simp
    · have hlt := getElem?_lt hk
      have hka : (re.map (fun q : TypeId × AV => q.2) ++ nk.map fun q => x.env.getD q.1 .u)[k]? = some a := by
        rw [List.getElem?_append_left (by simpa using hlt), List.getElem?_map, hk]
        rfl
      obtain ⟨a', ha'⟩ := getElem?_of_lt (l := (enterL C 0 ((re.map fun _ => 1) ++ nk.map (fun q : Nat × Nat × TypeId => q.2.1)) (re.map (fun q : TypeId × AV => q.1) ++ nk.map (fun q : Nat × Nat × TypeId => q.2.2)) xs).1) (j := k) (by rw [e2, p2]; simp; omega)
      refine ⟨a', ?_, ?_⟩
      · rw [← h1, List.getElem?_zip_eq_some]
        exact ⟨by rw [List.getElem?_map, hk]; rfl, ha'⟩
      · rcases hld k T a hk with rfl | ⟨t, q1, q2⟩
        · obtain ⟨y, hy⟩ := passL_at hp _ _ hka
          rw [hmode k hlt, passD_u] at hy
          cases hy
        · obtain ⟨t', m1, m2⟩ := hmove k a a' hka ha' (.inl (hmode k hlt)) t q1
          rcases m1 with m1 | m1
          · exact .inl m1
          · exact .inr ⟨t, t', q1, m1, q2, m2⟩
  · obtain ⟨a, k1, k2⟩ := hzip k T a' hk
    obtain ⟨v, hv⟩ := getElem?_of_lt (l := rvs ++ nk.map fun q => tmps.getD q.1 undef) (j := k) (by have := getElem?_lt k2; omega)
    exact ⟨v, e1 k a' v k2 hv⟩
end
end Go.Proofs.Ytfnepeilccainaa.Den

/- Proved here: a function does what the evaluator says. Its conditions: the program's type table is laid as the check 'layB' tells; its operations come in any order that their edges allow; what is said of functions by contract. -/
namespace Go.Proofs.Ytfnepeilccainaa.Den
open Go
set_option linter.unusedVariables false
set_option linter.unusedSimpArgs false
section
variable {C : Cfg} {F : Nat → Prop} {σ : Sig} {S : List Blk} {w w' : World}
def itemOf : It → Item
  | .code c => .code c
  | .blk id => .inBlock id
  | .lp c => .inLoop c
theorem exit_ok {id : Nat} : ∀ {its r : List It}, exitI id its = some r → exitTo id (its.map itemOf) = some (r.map itemOf)
  | [], r, h => by simp [exitI] at h
  | .blk id' :: k, r, h => by
    simp only [exitI] at h
    by_cases q : id' = id
    · rw [if_pos q] at h
      cases h
      simp [exitTo, itemOf, q]
    · rw [if_neg q] at h
      simp only [List.map_cons, itemOf, exitTo]
      rw [if_neg (by simpa using q)]
      exact exit_ok h
  | .code c :: k, r, h => by
    simp only [exitI] at h
    simp only [List.map_cons, itemOf, exitTo]
    exact exit_ok h
  | .lp c :: k, r, h => by
    simp only [exitI] at h
    simp only [List.map_cons, itemOf, exitTo]
    exact exit_ok h
/-- What is asked of one function. -/
def CalleeAt (C : Cfg) (n : FuncId) (g : List AV → Out) : Prop :=
  ∀ {f : Func} {xs o : List AV}, C.P.funcs[n]? = some f → f.body.isSome = true → xs.length = f.params.size + f.nfree → g xs = some o → ∀ {F0 : Nat → Prop} {σ0 : Sig} {w : World} {vals : Array Value}, Sim C F0 σ0 (enterL C 0 (C.pm n) (parL f) xs).2 w → vals.size = xs.length → (enterL C 0 (C.pm n) (parL f) xs).1.length = xs.length →
    (∀ (j : Nat) a v, (enterL C 0 (C.pm n) (parL f) xs).1[j]? = some a → vals[j]? = some v → VR C w F0 σ0 a v) → Calls C.P n vals w fun e w' => ∃ val, e = .returned val ∧ Ends C n f o F0 σ0 (enterL C 0 (C.pm n) (parL f) xs).2 w val w'
theorem refE_at : ∀ (ms : List Nat) (Ts : List TypeId) (xs : List AV) (id0 : Nat), xs.length = Ts.length → ∀ (k : Nat) T a, (refE C id0 ms Ts)[k]? = some (T, a) → ∃ j, ms.getD j 0 = 1 ∧ (enterL C id0 ms Ts xs).1[j]? = some a ∧ (a = .u ∨ ∃ t, (a = .p t [] ∨ ∃ e, a = .w e t) ∧ ∃ i B, t = id0 + i ∧ (enterL C id0 ms Ts xs).2[i]? = some B ∧ B ≠ .dead)
  | ms, [], xs, id0, hn, k, T, a, h => by simp [refE] at h
  | ms, T0 :: Ts, xs, id0, hn, k, T, a, h => by
    cases xs with
    | nil => simp at hn
    | cons x xs =>
      have hcnt : ∀ m t base y z, (lay C m T0 t base y).2.length = (lay C m T0 t base z).2.length := fun m t base y z => by
        unfold lay
        split
        · split
          · rfl
          · unfold layO
            split
            · rfl
            · simp [ownB]
            · rfl
          · rfl
        · split
          · unfold layO
            split
            · rfl
            · simp [ownB]
            · rfl
          · split <;> rfl
      simp only [refE] at h
      have lift : ∀ {k : Nat}, (refE C (id0 + (lay C (ms.headD 0) T0 id0 (id0 + 1) .u).2.length) ms.tail Ts)[k]? = some (T, a) → ∃ j, ms.getD j 0 = 1 ∧ (enterL C id0 ms (T0 :: Ts) (x :: xs)).1[j]? = some a ∧ (a = .u ∨ ∃ t, (a = .p t [] ∨ ∃ e, a = .w e t) ∧ ∃ i B, t = id0 + i ∧ (enterL C id0 ms (T0 :: Ts) (x :: xs)).2[i]? = some B ∧ B ≠ .dead) := fun {k} hk => by
        obtain ⟨j, q1, q2, q3⟩ := refE_at ms.tail Ts xs _ (by simpa using hn) k T a hk
        have e := hcnt (ms.headD 0) id0 (id0 + 1) .u x
        rw [e] at q2 q3
        refine ⟨j + 1, by cases ms with | nil => simp at q1 | cons m ms => simpa using q1, by simpa [enterL] using q2, ?_⟩
        rcases q3 with q3 | ⟨t, q3, i, B, q4, q5, q6⟩
        · exact .inl q3
        · refine .inr ⟨t, q3, (lay C (ms.headD 0) T0 id0 (id0 + 1) x).2.length + i, B, by omega, ?_, q6⟩
          simp only [enterL, List.headD_cons, List.tail_cons]
          rw [List.getElem?_append_right (by omega), Nat.add_sub_cancel_left]
          exact q5
      split at h
      · rename_i hm
        cases k with
        | zero =>
          simp only [List.getElem?_cons_zero, Option.some.injEq, Prod.mk.injEq] at h
          obtain ⟨rfl, rfl⟩ := h
          have e1 : (lay C (ms.headD 0) T0 id0 (id0 + 1) x).1 = (lay C (ms.headD 0) T0 id0 (id0 + 1) .u).1 := by
            rw [hm]
            unfold lay
            rw [if_pos (.inl rfl), if_pos (.inl rfl)]
            split
            · rfl
            · unfold layO; split <;> rfl
            · rfl
          refine ⟨0, by cases ms <;> exact hm, by simp only [enterL, List.getElem?_cons_zero, List.headD_cons]; rw [e1], ?_⟩
          rw [← e1, hm]
          have hh : (lay C 1 T0 id0 (id0 + 1) x).1 = .u ∨ (((lay C 1 T0 id0 (id0 + 1) x).1 = .p id0 [] ∨ ∃ e, (lay C 1 T0 id0 (id0 + 1) x).1 = .w e id0) ∧ ∃ B Bs, (lay C 1 T0 id0 (id0 + 1) x).2 = B :: Bs ∧ B ≠ .dead) := by
            unfold lay
            rw [if_pos (.inl rfl)]
            split
            · exact .inr ⟨.inr ⟨_, rfl⟩, _, _, rfl, by simp⟩
            · unfold layO
              split
              · exact .inr ⟨.inl rfl, _, _, rfl, by simp⟩
              · exact .inr ⟨.inl rfl, _, _, rfl, by simp⟩
              · exact .inr ⟨.inl rfl, _, _, rfl, by simp⟩
            · exact .inl rfl
          rcases hh with hh | ⟨h1, B, Bs, h2, h3⟩
          · exact .inl hh
          · refine .inr ⟨id0, h1, 0, B, rfl, ?_, h3⟩
            simp only [enterL, List.headD_cons, List.tail_cons]
            rw [hm, h2]
            rfl
        | succ k => exact lift (by simpa using h)
      · exact lift h
/-- What holds as a body runs; where it runs on the caller's store, that goes on lying where it lay. -/
def GoI (C : Cfg) (inl : Bool) (F0 : Nat → Prop) (σ0 : Sig) (S0 : List Blk) (w0 : World) (re0 re : Refs) (x : X) (a : Act) (w : World) : Prop :=
  ∃ F σ, Sim C F σ x.st w ∧ EnvR C w F σ x.env a.tmps ∧ a.defers = [] ∧ Stp F0 σ0 S0 w0 F σ x.st w ∧ Leads σ0 σ re0 re ∧ RV C w F σ re ∧ (inl = true → ∀ id, σ0 id ≠ .no → σ id = σ0 id)
/-- A body's end. -/
def GoE (C : Cfg) (inl : Bool) (F0 : Nat → Prop) (σ0 : Sig) (S0 : List Blk) (w0 : World) (re0 re : Refs) (x : X) (m : Machine) (b : Frame) (cs : List Frame) : Prop :=
  ∃ todo a' w', Steps C.P m (lone { b.at a' todo with mode := .returning } cs w') ∧ GoI C inl F0 σ0 S0 w0 re0 re x a' w'
theorem GoE.steps {inl : Bool} {F0 : Nat → Prop} {σ0 : Sig} {S0 : List Blk} {w0 : World} {re0 re : Refs} {x : X} {m m' : Machine} {b : Frame} {cs : List Frame} (h : Steps C.P m m') (k : GoE C inl F0 σ0 S0 w0 re0 re x m' b cs) : GoE C inl F0 σ0 S0 w0 re0 re x m b cs := by
  obtain ⟨todo, a', w', k1, k2⟩ := k
  exact ⟨todo, a', w', h.trans k1, k2⟩
/-! ### a body is told without what follows it -/
theorem opsD_nat {α : Type} {out : α} {call : CallF} (hu : SNat call) {all : List Oper} {K : X → Option α} : ∀ (rest : List Oper) (pl : Plan) (slot : Nat) (env : List AV) (S : List Blk) (op : List (List Blk × List Nat)), opsD C call all K rest pl slot env S op = some out → ∃ z, K z = some out ∧ ∀ {β : Type} (K' : X → Option β), opsD C call all K' rest pl slot env S op = K' z
  | [], pl, slot, env, S, op, h => by
    unfold opsD at h
    cases op with
    | nil => exact ⟨_, h, fun K' => by unfold opsD; rfl⟩
    | cons q op => exact ⟨_, h, fun K' => by unfold opsD; rfl⟩
  | o :: rest, pl, slot, env, S, op, h => by
    unfold opsD at h
    obtain ⟨v, S', ks, hK, hst⟩ := stepD_nat hu h
    cases ks with
    | nil =>
      obtain ⟨z, h1, h2⟩ := opsD_nat hu rest _ _ _ _ _ hK
      exact ⟨z, h1, fun K' => by unfold opsD; rw [hst]; exact h2 K'⟩
    | cons k ks =>
      dsimp only at hK
      split at hK
      · rename_i hp
        obtain ⟨z, h1, h2⟩ := opsD_nat hu rest _ _ _ _ _ hK
        refine ⟨z, h1, fun K' => ?_⟩
        unfold opsD
        rw [hst]
        dsimp only
        split
        · exact h2 K'
        · rename_i hn
          exact absurd hp (by simpa using hn)
      · cases hK
theorem regD_nat {α : Type} {out : α} {call : CallF} (hu : SNat call) {K : X → Option α} {ops : Array Oper} {draw : Bool} {x : X} (h : regD C call K ops draw x = some out) : ∃ z, K z = some out ∧ ∀ {β : Type} (K' : X → Option β), regD C call K' ops draw x = K' z := by
  unfold regD at h
  dsimp only at h
  split at h
  · rename_i hd
    obtain ⟨hok, h⟩ := ite_some h
    obtain ⟨z, h1, h2⟩ := opsD_nat hu _ _ _ _ _ _ h
    exact ⟨z, h1, fun K' => by unfold regD; dsimp only; rw [if_pos hd, if_pos hok]; exact h2 K'⟩
  · rename_i hd
    obtain ⟨z, h1, h2⟩ := opsD_nat hu _ _ _ _ _ _ h
    exact ⟨z, h1, fun K' => by unfold regD; dsimp only; rw [if_neg hd]; exact h2 K'⟩
theorem finI_nat {α : Type} {out : α} {f : Func} {slot : Nat} {x : X} {K : KV α} (h : finI f S slot x K = some out) : ∃ v S' ks, K v S' ks = some out ∧ ∀ {β : Type} (K' : KV β), finI f S slot x K' = K' v S' ks := by
  unfold finI at h
  split at h
  · cases h
  rename_i as h1
  split at h
  · cases h
  rename_i q h2
  split at h
  · cases h
  rename_i bs h3
  obtain ⟨h4, h⟩ := ite_some h
  refine ⟨_, _, _, h, fun K' => ?_⟩
  unfold finI
  simp only [h1, h2, h3]
  rw [if_pos h4]
theorem go_nat : ∀ (k : Nat) {α : Type} {out : α} {inl : Bool} {n : FuncId} {f : Func} {re : Refs} {its : List It} {x : X} {fin : Refs → X → Option α}, go C k α inl n f re its x fin = some out → ∃ re' x', fin re' x' = some out ∧ ∀ (β : Type) (fin' : Refs → X → Option β), go C k β inl n f re its x fin' = fin' re' x'
  | 0, α, out, inl, n, f, re, its, x, fin, h => by simp [go] at h
  | k + 1, α, out, inl, n, f, re, its, x, fin, h => by
    have ih := fun {α : Type} {out : α} {inl : Bool} {n : FuncId} {f : Func} {re : Refs} {its : List It} {x : X} {fin : Refs → X → Option α} => go_nat k (α := α) (out := out) (inl := inl) (n := n) (f := f) (re := re) (its := its) (x := x) (fin := fin)
    have hsn : SNat (callG C (go C k)) := by
      intro α n f S slot args K out h
      unfold callG at h
      dsimp only at h
      split at h
      · cases h
      rename_i c hc
      obtain ⟨hn, h⟩ := ite_some h
      obtain ⟨re', x', h1, h2⟩ := ih h
      obtain ⟨v, S', ks, h3, h4⟩ := finI_nat h1
      refine ⟨v, S', ks, h3, fun {β} K' => ?_⟩
      unfold callG
      dsimp only
      rw [hc]
      dsimp only
      rw [if_pos hn, h2 β fun _ x => finI f S slot x K']
      exact h4 K'
    have reg : ∀ {ops : Array Oper} {draw : Bool} {rest : List It} {re1 : Refs} {x1 : X}, regD C (callG C (go C k)) (fun x => go C k α inl n f re1 rest x fin) ops draw x1 = some out → ∃ re' x', fin re' x' = some out ∧ ∀ (β : Type) (fin' : Refs → X → Option β), regD C (callG C (go C k)) (fun x => go C k β inl n f re1 rest x fin') ops draw x1 = fin' re' x' := fun {ops draw rest re1 x1} hr => by
      obtain ⟨z, h1, h2⟩ := regD_nat hsn hr
      obtain ⟨re', x', h3, h4⟩ := ih h1
      exact ⟨re', x', h3, fun β fin' => (h2 _).trans (h4 β fin')⟩
    unfold go at h
    split at h
    · exact ⟨re, x, h, fun β fin' => by unfold go; rfl⟩
    · obtain ⟨re', x', h1, h2⟩ := ih h
      exact ⟨re', x', h1, fun β fin' => by unfold go; exact h2 β fin'⟩
    · obtain ⟨re', x', h1, h2⟩ := ih h
      exact ⟨re', x', h1, fun β fin' => by unfold go; exact h2 β fin'⟩
    · split at h
      · obtain ⟨re', x', h1, h2⟩ := ih h
        exact ⟨re', x', h1, fun β fin' => by unfold go; exact h2 β fin'⟩
      · split at h
        · rename_i hk
          obtain ⟨re', x', h1, h2⟩ := reg h
          refine ⟨re', x', h1, fun β fin' => ?_⟩
          unfold go
          dsimp only
          rw [hk]
          exact h2 β fin'
        · rename_i hk
          split at h
          · cases h
          · rename_i z hz
            obtain ⟨re', x', h1, h2⟩ := reg h
            refine ⟨re', x', h1, fun β fin' => ?_⟩
            unfold go
            dsimp only
            rw [hk]
            dsimp only
            rw [hz]
            exact h2 β fin'
      · obtain ⟨re', x', h1, h2⟩ := ih h
        exact ⟨re', x', h1, fun β fin' => by unfold go; exact h2 β fin'⟩
      · rename_i c ca cb
        split at h <;> try (cases h; done)
        rename_i t et
        split at h
        · rename_i ht
          obtain ⟨re', x', h1, h2⟩ := ih h
          exact ⟨re', x', h1, fun β fin' => by unfold go; dsimp only; rw [et]; dsimp only; rw [if_pos ht]; exact h2 β fin'⟩
        · rename_i ht
          obtain ⟨re', x', h1, h2⟩ := ih h
          exact ⟨re', x', h1, fun β fin' => by unfold go; dsimp only; rw [et]; dsimp only; rw [if_neg ht]; exact h2 β fin'⟩
      · obtain ⟨re', x', h1, h2⟩ := ih h
        exact ⟨re', x', h1, fun β fin' => by unfold go; exact h2 β fin'⟩
      · obtain ⟨re', x', h1, h2⟩ := ih h
        exact ⟨re', x', h1, fun β fin' => by unfold go; exact h2 β fin'⟩
      · split at h
        · rename_i r hr
          obtain ⟨re', x', h1, h2⟩ := ih h
          exact ⟨re', x', h1, fun β fin' => by unfold go; dsimp only; rw [hr]; exact h2 β fin'⟩
        · cases h
      · exact ⟨re, x, h, fun β fin' => by unfold go; rfl⟩
      · cases h
theorem callee_ok (hl : layB C = true) {g : GoF} (hg : ∀ {inl : Bool} {n : FuncId} {f : Func} {re re' : Refs} {its : List It} {x x' : X}, g (Refs × X) inl n f re its x (fun re x => some (re, x)) = some (re', x') → C.P.funcs[n]? = some f → ∀ {re0 : Refs} {F0 : Nat → Prop} {σ0 : Sig} {S0 : List Blk} {w0 w : World} {a : Act}, GoI C inl F0 σ0 S0 w0 re0 re x a w → ∀ (b : Frame) (cs : List Frame), GoE C inl F0 σ0 S0 w0 re0 re' x' (lone (b.at a (its.map itemOf)) cs w) b cs) (hgn : ∀ {α : Type} {out : α} {inl : Bool} {n : FuncId} {f : Func} {re : Refs} {its : List It} {x : X} {fin : Refs → X → Option α}, g α inl n f re its x fin = some out → ∃ re' x', fin re' x' = some out ∧ ∀ (β : Type) (fin' : Refs → X → Option β), g β inl n f re its x fin' = fin' re' x') {n : FuncId} :
    CalleeAt C n ((callG C g).f n) := by
  intro f xs o hf hb hn h F0 σ0 w vals hs hv hlen hvr
  unfold callG at h
  dsimp only at h
  rw [hf] at h
  dsimp only at h
  obtain ⟨c, hc⟩ := Option.isSome_iff_exists.mp hb
  rw [hc] at h
  dsimp only at h
  intro cs
  let b : Frame := { (default : Frame) with fn := n, kind := .normal }
  have henter : Frame.enter C.P n vals .normal = b.at { tmps := vals ++ Array.replicate (f.ntmps - vals.size) undef, defers := [] } [.code c] := by
    simp [Frame.enter, Frame.at, hf, hc, b]
  have hlive : ∀ (i : Nat) (B : Blk), (enterL C 0 (C.pm n) (parL f) xs).2[i]? = some B → B ≠ .dead → σ0 i ≠ .no := fun i B hi hB => hs.place (by unfold live; rw [List.getD_eq_getElem?_getD, hi]; exact hB)
  have hI : GoI C false F0 σ0 (enterL C 0 (C.pm n) (parL f) xs).2 w (refE C 0 (C.pm n) (parL f)) (refE C 0 (C.pm n) (parL f)) ⟨(enterL C 0 (C.pm n) (parL f) xs).1 ++ List.replicate (f.ntmps - xs.length) .u, (enterL C 0 (C.pm n) (parL f) xs).2⟩ { tmps := vals ++ Array.replicate (f.ntmps - vals.size) undef, defers := [] } w := by
    refine ⟨F0, σ0, hs, ⟨by simp [hlen, hv], fun t => ?_⟩, rfl, .refl, .mono (fun k T a hk => ?_) fun _ _ => rfl, fun k T a hk => ?_, fun h => by cases h⟩
    · dsimp only
      rw [List.getD_eq_getElem?_getD, Array.getD_eq_getD_getElem?, List.getElem?_append, Array.getElem?_append, hlen, hv]
      split
      · rename_i hlt
        obtain ⟨y, hy⟩ := getElem?_of_lt (l := (enterL C 0 (C.pm n) (parL f) xs).1) (j := t) (by omega)
        obtain ⟨v, hv'⟩ : ∃ v, vals[t]? = some v := ⟨vals[t]'(by omega), Array.getElem?_eq_getElem (by omega)⟩
        rw [hy, hv']
        exact hvr t y v hy hv'
      · cases hq : (List.replicate (f.ntmps - xs.length) AV.u)[t - xs.length]? with
        | none => exact .u
        | some z =>
          have := List.mem_of_getElem? hq
          rw [List.mem_replicate] at this
          rw [this.2]
          exact .u
    · obtain ⟨j, _, _, q⟩ := refE_at (C := C) (C.pm n) (parL f) xs 0 (by simp [parL, hn]) k T a hk
      rcases q with q | ⟨t, q1, i, B, q2, q3, q4⟩
      · exact .inl q
      · refine .inr ⟨t, q1, ?_⟩
        rw [q2, Nat.zero_add]
        exact hlive i B q3 q4
    · obtain ⟨j, _, q2, _⟩ := refE_at (C := C) (C.pm n) (parL f) xs 0 (by simp [parL, hn]) k T a hk
      obtain ⟨v, hv'⟩ : ∃ v, vals[j]? = some v := ⟨vals[j]'(by have := getElem?_lt q2; omega), Array.getElem?_eq_getElem _⟩
      exact ⟨v, hvr j a v q2 hv'⟩
  obtain ⟨re', x', h1, h2⟩ := hgn h
  obtain ⟨todo, a', w', k1, F1, σ1, i1, i2, i3, i4, i5, i6, _⟩ := hg (h2 _ _) hf hI b cs
  obtain ⟨val, k3, k4⟩ := finish_ok hl rfl i1 i2 i4 i5 i6 h1
  refine ⟨.returned val, w', { b.at a' todo with mode := .returning }, ⟨val, rfl, k4⟩, ?_, rfl, rfl, i3, rfl, f, hf, k3⟩
  rw [henter]
  exact k1
theorem inl_ok (hl : layB C = true) {g : GoF} (hg : ∀ {inl : Bool} {n : FuncId} {f : Func} {re re' : Refs} {its : List It} {x x' : X}, g (Refs × X) inl n f re its x (fun re x => some (re, x)) = some (re', x') → C.P.funcs[n]? = some f → ∀ {re0 : Refs} {F0 : Nat → Prop} {σ0 : Sig} {S0 : List Blk} {w0 w : World} {a : Act}, GoI C inl F0 σ0 S0 w0 re0 re x a w → ∀ (b : Frame) (cs : List Frame), GoE C inl F0 σ0 S0 w0 re0 re' x' (lone (b.at a (its.map itemOf)) cs w) b cs) (hgn : ∀ {α : Type} {out : α} {inl : Bool} {n : FuncId} {f : Func} {re : Refs} {its : List It} {x : X} {fin : Refs → X → Option α}, g α inl n f re its x fin = some out → ∃ re' x', fin re' x' = some out ∧ ∀ (β : Type) (fin' : Refs → X → Option β), g β inl n f re its x fin' = fin' re' x') : SOk C (callG C g) := by
  intro n f S slot args v S' ks hf hb h F σ w vals o ho hs hsl hv hvr cs
  unfold callG at h
  dsimp only at h
  obtain ⟨c, hc⟩ := Option.isSome_iff_exists.mp hb
  rw [hc] at h
  dsimp only at h
  obtain ⟨hn, h⟩ := ite_some h
  obtain ⟨re', x', h1, h2⟩ := hgn h
  let b : Frame := { (default : Frame) with fn := n, kind := .normal }
  have henter : Frame.enter C.P n vals .normal = b.at { tmps := vals ++ Array.replicate (f.ntmps - vals.size) undef, defers := [] } [.code c] := by
    simp [Frame.enter, Frame.at, hf, hc, b]
  have hI : GoI C true F σ S w [] [] ⟨args ++ List.replicate (f.ntmps - args.length) .u, S⟩ { tmps := vals ++ Array.replicate (f.ntmps - vals.size) undef, defers := [] } w := by
    refine ⟨F, σ, hs, ⟨by simp [hv], fun t => ?_⟩, rfl, .refl, ⟨rfl, fun k T a hk => by simp at hk⟩, fun k T a hk => by simp at hk, fun _ _ _ => rfl⟩
    dsimp only
    rw [List.getD_eq_getElem?_getD, Array.getD_eq_getD_getElem?, List.getElem?_append, Array.getElem?_append, hv]
    split
    · rename_i hlt
      obtain ⟨y, hy⟩ := getElem?_of_lt (l := args) (j := t) hlt
      obtain ⟨v, hv'⟩ : ∃ v, vals[t]? = some v := ⟨vals[t]'(by omega), Array.getElem?_eq_getElem (by omega)⟩
      rw [hy, hv']
      exact hvr t y v hy hv'
    · cases hq : (List.replicate (f.ntmps - args.length) AV.u)[t - args.length]? with
      | none => exact .u
      | some z =>
        have := List.mem_of_getElem? hq
        rw [List.mem_replicate] at this
        rw [this.2]
        exact .u
  obtain ⟨todo, a', w', k1, F1, σ1, i1, i2, i3, i4, _, _, i7⟩ := hg (h2 _ _) hf hI b cs
  unfold finI at h1
  split at h1
  · cases h1
  rename_i as has
  split at h1
  · cases h1
  rename_i q hq
  split at h1
  · cases h1
  rename_i bs hbs
  obtain ⟨hlen, h1⟩ := ite_some h1
  simp only [Option.some.injEq, Prod.mk.injEq] at h1
  obtain ⟨rfl, rfl, rfl⟩ := h1
  obtain ⟨rvals, e1, e2, e3⟩ := resL_vals hl i1 i2 has
  obtain ⟨lv, S2⟩ := q
  obtain ⟨r1, r2, r3, r4, r5, r6⟩ := renum_ok hs i1 i4 (i7 rfl) hsl hq
  obtain ⟨m1, m2⟩ := mapO_at hbs
  refine ⟨.returned (oneV rvals), w', { b.at a' todo with mode := .returning }, ⟨_, rfl, F1, _, r1, r2, r4, fun id hid => by simp at hid, ?_, r3, fun j hj => r5 j (by rw [ho] at hj; exact hj)⟩, ?_, rfl, rfl, i3, rfl, f, hf, results_vals e1 e3⟩
  · have e4 := (resL_at has).1
    refine vr_one (by omega) fun j y u hy hu => ?_
    obtain ⟨y0, hy0⟩ := getElem?_of_lt (l := as) (j := j) (by have := getElem?_lt hy; omega)
    exact (e2 j y0 u hy0 hu).ren r6 (m2 j y0 y hy0 hy)
  · rw [henter]
    exact k1
theorem go_ok (hl : layB C = true) (hnm : namesB C = true) (hm : C.P.follows .mixedOrders = true) (hps : PrimSOk C) (hx : ExtOk C) (hprim : ∀ n pf, C.prim n = some pf → CalleeAt C n pf) : ∀ (k : Nat) {inl : Bool} {n : FuncId} {f : Func} {re re' : Refs} {its : List It} {x x' : X}, go C k (Refs × X) inl n f re its x (fun re x => some (re, x)) = some (re', x') → C.P.funcs[n]? = some f → ∀ {re0 : Refs} {F0 : Nat → Prop} {σ0 : Sig} {S0 : List Blk} {w0 w : World} {a : Act}, GoI C inl F0 σ0 S0 w0 re0 re x a w → ∀ (b : Frame) (cs : List Frame), GoE C inl F0 σ0 S0 w0 re0 re' x' (lone (b.at a (its.map itemOf)) cs w) b cs
  | 0, inl, n, f, re, re', its, x, x', h, _ => by simp [go] at h
  | k + 1, inl, n, f, re, re', its, x, x', h, hf => by
    intro hI b cs
    rename_i re0 F0 σ0 S0 w0 w a
    have ih := fun {inl : Bool} {n : FuncId} {f : Func} {re re' : Refs} {its : List It} {x x' : X} => go_ok hl hnm hm hps hx hprim k (inl := inl) (n := n) (f := f) (re := re) (re' := re') (its := its) (x := x) (x' := x')
    have hcallee : CalleeOk C (callP C (callG C (go C k))) := by
      intro n f xs o hf hb hn h
      unfold callP at h
      cases hp : C.prim n with
      | some pf =>
        rw [hp] at h
        exact hprim n pf hp hf hb hn h
      | none =>
        rw [hp] at h
        exact callee_ok hl (fun {inl n f re re' its x x'} h hf => ih h hf) (go_nat k) hf hb hn h
    have hsn : SNat (callG C (go C k)) := by
      intro α n f S slot args K out h
      unfold callG at h
      dsimp only at h
      split at h
      · cases h
      rename_i c hc
      obtain ⟨hn, h⟩ := ite_some h
      obtain ⟨re', x', h1, h2⟩ := go_nat k h
      obtain ⟨v, S', ks, h3, h4⟩ := finI_nat h1
      refine ⟨v, S', ks, h3, fun {β} K' => ?_⟩
      unfold callG
      dsimp only
      rw [hc]
      dsimp only
      rw [if_pos hn, h2 β fun _ x => finI f S slot x K']
      exact h4 K'
    have hcalled : Called C (callG C (go C k)) := called_of hl hps hx hcallee hsn (inl_ok hl (fun {inl n f re re' its x x'} h hf => ih h hf) (go_nat k))
    obtain ⟨F, σ, i1, i2, i3, i4, i5, i6, i7⟩ := hI
    have hI' : GoI C inl F0 σ0 S0 w0 re0 re x a w := ⟨F, σ, i1, i2, i3, i4, i5, i6, i7⟩
    have fin : ∀ {todo : List Item}, some (re, x) = some (re', x') → Steps C.P (lone (b.at a (its.map itemOf)) cs w) (lone { b.at a todo with mode := .returning } cs w) → GoE C inl F0 σ0 S0 w0 re0 re' x' (lone (b.at a (its.map itemOf)) cs w) b cs := fun {todo} hfi hst => by
      simp only [Option.some.injEq, Prod.mk.injEq] at hfi
      obtain ⟨rfl, rfl⟩ := hfi
      exact ⟨todo, a, w, hst, hI'⟩
    have reg : ∀ {id : Nat} {ops : Array Oper} {draw : Bool} {rest : List It} {re1 : Refs} {x1 : X}, GoI C inl F0 σ0 S0 w0 re0 re1 x1 a w → regD C (callG C (go C k)) (fun x => go C k (Refs × X) inl n f re1 rest x fun re x => some (re, x)) ops draw x1 = some (re', x') → GoE C inl F0 σ0 S0 w0 re0 re' x' (lone (b.at a (.code (.region id ops draw) :: rest.map itemOf)) cs w) b cs := fun {id ops draw rest re1 x1} hI1 hr => by
      obtain ⟨F1, σ1, j1, j2, j3, j4, j5, j6, j7⟩ := hI1
      obtain ⟨e, a', w', hq, harr⟩ := regD_ok (id := id) hl hnm hm hcalled j1 j2 hr b (rest.map itemOf) cs
      obtain ⟨rfl, env', S', F', σ', q1, q2, q3, q4, q5, q6⟩ := hq
      refine GoE.steps harr (ih q1 hf ⟨F', σ', q3, q4, q2.trans j3, j4.trans q5, j5.trans (.mono j5.led q6), fun k T a hk => ?_, fun hi id hid => by rw [q6 id (by rw [j7 hi id hid]; exact hid), j7 hi id hid]⟩ b cs)
      obtain ⟨v, hv⟩ := j6 k T a hk
      exact ⟨v, hv.mono (fun b hb => q5.dat j1 b hb) q5.grow q6⟩
    unfold go at h
    split at h
    · exact fin h (.one step_end)
    · exact GoE.steps (.one step_inBlock) (ih h hf hI' b cs)
    · exact GoE.steps (.one step_inLoop) (ih h hf hI' b cs)
    · split at h
      · exact GoE.steps (.one step_skip) (ih h hf hI' b cs)
      · split at h
        · exact reg hI' h
        · rename_i ks hk
          split at h
          · cases h
          · rename_i z hz
            have hni : inl = false := by
              cases inl with
              | false => rfl
              | true => simp at hk
            obtain ⟨F1, σ1, c1, c2, c3, c4, c5⟩ := canon_ok hl (re' := z.1) (x' := z.2) i1 i2 i6 i5.led hz
            exact reg ⟨F1, σ1, c1, c2, i3, i4.trans c3, i5.trans c4, c5, fun hi => by rw [hni] at hi; cases hi⟩ h
      · exact GoE.steps (.one step_seq) (ih h hf hI' b cs)
      · rename_i c ca cb
        have hc := ev_ok i2 c
        split at h <;> try (cases h; done)
        rename_i t et
        rw [et] at hc
        have hc := hc.b_inv
        split at h
        · rename_i ht
          subst ht
          exact GoE.steps (.one (step_cond hc)) (ih h hf hI' b cs)
        · rename_i ht
          obtain rfl : t = false := by simpa using ht
          exact GoE.steps (.one (step_cond hc)) (ih h hf hI' b cs)
      · exact GoE.steps (.one step_block) (ih h hf hI' b cs)
      · exact GoE.steps (.one step_loop) (ih h hf hI' b cs)
      · split at h
        · rename_i r hr
          exact GoE.steps (.one (step_exit (exit_ok hr))) (ih h hf hI' b cs)
        · cases h
      · exact fin h (.one step_ret)
      · cases h
/-- A function does what the evaluator says. -/
theorem call_ok (hl : layB C = true) (hnm : namesB C = true) (hm : C.P.follows .mixedOrders = true) (hps : PrimSOk C) (hx : ExtOk C) (hprim : ∀ n pf, C.prim n = some pf → CalleeAt C n pf) (k : Nat) (n : FuncId) : CalleeAt C n (call C k n) :=
  callee_ok hl (fun {inl n f re re' its x x'} h hf => go_ok hl hnm hm hps hx hprim k h hf) (go_nat k)
end
end Go.Proofs.Ytfnepeilccainaa.Den

/- Proved here: a row that a function of Go's library has turned, or laid anew, is the frame's own. Its condition: the program's type table is laid as the check 'layB' tells. -/
namespace Go.Proofs.Ytfnepeilccainaa.Den
open Go
set_option linter.unusedVariables false
set_option linter.unusedSimpArgs false
section
variable {C : Cfg} {F : Nat → Prop} {σ : Sig} {S : List Blk} {w w' : World} {slot : Nat}
/-- What is so of the world behind: one block alone was turned, or is new. -/
structure Turned (w w' : World) (b : Nat) : Prop where
  os : w'.os = w.os
  tape : w'.tape = w.tape
  output : w'.output = w.output
  size : w.heap.size ≤ w'.heap.size
  keep : ∀ c, c < w.heap.size → c ≠ b → w'.heap[c]? = w.heap[c]?
theorem Turned.refl {b : Nat} : Turned w w b := ⟨rfl, rfl, rfl, Nat.le_refl _, fun _ _ _ => rfl⟩
theorem Turned.trans {w1 w2 w3 : World} {b : Nat} (h : Turned w1 w2 b) (k : Turned w2 w3 b) : Turned w1 w3 b :=
  ⟨k.os.trans h.os, k.tape.trans h.tape, k.output.trans h.output, Nat.le_trans h.size k.size, fun c h1 h2 => (k.keep c (Nat.lt_of_lt_of_le h1 h.size) h2).trans (h.keep c h1 h2)⟩
theorem Turned.drew {b : Nat} (n : Nat) : Turned w { w with drawn := n } b := ⟨rfl, rfl, rfl, Nat.le_refl _, fun _ _ _ => rfl⟩
theorem Turned.setCell {b o : Nat} {v : Value} : Turned w (w.setCell ⟨b, o, none⟩ v) b :=
  ⟨rfl, rfl, rfl, by simp [World.setCell], fun c h1 h2 => by
    simp only [World.setCell, Array.getElem?_modify]
    rw [if_neg (fun e => h2 e.symm)]⟩
theorem Turned.setCells {b : Nat} : ∀ (vs : List Value) (o : Nat) (w : World), Turned w (w.setCells b o vs) b
  | [], o, w => .refl
  | v :: vs, o, w => by
    rw [World.setCells]
    exact Turned.setCell.trans (Turned.setCells vs (o + 1) _)
theorem Turned.alloc {b : Nat} (ob : Obj) : Turned w (w.alloc ob) b :=
  ⟨rfl, rfl, rfl, by show w.heap.size ≤ (w.heap.push ob).size; simp, fun c h1 _ => alloc_keep w ob h1⟩
theorem Sim.becomes (hs : Sim C F σ S w) (hsl : Slot σ S slot) {ks : List Nat} {b : Nat} {B : Blk} {p : Place} (ht : Turned w w' b) (hp : p.blk = some b) (hb : w.heap.size ≤ b ∨ ∃ id ∈ ks, live S id ∧ (σ id).blk = some b) (hB : (∀ d, F d → w'.heap[d]? = w.heap[d]?) → BlkAt C w' F (σ.put slot p) B p) :
    Sim C F (σ.put slot p) ((kill ks S).set slot B) w' ∧ Stp F σ S w F (σ.put slot p) ((kill ks S).set slot B) w' := by
  have hlt : slot < (kill ks S).length := by rw [kill_length]; exact hsl.lt
  have hlive : ∀ i, live ((kill ks S).set slot B) i → i ≠ slot → live S i ∧ i ∉ ks := fun i h hn => by
    unfold live at h
    rw [getD_set_ne hn, getD_kill] at h
    by_cases q : i ∈ ks
    · simp [q] at h
    · rw [if_neg (by simpa using q)] at h; exact ⟨h, q⟩
  have hF : ∀ c, F c → c ≠ b := fun c hc e => by
    rcases hb with q | ⟨id, _, q2, q3⟩
    · have := hs.fin c hc; omega
    · exact hs.out id b q2 q3 (e ▸ hc)
  have hbn : ∀ i c, live S i → i ∉ ks → (σ i).blk = some c → c ≠ b ∧ c < w.heap.size := fun i c hi hn hc => by
    have hclt := hs.lt hi hc
    refine ⟨fun e => ?_, hclt⟩
    rcases hb with q | ⟨id, q1, q2, q3⟩
    · omega
    · exact hn (hs.inj i id c hi q2 hc (e ▸ q3) ▸ q1)
  have hFk : ∀ d, F d → w'.heap[d]? = w.heap[d]? := fun d hd => ht.keep d (hs.fin d hd) (hF d hd)
  refine ⟨⟨fun i => ?_, fun i i' c h1 h2 h3 h4 => ?_, fun i c h1 h2 hFc => ?_, fun i hi => ?_, fun c hc => Nat.lt_of_lt_of_le (hs.fin c hc) ht.size⟩, ⟨ht.os, ht.tape, ht.output, ht.size, fun c hc hn => ht.keep c hc fun e => ?_, fun _ h => h, fun _ h => .inl h, fun i c h1 h2 => ?_⟩⟩
  · by_cases q : i = slot
    · subst q
      rw [getD_set_self hlt, put_self]
      exact hB hFk
    · rw [getD_set_ne q, put_ne q, getD_kill]
      by_cases q2 : i ∈ ks
      · rw [if_pos (by simpa using q2)]; exact trivial
      · rw [if_neg (by simpa using q2)]
        by_cases hi : live S i
        · exact (hs.blk i).mono hFk (fun _ h => h) (put_ext hsl.no) fun c hc => ht.keep c (hbn i c hi q2 hc).2 (hbn i c hi q2 hc).1
        · have : S.getD i .dead = .dead := Classical.byContradiction fun h => hi h
          rw [this]
          exact trivial
  · by_cases q : i = slot
    · by_cases q' : i' = slot
      · rw [q, q']
      · rw [q, put_self, hp] at h3
        rw [put_ne q'] at h4
        obtain ⟨l1, l2⟩ := hlive i' h2 q'
        exact absurd (Option.some.inj h3).symm (hbn i' c l1 l2 h4).1
    · by_cases q' : i' = slot
      · rw [q', put_self, hp] at h4
        rw [put_ne q] at h3
        obtain ⟨l1, l2⟩ := hlive i h1 q
        exact absurd (Option.some.inj h4).symm (hbn i c l1 l2 h3).1
      · rw [put_ne q] at h3
        rw [put_ne q'] at h4
        exact hs.inj i i' c (hlive i h1 q).1 (hlive i' h2 q').1 h3 h4
  · by_cases q : i = slot
    · rw [q, put_self, hp] at h2
      exact hF c hFc (Option.some.inj h2).symm
    · rw [put_ne q] at h2
      exact hs.out i c (hlive i h1 q).1 h2 hFc
  · have hi' : S.length ≤ i := by simpa [kill_length] using hi
    rw [put_ne (by have := hsl.lt; omega)]
    exact hs.top i hi'
  · rcases hb with q | ⟨id, _, q2, q3⟩
    · omega
    · exact hn id q2 (by rw [q3, e])
  · by_cases q : i = slot
    · rw [q, put_self, hp] at h2
      obtain rfl := Option.some.inj h2
      rcases hb with q | ⟨id, _, q2, q3⟩
      · exact .inl q
      · exact .inr ⟨id, q2, q3⟩
    · rw [put_ne q] at h2
      exact .inr ⟨i, (hlive i h1 q).1, h2⟩
/-- And its value is a slice of the frame's own. -/
theorem Sim.post_row (hs : Sim C F σ S w) {o : Oper} (ho : slotsOf o.op = 8) (hsl : Slot σ S slot) {ks : List Nat} {b o1 c cap : Nat} {e : TypeId} {ys : List AV} (ht : Turned w w' b) (hb : w.heap.size ≤ b ∨ ∃ id ∈ ks, live S id ∧ (σ id).blk = some b) (hcap : ys.length ≤ cap) (hc : cap ≤ c)
    (hA : (∀ d, F d → w'.heap[d]? = w.heap[d]?) → ArrAt C w' F e ys b o1 c) : Post C o F σ S w slot (.w e slot) ((kill ks S).set slot (.arr e ys)) [] (.slice (some ⟨b, o1, none⟩) ys.length cap) w' := by
  obtain ⟨s1, t1⟩ := hs.becomes (B := .arr e ys) (p := .arr b o1 ys.length c e) hsl ht rfl hb fun hF => ⟨rfl, rfl, hA hF⟩
  refine ⟨F, _, s1, t1, put_ext hsl.no, fun id hid => by simp at hid, .one (by simp) (.w put_self hcap hc), by rw [List.length_set, kill_length], fun j hj h1 h2 => ?_⟩
  have hne : j ≠ slot := by rw [ho] at hj; omega
  rw [getD_set_ne hne, getD_kill, put_ne hne]
  refine ⟨?_, h2⟩
  split
  · rfl
  · exact h1
/-- A row whose elements are of one cell. -/
theorem arr_single {e : TypeId} (h1 : C.sz e = 1) {ys : List AV} {vs : List Value} {b o1 c : Nat} {cur : Array Value} {t : TypeId} (hh : w'.heap[b]? = some (.cells cur t (0, 0))) (ht : isU8 C e = true → t = e) (hc : o1 + c ≤ cur.size) (hn : ys.length ≤ c) (hv : vs.length = ys.length) (hcell : ∀ j v, vs[j]? = some v → cur[o1 + j]? = some v) (hr : ∀ (j : Nat) y v, ys[j]? = some y → vs[j]? = some v → Wt C e y ∧ R C w' F noSig y [v]) : ArrAt C w' F e ys b o1 c := by
  refine ⟨hn, cur, ⟨t, ht⟩, hh, by rw [h1]; omega, fun j => [vs.getD j undef], fun j y hy => ?_⟩
  obtain ⟨v, hv'⟩ := getElem?_of_lt (l := vs) (j := j) (by have := getElem?_lt hy; omega)
  have hd : vs.getD j undef = v := by rw [List.getD_eq_getElem?_getD, hv']; rfl
  obtain ⟨r1, r2⟩ := hr j y v hy hv'
  refine ⟨r1, by dsimp only; rw [hd]; exact r2, by rw [h1]; rfl, fun k u hu => ?_⟩
  dsimp only at hu
  rw [hd] at hu
  cases k with
  | zero =>
    simp only [List.getElem?_cons_zero, Option.some.injEq] at hu
    subst hu
    rw [h1, Nat.mul_one, Nat.add_zero]
    simp [World.cell?, hh, hcell j _ hv']
  | succ k => simp at hu
/-- The cells of a row of the frame's own whose elements are of one cell. -/
theorem ArrAt.single {e : TypeId} (h1 : C.sz e = 1) {xs : List AV} {b o1 c : Nat} (h : ArrAt C w F e xs b o1 c) : ∃ (cur : Array Value) (t : TypeId) (vs : List Value), w.heap[b]? = some (.cells cur t (0, 0)) ∧ (isU8 C e = true → t = e) ∧ o1 + c ≤ cur.size ∧ xs.length ≤ c ∧ vs.length = xs.length ∧ (∀ j v, vs[j]? = some v → cur[o1 + j]? = some v) ∧ (∀ v ∈ vs, v.oneCell' = true) ∧ ∀ (j : Nat) x v, xs[j]? = some x → vs[j]? = some v → Wt C e x ∧ R C w F noSig x [v] := by
  obtain ⟨hc, cur, t, hh, hz, cells, hx⟩ := h
  rw [h1, Nat.mul_one] at hz
  have hone : ∀ (j : Nat) x, xs[j]? = some x → ∃ v, cells j = [v] := fun j x hj => by
    obtain ⟨_, _, h3, _⟩ := hx j x hj
    rw [h1] at h3
    match hq : cells j, h3 with
    | [v], _ => exact ⟨v, rfl⟩
  have hat : ∀ (j : Nat) v, ((List.range xs.length).map fun j => (cells j).headD undef)[j]? = some v → ∃ x, xs[j]? = some x ∧ cells j = [v] := fun j v hj => by
    rw [List.getElem?_map] at hj
    obtain ⟨k, hk, rfl⟩ := Option.map_eq_some_iff.mp hj
    have hlt := getElem?_lt hk
    rw [List.length_range] at hlt
    rw [List.getElem?_range hlt] at hk
    obtain rfl := Option.some.inj hk
    obtain ⟨x, hx'⟩ := getElem?_of_lt hlt
    obtain ⟨u, hu⟩ := hone _ x hx'
    exact ⟨x, hx', by rw [hu]; rfl⟩
  refine ⟨cur, t.1, (List.range xs.length).map fun j => (cells j).headD undef, hh, t.2, hz, hc, by simp, fun j v hj => ?_, fun v hv => ?_, fun j x v hxj hj => ?_⟩
  · obtain ⟨x, hx', hcj⟩ := hat j v hj
    obtain ⟨_, _, _, h4⟩ := hx j x hx'
    have := h4 0 v (by rw [hcj]; rfl)
    rw [h1, Nat.mul_one, Nat.add_zero] at this
    simpa [World.cell?, hh] using this
  · obtain ⟨j, hj⟩ := List.getElem?_of_mem hv
    obtain ⟨x, hx', hcj⟩ := hat j v hj
    exact (hx j x hx').2.1.plain v (by rw [hcj]; simp)
  · obtain ⟨x', hx', hcj⟩ := hat j v hj
    rw [hxj] at hx'
    cases hx'
    have := hx j x hxj
    rw [hcj] at this
    exact ⟨this.1, this.2.1⟩
/-- A row, written. -/
def rowSet (cur : Array Value) (oo : Nat) (vs : List Value) : Array Value := (cur.toList.take oo ++ vs ++ cur.toList.drop (oo + vs.length)).toArray
theorem rowSet_size {cur : Array Value} {oo : Nat} {vs : List Value} (h : oo + vs.length ≤ cur.size) : (rowSet cur oo vs).size = cur.size := by
  simp only [rowSet, List.size_toArray, List.length_append, List.length_take, List.length_drop, Array.length_toList]
  omega
theorem rowSet_at {cur : Array Value} {oo : Nat} {vs : List Value} (h : oo + vs.length ≤ cur.size) (k : Nat) : (rowSet cur oo vs)[k]? = if oo ≤ k ∧ k < oo + vs.length then vs[k - oo]? else cur[k]? := by
  unfold rowSet
  have hl : (cur.toList.take oo).length = oo := by rw [List.length_take, Array.length_toList]; omega
  rw [List.getElem?_toArray, List.getElem?_append, List.length_append, hl]
  by_cases h1 : k < oo + vs.length
  · rw [if_pos h1, List.getElem?_append, hl]
    by_cases h2 : k < oo
    · rw [if_pos h2, if_neg (by omega), List.getElem?_take_of_lt h2, Array.getElem?_toList]
    · rw [if_neg h2, if_pos (by omega)]
  · rw [if_neg h1, if_neg (by omega), List.getElem?_drop, Array.getElem?_toList]
    congr 1
    omega
theorem setCells_heap {b oo : Nat} {vs : List Value} {cur : Array Value} {t : TypeId} (hh : w.heap[b]? = some (.cells cur t (0, 0))) (hl : oo + vs.length ≤ cur.size) (h1 : ∀ v ∈ vs, v.oneCell' = true) : (w.setCells b oo vs).heap[b]? = some (.cells (rowSet cur oo vs) t (0, 0)) := by
  rw [setCells_row hh hl h1]
  exact setRow_heap w b cur _ t (0, 0) hh
/-- What is put in between. -/
theorem ins_row {cur0 : Array Value} {o1 ii : Nat} {cs : List Value} {u : Value} (h0 : ∀ j, j < ii → cur0[o1 + j]? = cs[j]?) (hi : ii ≤ cs.length) (hsz : o1 + cs.length + 1 ≤ cur0.size) : ∀ j n, (cs.take ii ++ u :: cs.drop ii)[j]? = some n → (rowSet (rowSet cur0 (o1 + (ii + 1)) (cs.drop ii)) (o1 + ii) [u])[o1 + j]? = some n := by
  intro j n hj
  have hd : (cs.drop ii).length = cs.length - ii := List.length_drop ..
  have hs1 : (rowSet cur0 (o1 + (ii + 1)) (cs.drop ii)).size = cur0.size := rowSet_size (by rw [hd]; omega)
  rw [rowSet_at (by rw [hs1]; simp; omega), rowSet_at (by rw [hd]; omega), hd]
  have ht : (cs.take ii).length = ii := by rw [List.length_take]; omega
  rw [List.getElem?_append, ht] at hj
  simp only [List.length_cons, List.length_nil]
  by_cases h1 : j < ii
  · rw [if_pos h1, List.getElem?_take_of_lt h1] at hj
    rw [if_neg (by omega), if_neg (by omega), h0 j h1]
    exact hj
  · rw [if_neg h1] at hj
    by_cases h2 : j = ii
    · subst h2
      rw [if_pos (by omega), Nat.sub_self]
      rw [Nat.sub_self] at hj
      exact hj
    · rw [if_neg (by omega)]
      obtain ⟨k, rfl⟩ : ∃ k, j = ii + 1 + k := ⟨j - ii - 1, by omega⟩
      rw [show ii + 1 + k - ii = k + 1 by omega, List.getElem?_cons_succ] at hj
      have := getElem?_lt hj
      rw [hd] at this
      rw [if_pos (by omega), show o1 + (ii + 1 + k) - (o1 + (ii + 1)) = k by omega]
      exact hj
/-- Two lists side by side. -/
theorem zip_of {α β : Type} {Q : α → β → Prop} {xs : List α} {cs : List β} (hn : cs.length = xs.length) (h : ∀ (j : Nat) x c, xs[j]? = some x → cs[j]? = some c → Q x c) : ∃ zs : List (α × β), xs = zs.map (·.1) ∧ cs = zs.map (·.2) ∧ ∀ p ∈ zs, Q p.1 p.2 := by
  refine ⟨xs.zip cs, ?_, ?_, fun p hp => ?_⟩
  · rw [List.map_fst_zip (by omega)]
  · rw [List.map_snd_zip (by omega)]
  · obtain ⟨j, hj⟩ := List.getElem?_of_mem hp
    rw [List.getElem?_zip_eq_some] at hj
    exact h j p.1 p.2 hj.1 hj.2
theorem zip_at {α β : Type} {Q : α → β → Prop} {zs : List (α × β)} (h : ∀ p ∈ zs, Q p.1 p.2) (j : Nat) (x : α) (c : β) (hx : (zs.map (·.1))[j]? = some x) (hc : (zs.map (·.2))[j]? = some c) : Q x c := by
  rw [List.getElem?_map] at hx hc
  cases hz : zs[j]? with
  | none => rw [hz] at hx; cases hx
  | some p =>
    rw [hz] at hx hc
    cases hx
    cases hc
    exact h p (List.mem_of_getElem? hz)
end
end Go.Proofs.Ytfnepeilccainaa.Den
