/- Proved here: a part of the evaluator for the model's functions, and that a call does what it says; the parts are told one by one. No condition. -/
import Derived.Test.YtfnepeilccainaaKa
import Derived.Calls
import Derived.Laws.StructEq
import Derived.Laws.Pointers
import Derived.Lib.Builder
import Derived.ChangeKeysEq
import Derived.Deep.Upon
import Derived.Laws.BytesString
import Derived.Great.FillDense
import Derived.Great.BuildSlice
import Derived.Laws.Tables
import Derived.Laws.MakeOwn
/- Proved here: single operations do what the evaluator says: copies, reads, writes, addresses, arithmetic. Its condition: the program's type table is laid as the check 'layB' tells. -/
namespace Go.Proofs.Ytfnepeilccainaa.Den
open Go
set_option linter.unusedVariables false
set_option linter.unusedSimpArgs false
section
variable {C : Cfg}
structure EnvR (C : Cfg) (w : World) (F : Nat → Prop) (σ : Sig) (env : List AV) (tmps : Array Value) : Prop where
  n : env.length = tmps.size
  at_ : ∀ t, VR C w F σ (env.getD t .u) (tmps.getD t undef)
theorem const_ok {w : World} {F : Nat → Prop} {σ : Sig} (v : Value) : VR C w F σ (constAV v) v := by
  unfold constAV
  split
  · exact .one (by simp) .i
  · exact .one (by simp) .b
  · exact .one (by simp) .s
  · exact .one (by simp) .z0
  · exact .one (by simp) .z1
  · exact .one (by simp) .z2
  · exact .one (by simp) .z3
  · exact .one (by simp) .z4
  · exact .u
theorem ev_ok {w : World} {F : Nat → Prop} {σ : Sig} {env : List AV} {a : Act} (h : EnvR C w F σ env a.tmps) (x : Operand) : VR C w F σ (ev env x) (a.eval x) := by
  cases x with
  | tmp t => exact h.at_ t
  | const v => exact const_ok v
  | global g => exact .u
  | func f => exact .one (by simp [ev]) (.fn [] [] rfl rfl (fun j a c h => by simp at h) fun j a c h => by simp at h)
/-- What one operation does. -/
def OpOk (C : Cfg) (o : Oper) (F : Nat → Prop) (σ : Sig) (S : List Blk) (w : World) (a : Act) (slot : Nat) (v : AV) (S' : List Blk) (ks : List Nat) : Prop :=
  ∃ val w' F' σ', ((execOp a.eval o).run C.P w = .ok (.value val) w' ∨ ((execOp a.eval o).run C.P w = .ok .skip w' ∧ val = undef)) ∧ Sim C F' σ' S' w' ∧ Stp F σ S w F' σ' S' w' ∧ (∀ id, σ id ≠ .no → σ' id = σ id) ∧
    (∀ id ∈ ks, ∀ b, live S id → (σ id).blk = some b → F' b ∧ w'.heap[b]? = w.heap[b]?) ∧ VR C w' F' σ' v val ∧ S'.length = S.length ∧ (∀ j, (j < slot ∨ slot + slotsOf o.op ≤ j) → S.getD j .dead = .dead → σ j = .no → S'.getD j .dead = .dead ∧ σ' j = .no)
/-- One that leaves memory alone. -/
theorem OpOk.still {o : Oper} {F : Nat → Prop} {σ : Sig} {S : List Blk} {w : World} {a : Act} {slot : Nat} {v : AV} {val : Value} (hs : Sim C F σ S w) (hr : (execOp a.eval o).run C.P w = .ok (.value val) w) (hv : VR C w F σ v val) : OpOk C o F σ S w a slot v S [] :=
  ⟨val, w, F, σ, .inl hr, hs, .refl, fun _ _ => rfl, fun id h => by simp at h, hv, rfl, fun j _ h1 h2 => ⟨h1, h2⟩⟩
theorem VR.i_inv {w : World} {F : Nat → Prop} {σ : Sig} {k : IntKind} {n : Int} {v : Value} (h : VR C w F σ (.i k n) v) : v = .int k n := by
  cases h with
  | one _ h => cases h; rfl
theorem VR.b_inv {w : World} {F : Nat → Prop} {σ : Sig} {x : Bool} {v : Value} (h : VR C w F σ (.b x) v) : v = .bool x := by
  cases h with
  | one _ h => cases h; rfl
theorem VR.s_inv {w : World} {F : Nat → Prop} {σ : Sig} {x : ByteArray} {v : Value} (h : VR C w F σ (.s x) v) : v = .string x := by
  cases h with
  | one _ h => cases h; rfl
theorem VR.one_inv {w : World} {F : Nat → Prop} {σ : Sig} {a : AV} {v : Value} (h : VR C w F σ a v) (h1 : ∀ fs, a ≠ .g fs) (h2 : a ≠ .u) (h3 : ∀ vs, a ≠ .t vs) : R C w F σ a [v] := by
  cases h with
  | u => exact absurd rfl h2
  | one _ h => exact h
  | agg => exact absurd rfl (h1 _)
  | t => exact absurd rfl (h3 _)
theorem VR.g_inv {w : World} {F : Nat → Prop} {σ : Sig} {fs : List AV} {v : Value} (h : VR C w F σ (.g fs) v) : ∃ cs, v = .agg cs.toArray ∧ R C w F σ (.g fs) cs := by
  cases h with
  | one h _ => exact absurd rfl (h fs)
  | agg h => exact ⟨_, rfl, h⟩
variable {F : Nat → Prop} {σ : Sig} {S : List Blk} {w : World} {env : List AV} {a : Act} {o : Oper} {slot : Nat} {α : Type} {K : KV α} {out : α}
theorem ok_move (hs : Sim C F σ S w) (he : EnvR C w F σ env a.tmps) {x : Operand} (ho : o.op = .move x ∨ o.op = .assign x) (h : K (ev env x) S [] = some out) : ∃ v S' ks, K v S' ks = some out ∧ OpOk C o F σ S w a slot v S' ks :=
  ⟨_, _, _, h, OpOk.still hs (by rcases ho with ho | ho <;> simp [execOp, ho, pure, Sem.run]) (ev_ok he x)⟩
/-- An arithmetic one. -/
theorem ok_un {op : UnOp} {T : TypeId} {x : Operand} (hs : Sim C F σ S w) (he : EnvR C w F σ env a.tmps) (ho : o.op = .unOp op T x) (h : opD C S env slot K o.op = some out) : ∃ v S' ks, K v S' ks = some out ∧ OpOk C o F σ S w a slot v S' ks := by
  rw [ho] at h
  simp only [opD] at h
  have hx := ev_ok he x
  unfold unD at h
  split at h
  · rename_i k n ex
    rw [ex] at hx
    exact ⟨_, _, _, h, OpOk.still hs (val := .int k (k.wrap (0 - n))) (by simp [execOp, ho, hx.i_inv, Op.unary, Op.intArith, Sem.run_bind, pure, Sem.run]) (.one (by simp) .i)⟩
  · rename_i n ex
    rw [ex] at hx
    exact ⟨_, _, _, h, OpOk.still hs (val := .bool !n) (by simp [execOp, ho, hx.b_inv, Op.unary, Sem.run_bind, pure, Sem.run]) (.one (by simp) .b)⟩
  · rename_i k n ex
    rw [ex] at hx
    exact ⟨_, _, _, h, OpOk.still hs (val := .int k _) (by simp [execOp, ho, hx.i_inv, Op.unary, Op.intBits, Sem.run_bind, pure, Sem.run]) (.one (by simp) .i)⟩
  · cases h
theorem ok_nilCheck {x : Operand} (hs : Sim C F σ S w) (he : EnvR C w F σ env a.tmps) (ho : o.op = .nilCheck x) (h : opD C S env slot K o.op = some out) : ∃ v S' ks, K v S' ks = some out ∧ OpOk C o F σ S w a slot v S' ks := by
  rw [ho] at h
  simp only [opD] at h
  have hx := ev_ok he x
  split at h <;> try (cases h; done)
  all_goals
    rename_i ex
    rw [ex] at hx
    have hv := hx
    have hr := hx.one_inv (by simp) (by simp) (by simp)
    refine ⟨_, _, _, h, OpOk.still hs (val := a.eval x) ?_ hv⟩
    simp only [execOp, ho]
    generalize a.eval x = y at hr ⊢
    cases hr <;> rfl
theorem ok_extract {x : Operand} {j : Nat} (hs : Sim C F σ S w) (he : EnvR C w F σ env a.tmps) (ho : o.op = .extract x j) (h : opD C S env slot K o.op = some out) : ∃ v S' ks, K v S' ks = some out ∧ OpOk C o F σ S w a slot v S' ks := by
  rw [ho] at h
  simp only [opD] at h
  have hx := ev_ok he x
  split at h <;> try (cases h; done)
  rename_i vs ex
  split at h <;> try (cases h; done)
  rename_i v hv
  rw [ex] at hx
  generalize hy : a.eval x = y at hx
  cases hx with
  | one h1 h2 => cases h2
  | t ws h1 h2 =>
    have hj := getElem?_lt hv
    obtain ⟨val, hval⟩ := getElem?_of_lt (l := ws) (j := j) (by omega)
    refine ⟨_, _, _, h, OpOk.still hs (val := val) ?_ (h2 j v val hv hval)⟩
    simp [execOp, ho, hy, Instr.extract, hval, Sem.run_bind, pure, Sem.run]
end
end Go.Proofs.Ytfnepeilccainaa.Den

/- Proved here: single operations do what the evaluator says: loads, stores, addresses, new variables. Its condition: the program's type table is laid as the check 'layB' tells. -/
namespace Go.Proofs.Ytfnepeilccainaa.Den
open Go
set_option linter.unusedVariables false
set_option linter.unusedSimpArgs false
section
variable {C : Cfg}
theorem rangeAt_sub {w : World} {b o : Nat} {cs : List Value} (h : w.rangeAt b o cs) (i n : Nat) : w.rangeAt b (o + i) ((cs.drop i).take n) := fun j v hv => by
  rw [List.getElem?_take] at hv
  split at hv
  · rw [List.getElem?_drop] at hv
    rw [Nat.add_assoc]
    exact h (i + j) v hv
  · cases hv
theorem rangeAt_row {w : World} {b : Nat} {cur : Array Value} {t : TypeId} {fr : Nat × Nat} (h : w.heap[b]? = some (.cells cur t fr)) : w.rangeAt b 0 cur.toList := fun j v hv => by
  simp [World.cell?, h]
  rw [Array.getElem?_toList] at hv
  exact hv
theorem rangeAt_sub0 {w : World} {b : Nat} {cs : List Value} (h : w.rangeAt b 0 cs) (i n : Nat) : w.rangeAt b i ((cs.drop i).take n) := by
  have := rangeAt_sub h i n
  rwa [Nat.zero_add] at this
theorem rangeAt_append {w : World} {b o : Nat} {cs ds : List Value} (h : w.rangeAt b o cs) (k : w.rangeAt b (o + cs.length) ds) : w.rangeAt b o (cs ++ ds) := fun j v hv => by
  rw [List.getElem?_append] at hv
  split at hv
  · exact h j v hv
  · rename_i hj
    have := k (j - cs.length) v hv
    rwa [show o + cs.length + (j - cs.length) = o + j by omega] at this
theorem rangeAt_rows {w : World} {b o s : Nat} {cells : Nat → List Value} : ∀ n, (∀ j, j < n → (cells j).length = s ∧ w.rangeAt b (o + j * s) (cells j)) → ((List.range n).map cells).flatten.length = n * s ∧ w.rangeAt b o ((List.range n).map cells).flatten
  | 0, _ => ⟨by simp, fun j v hv => by simp at hv⟩
  | n + 1, h => by
    obtain ⟨h1, h2⟩ := rangeAt_rows n fun j hj => h j (by omega)
    obtain ⟨h3, h4⟩ := h n (by omega)
    rw [List.range_succ, List.map_append, List.flatten_append, List.map_singleton, List.flatten_singleton]
    refine ⟨by rw [List.length_append, h1, h3, Nat.add_mul]; omega, rangeAt_append h2 ?_⟩
    rw [h1]
    exact h4
/-- The value of an element, as it is spelt by its type. -/
theorem elem_at {w : World} {F : Nat → Prop} {e : TypeId} {xs : List AV} {b o c : Nat} (h : ArrAt C w F e xs b o c) {j : Nat} (hj : j < xs.length) : ∃ cs, Wt C e (xs.getD j .u) ∧ view C C.P.depth e (xs.getD j .u) = xs.getD j .u ∧ R C w F noSig (xs.getD j .u) cs ∧ cs.length = C.sz e ∧ w.rangeAt b (o + j * C.sz e) cs := by
  obtain ⟨_, cur, t, hh, hz, cells, hx⟩ := h
  obtain ⟨a, ha⟩ := getElem?_of_lt (l := xs) hj
  have e1 : xs.getD j .u = a := by simp [List.getD_eq_getElem?_getD, ha]
  obtain ⟨q1, q2, q3, q4⟩ := hx j a ha
  rw [e1]
  exact ⟨_, q1, q1.2, q2, q3, q4⟩
variable {F : Nat → Prop} {σ : Sig} {S : List Blk} {w : World} {env : List AV} {a : Act} {o : Oper} {slot : Nat} {α : Type} {K : KV α} {out : α}
theorem noSig_mono {w : World} {F : Nat → Prop} {a : AV} {cs : List Value} (h : R C w F noSig a cs) (σ : Sig) : R C w F σ a cs := h.mono (fun _ _ => rfl) (fun _ h => h) σ fun _ h => absurd rfl h
theorem ok_load (hl : layB C = true) {T : TypeId} {x : Operand} (hs : Sim C F σ S w) (he : EnvR C w F σ env a.tmps) (ho : o.op = .load T x) (h : opD C S env slot K o.op = some out) : ∃ v S' ks, K v S' ks = some out ∧ OpOk C o F σ S w a slot v S' ks := by
  rw [ho] at h
  simp only [opD] at h
  have hx := ev_ok he x
  have fin : ∀ (v : AV) (cs : List Value) (b off : Nat), K v S [] = some out → a.eval x = .pointer (some ⟨b, off, none⟩) → Sh C T v → R C w F σ v cs → w.rangeAt b off cs → ∃ v S' ks, K v S' ks = some out ∧ OpOk C o F σ S w a slot v S' ks := by
    intro v cs b off hK hp hsh hr hc
    obtain ⟨val, hv, hrun⟩ := load_ok hl hsh hr hc
    exact ⟨v, S, [], hK, OpOk.still hs (val := val) (by simp [execOp, ho, hp, hrun, Sem.run_bind, pure, Sem.run]) hv⟩
  split at h
  · rename_i T' v ex
    split at h <;> try (cases h; done)
    rename_i hT
    subst hT
    rw [ex] at hx
    have hr := hx.one_inv (by simp) (by simp) (by simp)
    generalize hy : a.eval x = y at hr
    cases hr with
    | «at» h1 h2 h3 h4 h5 => exact fin _ _ _ _ h hy h2.1 (noSig_mono h5 σ) h3
  · rename_i id path ex
    rw [ex] at hx
    have hr := hx.one_inv (by simp) (by simp) (by simp)
    have hb := hs.blk id
    split at h
    · rename_i T' v hS
      split at h <;> try (cases h; done)
      rename_i hp
      rw [hS] at hb
      generalize hy : a.eval x = y at hr
      cases hr with
      | p h1 h2 =>
        rw [h1] at hb
        obtain ⟨rfl, hsh, cur, t, hh, hrr⟩ := hb
        obtain ⟨cs', r1, r2, r3, r4⟩ := path_at hl path _ T v cur.toList hsh hrr hp
        refine fin _ cs' _ _ h hy r2 r1 ?_
        rw [r4]
        exact rangeAt_sub0 (rangeAt_row hh) _ _
      | pa h1 => rw [h1] at hb; exact hb.elim
    · rename_i e xs hS
      split at h <;> try (cases h; done)
      rename_i n e' hu
      split at h <;> try (cases h; done)
      rename_i hcond
      obtain ⟨rfl, rfl⟩ := hcond
      rw [hS] at hb
      generalize hy : a.eval x = y at hr
      cases hr with
      | p h1 h2 => rw [h1] at hb; exact hb.elim
      | pa h1 =>
        rw [h1] at hb
        obtain ⟨rfl, rfl, hA⟩ := hb
        have hA' := hA
        obtain ⟨_, cur, t, hh, hz, cells, hxs⟩ := hA
        have css : ∀ (j : Nat) c, ((List.range xs.length).map cells)[j]? = some c → j < xs.length ∧ c = cells j := fun j c hc => by
          have hj := getElem?_lt hc
          simp only [List.length_map, List.length_range] at hj
          rw [List.getElem?_map, List.getElem?_range hj] at hc
          exact ⟨hj, (Option.some.inj hc).symm⟩
        refine fin (.g xs) ((List.range xs.length).map cells).flatten _ _ h hy (.ga hu rfl fun j x hx => (hxs j x hx).1.1) (.g _ (by simp) fun j x c hx hc => ?_) ?_
        · obtain ⟨_, rfl⟩ := css j c hc
          exact noSig_mono (hxs j x hx).2.1 σ
        · exact (rangeAt_rows xs.length fun j hj => by
            obtain ⟨x, hx⟩ := getElem?_of_lt (l := xs) hj
            exact ⟨(hxs j x hx).2.2.1, (hxs j x hx).2.2.2⟩).2
    · cases h
  · rename_i id idx path ex
    rw [ex] at hx
    have hr := hx.one_inv (by simp) (by simp) (by simp)
    have hb := hs.blk id
    split at h <;> try (cases h; done)
    rename_i e xs hS
    split at h <;> try (cases h; done)
    rename_i hp
    rw [hS] at hb
    generalize hy : a.eval x = y at hr
    cases hr with
    | q h1 h2 h3 =>
      rw [h1] at hb
      obtain ⟨rfl, rfl, hA⟩ := hb
      obtain ⟨cs, w1, w2, w3, w4, w5⟩ := elem_at hA h2
      rw [w2] at h
      obtain ⟨cs', r1, r2, r3, r4⟩ := path_at hl path _ T _ cs w1.1 (noSig_mono w3 σ) hp
      refine fin _ cs' _ _ h hy r2 r1 ?_
      rw [r4]
      exact rangeAt_sub w5 _ _
  · cases h
theorem elems_live {S : List Blk} {a : AV} {xs : List AV} (h : elems S a = some xs) : ∀ id ∈ ownId a, live S id := by
  intro id hid hd
  cases a <;> simp only [ownId, List.mem_singleton] at hid <;> try (cases hid; done)
  all_goals
    subst hid
    simp only [elems] at h
    try rw [hd] at h
    try (cases h; done)
theorem fz_live : ∀ (d : Nat) (T : TypeId) (a x : AV) (ks : List Nat), fz C S d T a = some (x, ks) → ∀ id ∈ ks, live S id
  | 0, T, a, x, ks, h => by simp [fz] at h
  | d + 1, T, a, x, ks, h => by
    intro id hid
    unfold fz at h
    split at h
    · split at h
      · simp only [Option.some.injEq, Prod.mk.injEq] at h; obtain ⟨_, rfl⟩ := h; simp at hid
      · cases h
    · simp only [Option.some.injEq, Prod.mk.injEq] at h; obtain ⟨_, rfl⟩ := h; simp at hid
    · simp only [Option.some.injEq, Prod.mk.injEq] at h; obtain ⟨_, rfl⟩ := h; simp at hid
    · split at h
      · simp only [Option.some.injEq, Prod.mk.injEq] at h; obtain ⟨_, rfl⟩ := h; simp at hid
      · cases h
    · simp only [Option.some.injEq, Prod.mk.injEq] at h; obtain ⟨_, rfl⟩ := h; simp at hid
    · split at h
      · obtain ⟨xs, h1, h⟩ := Option.bind_eq_some_iff.mp h
        simp only [Option.some.injEq, Prod.mk.injEq] at h
        obtain ⟨_, rfl⟩ := h
        exact elems_live h1 id (by simpa [ownId] using hid)
      · cases h
    · split at h
      · obtain ⟨xs, h1, h⟩ := Option.bind_eq_some_iff.mp h
        simp only [Option.some.injEq, Prod.mk.injEq] at h
        obtain ⟨_, rfl⟩ := h
        exact elems_live h1 id (by simpa [ownId] using hid)
      · cases h
    · obtain ⟨⟨xs, k⟩, h1, h⟩ := Option.bind_eq_some_iff.mp h
      simp only [Option.some.injEq, Prod.mk.injEq] at h
      obtain ⟨_, rfl⟩ := h
      exact fzL_live (fun T a x ks h => fz_live d T a x ks h) _ _ _ _ h1 id hid
    · obtain ⟨⟨xs, k⟩, h1, h⟩ := Option.bind_eq_some_iff.mp h
      simp only [Option.some.injEq, Prod.mk.injEq] at h
      obtain ⟨_, rfl⟩ := h
      exact fzL_live (fun T a x ks h => fz_live d T a x ks h) _ _ _ _ h1 id hid
    · cases h
where
  fzL_live {f : TypeId → AV → Option (AV × List Nat)} (h : ∀ T a x ks, f T a = some (x, ks) → ∀ id ∈ ks, live S id) : ∀ (Ts : List TypeId) (as xs : List AV) (ks : List Nat), fzL f Ts as = some (xs, ks) → ∀ id ∈ ks, live S id
    | [], [], xs, ks, he => by
      simp only [fzL, Option.some.injEq, Prod.mk.injEq] at he
      obtain ⟨rfl, rfl⟩ := he
      intro id hid; simp at hid
    | T :: Ts, a :: as, xs, ks, he => by
      simp only [fzL] at he
      obtain ⟨⟨x, k1⟩, h1, he⟩ := Option.bind_eq_some_iff.mp he
      obtain ⟨⟨ys, k2⟩, h2, he⟩ := Option.bind_eq_some_iff.mp he
      simp only [Option.some.injEq, Prod.mk.injEq] at he
      obtain ⟨rfl, rfl⟩ := he
      intro id hid
      rcases List.mem_append.mp hid with q | q
      · exact h _ _ _ _ h1 id q
      · exact fzL_live h Ts as ys k2 h2 id q
    | [], _ :: _, xs, ks, he => by simp [fzL] at he
    | _ :: _, [], xs, ks, he => by simp [fzL] at he
/-- Data of a value, its blocks laid open. -/
theorem fz_more (hl : layB C = true) (hs : Sim C F σ S w) {T : TypeId} {b x : AV} {ks : List Nat} {cs : List Value} (h : fz C S C.P.depth T b = some (x, ks)) (hr : R C w F σ b cs) : Wt C T x ∧ R C w (more F σ S ks) noSig x cs := by
  obtain ⟨q1, q2, q3⟩ := fz_sound hl hs (F' := more F σ S ks) (fun _ h => .inl h) _ T b x ks h cs (fun id hid b hb => .inr ⟨id, hid, fz_live _ _ _ _ _ h id hid, hb⟩) hr
  exact ⟨⟨q1, q2⟩, q3⟩
theorem more_nil {F : Nat → Prop} {σ : Sig} {S : List Blk} : more F σ S [] = F := by
  funext b
  simp [more]
/-- A place's block stays one of cells, whatever it holds. -/
theorem row_at (hs : Sim C F σ S w) {id b : Nat} (hlv : live S id) (hb : (σ id).blk = some b) : ∃ cur t, w.heap[b]? = some (.cells cur t (0, 0)) := by
  have := hs.blk id
  unfold live at hlv
  cases hS : S.getD id .dead with
  | dead => exact absurd hS hlv
  | obj T v =>
    rw [hS] at this
    cases hσi : σ id <;> rw [hσi] at this hb <;> simp only [BlkAt] at this <;> try exact this.elim
    simp only [Place.blk, Option.some.injEq] at hb
    subst hb
    obtain ⟨_, _, cur, t, hh, _⟩ := this
    exact ⟨_, _, hh⟩
  | arr e xs =>
    rw [hS] at this
    cases hσi : σ id <;> rw [hσi] at this hb <;> simp only [BlkAt] at this <;> try exact this.elim
    · simp [Place.blk] at hb
    · simp only [Place.blk, Option.some.injEq] at hb
      subst hb
      obtain ⟨_, _, _, cur, t, hh, _⟩ := this
      exact ⟨_, _, hh⟩
theorem sh_of {d T : Nat} {x : AV} (h : sh C d T x = true) : Sh C T x := sh_sound d T x h
theorem notU {T : TypeId} {x : AV} (h : Sh C T x) : x ≠ .u := by cases h <;> simp
theorem rangeAt_set {w : World} {b : Nat} {cur new : Array Value} {t : TypeId} (hh : w.heap[b]? = some (.cells cur t (0, 0))) {o : Nat} {cs : List Value} (h : ∀ j v, cs[j]? = some v → new[o + j]? = some v) : (w.setRow b new).rangeAt b o cs := fun j v hv => by
  have := setRow_heap w b cur new t (0, 0) hh
  simp [World.cell?, this, h j v hv]
theorem rangeAt_new {w : World} {b : Nat} {cur new : Array Value} {t : TypeId} (hh : w.heap[b]? = some (.cells cur t (0, 0))) {o : Nat} {cs : List Value} (h : w.rangeAt b o cs) (he : ∀ j, j < cs.length → new[o + j]? = cur[o + j]?) : (w.setRow b new).rangeAt b o cs := rangeAt_set hh fun j v hv => by
  rw [he j (getElem?_lt hv)]
  have := h j v hv
  simpa [World.cell?, hh] using this
theorem rangeAt_take {w : World} {b : Nat} {cur : Array Value} {t : TypeId} {fr : Nat × Nat} (hh : w.heap[b]? = some (.cells cur t fr)) {o : Nat} {cs : List Value} (h : w.rangeAt b o cs) : (cur.toList.drop o).take cs.length = cs := by
  apply List.ext_getElem?
  intro j
  rw [List.getElem?_take]
  split
  · rename_i hj
    obtain ⟨v, hv⟩ := getElem?_of_lt (l := cs) hj
    have := h j v hv
    simp [World.cell?, hh] at this
    rw [List.getElem?_drop, hv, Array.getElem?_toList, this]
  · rename_i hj
    rw [List.getElem?_eq_none (by omega)]
theorem Wt.elem {T n e : TypeId} {as : List AV} (h : Wt C T (.g as)) (hu : C.und T = some (.array n e)) : as.length = n ∧ ∀ (j : Nat) a, as[j]? = some a → Wt C e a := by
  obtain ⟨hs, hv⟩ := h
  cases hs with
  | g hu' => rw [hu] at hu'; simp at hu'
  | ga hu' hn hfs =>
    rw [hu] at hu'
    simp only [Option.some.injEq, TypeDesc.array.injEq] at hu'
    obtain ⟨rfl, rfl⟩ := hu'
    refine ⟨hn, fun j a ha => ⟨hfs j a ha, ?_⟩⟩
    cases hd : C.P.depth with
    | zero => rw [hd] at hv; simp [view] at hv
    | succ d =>
      rw [hd] at hv
      simp only [view, hu, AV.g.injEq] at hv
      exact view_mono d e a (hfs j a ha) ((map_range n as (view C d e) hn).mp hv j a ha)
/-- An array's data is a row's. -/
theorem row_of_g (hl : layB C = true) {w : World} {F : Nat → Prop} {T n e : TypeId} {ys : List AV} {cs : List Value} (h : Wt C T (.g ys)) (hu : C.und T = some (.array n e)) (hr : R C w F noSig (.g ys) cs) :
    ys.length = n ∧ cs.length = n * C.sz e ∧ ∃ cells : Nat → List Value, ∀ (j : Nat) y, ys[j]? = some y → Wt C e y ∧ R C w F noSig y (cells j) ∧ (cells j).length = C.sz e ∧ (cs.drop (j * C.sz e)).take (C.sz e) = cells j := by
  obtain ⟨hn, hw⟩ := h.elem hu
  cases hr with
  | g css h1 h2 =>
    have hlen : ∀ (j : Nat) c m, css[j]? = some c → (List.replicate n (C.sz e))[j]? = some m → c.length = m := fun j c m hc hm => by
      have hj := getElem?_lt hc
      obtain ⟨y, hy⟩ := getElem?_of_lt (l := ys) (j := j) (by omega)
      have hm := List.mem_of_getElem? hm
      simp only [List.mem_replicate] at hm
      rw [hm.2]
      exact sh_len hl (hw j y hy).1 (h2 j y c hy hc)
    obtain ⟨f1, f2⟩ := flat_at css (List.replicate n (C.sz e)) (by simp [h1, hn]) hlen
    refine ⟨hn, by rw [f1]; simp, fun j => css.getD j [], fun j y hy => ?_⟩
    have hj := getElem?_lt hy
    obtain ⟨c, hc⟩ := getElem?_of_lt (l := css) (j := j) (by omega)
    have e1 : css.getD j [] = c := by simp [List.getD_eq_getElem?_getD, hc]
    have e2 := hlen j c (C.sz e) hc (by rw [List.getElem?_replicate, if_pos (by omega)])
    dsimp only
    rw [e1]
    refine ⟨hw j y hy, h2 j y c hy hc, e2, ?_⟩
    have := f2 j c hc
    rw [List.take_replicate, Nat.min_eq_left (by omega)] at this
    simp only [List.sum_replicate_nat, e2] at this
    simpa using this
theorem rangeAt_part {w : World} {b o s j : Nat} {cs c : List Value} (h : w.rangeAt b o cs) (hc : (cs.drop (j * s)).take s = c) : w.rangeAt b (o + j * s) c := by
  rw [← hc]
  exact rangeAt_sub h _ _
theorem ok_store (hl : layB C = true) {T' : TypeId} {x y : Operand} (hs : Sim C F σ S w) (he : EnvR C w F σ env a.tmps) (ho : o.op = .store T' x y) (h : opD C S env slot K o.op = some out) : ∃ v S' ks, K v S' ks = some out ∧ OpOk C o F σ S w a slot v S' ks := by
  rw [ho] at h
  simp only [opD] at h
  have hx := ev_ok he x
  have hy := ev_ok he y
  have hlen : ∀ (S' : List Blk) (id : Nat) (B : Blk), live S' id → (∀ j, S.getD j .dead = .dead → S'.getD j .dead = .dead) → ∀ j, (j < slot ∨ slot + slotsOf o.op ≤ j) → S.getD j .dead = .dead → σ j = .no → (S'.set id B).getD j .dead = .dead ∧ σ j = .no := fun S' id B hlv hd j _ h1 h2 => by
    refine ⟨?_, h2⟩
    by_cases e : j = id
    · subst e
      exact absurd (hd j h1) hlv
    · rw [getD_set_ne e]
      exact hd j h1
  split at h
  · rename_i id path ex
    rw [ex] at hx
    have hr := hx.one_inv (by simp) (by simp) (by simp)
    have hb := hs.blk id
    split at h
    · rename_i T v hS
      split at h <;> try (cases h; done)
      rename_i hcond
      obtain ⟨hp, hsh⟩ := hcond
      have hsy := sh_of hsh
      have hlv : live S id := by unfold live; rw [hS]; simp
      rw [hS] at hb
      generalize hpv : a.eval x = p at hr
      cases hr with
      | p h1 h2 =>
        rename_i b T2 T3
        have hblk : (σ id).blk = some b := by rw [h1]; rfl
        rw [h1] at hb
        obtain ⟨rfl, hshv, cur, t, hh, hrr⟩ := hb
        have hry := hy.cells hsy
        obtain ⟨cs', r1, r2, r3, r4⟩ := path_at hl path _ T' v cur.toList hshv hrr hp
        obtain ⟨z1, z2⟩ := isAgg_store hl hsy hy hh (o := poff C _ path) (by simpa using r3)
        obtain ⟨s1, s2⟩ := set_path hl hsy hry path _ v cur.toList hshv hrr hp
        obtain ⟨m1, m2⟩ := hs.set hlv hblk (cur.toList.take (poff C _ path) ++ (a.eval y).cells.toList ++ cur.toList.drop (poff C _ path + C.sz T')).toArray (.obj _ (setPath (ev env y) v path)) (by
          rw [h1]
          refine ⟨rfl, s1, _, t, setRow_heap w b cur _ _ (0, 0) hh, ?_⟩
          exact s2.mono (fun c hc => setRow_other w b c _ fun e => hs.out id b hlv hblk (e ▸ hc)) (fun _ h => h) σ fun _ _ => rfl)
        refine ⟨_, _, _, h, undef, _, F, σ, .inr ⟨?_, rfl⟩, m1, m2, fun _ _ => rfl, fun k hk => by simp at hk, .u, List.length_set .., hlen S id _ hlv fun _ h => h⟩
        simp [execOp, ho, hpv, z2, Sem.run_bind, pure, Sem.run]
      | pa h1 => rw [h1] at hb; exact hb.elim
    · rename_i e xs hS
      split at h <;> try (cases h; done)
      rename_i n e' ys hu hz
      split at h <;> try (cases h; done)
      rename_i hcond
      obtain ⟨rfl, rfl⟩ := hcond
      have hlv : live S id := by unfold live; rw [hS]; simp
      rw [hS] at hb
      generalize hpv : a.eval x = p at hr
      cases hr with
      | p h1 h2 => rw [h1] at hb; exact hb.elim
      | pa h1 =>
        rename_i b o1 n c e1
        have hblk : (σ id).blk = some b := by rw [h1]; rfl
        rw [h1] at hb
        obtain ⟨he1, rfl, hc, cur, t, hh, hzz, cells, hxs⟩ := hb
        subst he1
        obtain ⟨zs, hyg⟩ : ∃ zs, ev env y = .g zs := by
          cases hd : C.P.depth with
          | zero => rw [hd] at hz; simp [fz] at hz
          | succ d =>
            rw [hd] at hz
            unfold fz at hz
            rw [hu] at hz
            split at hz <;> try (simp at hz; done)
            all_goals first
              | exact ⟨_, by assumption⟩
              | (rename_i hx _; simp at hx)
              | (cases hz; done)
              | skip
        rw [hyg] at hz hy
        obtain ⟨cs, hya, hry⟩ := hy.g_inv
        obtain ⟨f1, f2⟩ := fz_more hl hs hz hry
        rw [more_nil] at f2
        obtain ⟨g1, g2, cells2, g3⟩ := row_of_g hl f1 hu f2
        have hsh : Sh C T' (.g ys) := f1.1
        have hvr : VR C w F noSig (.g ys) (a.eval y) := by rw [hya]; exact .agg f2
        have hszT := lay_array hl hu
        have hle : o1 + C.sz T' ≤ cur.size := by
          have : xs.length * C.sz e1 ≤ c * C.sz e1 := Nat.mul_le_mul_right _ hc
          rw [hszT]
          omega
        obtain ⟨z1, z2⟩ := isAgg_store hl hsh hvr hh hle
        have hcells : (a.eval y).cells.toList = cs := by rw [hya]; rfl
        rw [hcells] at z1 z2
        obtain ⟨m1, m2⟩ := hs.set hlv hblk (cur.toList.take o1 ++ cs ++ cur.toList.drop (o1 + C.sz T')).toArray (.arr _ ys) (by
          rw [h1]
          have hFk : ∀ c, F c → (w.setRow b (cur.toList.take o1 ++ cs ++ cur.toList.drop (o1 + C.sz T')).toArray).heap[c]? = w.heap[c]? := fun c hc => setRow_other w b c _ fun e => hs.out id b hlv hblk (e ▸ hc)
          have hl1 : (cur.toList.take o1).length = o1 := by rw [List.length_take]; simp; omega
          have hrg : (w.setRow b (cur.toList.take o1 ++ cs ++ cur.toList.drop (o1 + C.sz T')).toArray).rangeAt b o1 cs := rangeAt_set hh fun j v hv => by
            have hj := getElem?_lt hv
            rw [List.getElem?_toArray, List.append_assoc, List.getElem?_append, hl1, if_neg (by omega), List.getElem?_append, if_pos (by omega), Nat.add_sub_cancel_left]
            exact hv
          refine ⟨rfl, g1.symm, by omega, _, t, setRow_heap w b cur _ t (0, 0) hh, by simp only [List.size_toArray, List.length_append, hl1, List.length_drop, Array.length_toList, z1]; omega, cells2, fun j v hv => ?_⟩
          obtain ⟨q1, q2, q3, q4⟩ := g3 j v hv
          exact ⟨q1, q2.mono hFk (fun _ h => h) noSig (fun _ _ => rfl), q3, rangeAt_part hrg q4⟩)
        refine ⟨_, _, _, h, undef, _, F, σ, .inr ⟨?_, rfl⟩, m1, m2, fun _ _ => rfl, fun k hk => by simp at hk, .u, List.length_set .., hlen S id _ hlv fun _ h => h⟩
        simp [execOp, ho, hpv, z2, Sem.run_bind, pure, Sem.run]
    · cases h
  · rename_i id idx path ex
    rw [ex] at hx
    have hr := hx.one_inv (by simp) (by simp) (by simp)
    have hb := hs.blk id
    split at h <;> try (cases h; done)
    rename_i e xs hS
    split at h <;> try (cases h; done)
    rename_i hcond
    obtain ⟨hp, hsh⟩ := hcond
    split at h <;> try (cases h; done)
    rename_i z hz
    split at h <;> try (cases h; done)
    rename_i hnid
    have hsy := sh_of hsh
    have hlv : live S id := by unfold live; rw [hS]; simp
    have hry := hy.cells hsy
    rw [hS] at hb
    generalize hpv : a.eval x = p at hr
    cases hr with
    | q h1 h2 h3 =>
      rename_i b o1 n c e1 T3
      have hblk : (σ id).blk = some b := by rw [h1]; rfl
      have hb0 := hb
      rw [h1] at hb
      obtain ⟨rfl, rfl, hA⟩ := hb
      obtain ⟨cs, w1, w2, w3, w4, w5⟩ := elem_at hA h2
      rw [w2] at hz
      obtain ⟨cs', r1, r2, r3, r4⟩ := path_at hl path _ T' _ cs w1.1 (noSig_mono w3 σ) hp
      obtain ⟨s1, s2⟩ := set_path hl hsy hry path _ _ cs w1.1 (noSig_mono w3 σ) hp
      obtain ⟨f1, f2⟩ := fz_more hl hs hz s2
      obtain ⟨n1, n2⟩ := hs.open_ z.2
      obtain ⟨hc, cur, t, hh, hzz, cells, hxs⟩ := hA
      have hidx : o1 + idx * C.sz e1 + C.sz e1 ≤ o1 + c * C.sz e1 := by
        have : (idx + 1) * C.sz e1 ≤ c * C.sz e1 := Nat.mul_le_mul_right _ (by omega)
        rw [Nat.add_mul] at this
        omega
      obtain ⟨z1, z2⟩ := isAgg_store hl hsy hy hh (o := o1 + idx * C.sz e1 + poff C e1 path) (by omega)
      have hlv1 : live (kill z.2 S) id := by
        unfold live
        rw [getD_kill, hnid]
        exact hlv
      have hcsl : (cs.take (poff C e1 path) ++ (a.eval y).cells.toList ++ cs.drop (poff C e1 path + C.sz T')).length = C.sz e1 := by
        simp only [List.length_append, List.length_take, List.length_drop]
        omega
      have hcur : ∀ j, j < C.sz e1 → cur[o1 + idx * C.sz e1 + j]? = cs[j]? := fun j hj => by
        obtain ⟨v, hv⟩ := getElem?_of_lt (l := cs) (j := j) (by omega)
        have := w5 j v hv
        rw [hv]
        simpa [World.cell?, hh] using this
      -- the row behind the store
      obtain ⟨new, hnew⟩ : ∃ new, new = (cur.toList.take (o1 + idx * C.sz e1 + poff C e1 path) ++ (a.eval y).cells.toList ++ cur.toList.drop (o1 + idx * C.sz e1 + poff C e1 path + C.sz T')).toArray := ⟨_, rfl⟩
      have hget : ∀ i, new[i]? = if i < o1 + idx * C.sz e1 + poff C e1 path then cur[i]? else if i < o1 + idx * C.sz e1 + poff C e1 path + C.sz T' then (a.eval y).cells.toList[i - (o1 + idx * C.sz e1 + poff C e1 path)]? else cur[i]? := fun i => by
        have hl1 : (cur.toList.take (o1 + idx * C.sz e1 + poff C e1 path)).length = o1 + idx * C.sz e1 + poff C e1 path := by rw [List.length_take]; simp; omega
        rw [hnew, List.getElem?_toArray, List.append_assoc, List.getElem?_append, hl1]
        split
        · rename_i hi
          rw [List.getElem?_take, if_pos hi, Array.getElem?_toList]
        · rename_i hi
          rw [List.getElem?_append, z1]
          by_cases hi2 : i < o1 + idx * C.sz e1 + poff C e1 path + C.sz T'
          · rw [if_pos (by omega), if_pos hi2]
          · rw [if_neg (by omega), if_neg hi2, List.getElem?_drop, Array.getElem?_toList]
            congr 1
            omega
      have hsize : new.size = cur.size := by
        rw [hnew]
        simp only [List.size_toArray, List.length_append, List.length_take, List.length_drop, Array.length_toList, z1]
        omega
      rw [← hnew] at z2
      obtain ⟨m1, m2⟩ := n1.set hlv1 hblk new (.arr e1 (xs.set idx z.1)) (by
        rw [h1]
        refine ⟨rfl, by simp, by simpa using hc, new, t, setRow_heap w b cur _ t (0, 0) hh, by rw [hsize]; exact hzz, fun j => if j = idx then cs.take (poff C e1 path) ++ (a.eval y).cells.toList ++ cs.drop (poff C e1 path + C.sz T') else cells j, fun j v hv => ?_⟩
        have hFk : ∀ c, more F σ S z.2 c → (w.setRow b new).heap[c]? = w.heap[c]? := fun c hc => setRow_other w b c _ fun e => n1.out id b hlv1 hblk (e ▸ hc)
        by_cases ej : j = idx
        · subst ej
          rw [List.getElem?_set_self h2] at hv
          obtain rfl := Option.some.inj hv
          dsimp only
          rw [if_pos rfl]
          refine ⟨f1, f2.mono hFk (fun _ h => h) noSig (fun _ _ => rfl), hcsl, rangeAt_set hh fun i u hu => ?_⟩
          have hi := getElem?_lt hu
          rw [hcsl] at hi
          have hl2 : (cs.take (poff C e1 path)).length = poff C e1 path := by rw [List.length_take]; omega
          rw [List.append_assoc, List.getElem?_append, hl2] at hu
          rw [hget]
          by_cases i1 : i < poff C e1 path
          · rw [if_pos i1, List.getElem?_take, if_pos i1] at hu
            rw [if_pos (by omega), hcur i hi, hu]
          · rw [if_neg i1, List.getElem?_append, z1] at hu
            by_cases i2 : i - poff C e1 path < C.sz T'
            · rw [if_pos i2] at hu
              rw [if_neg (by omega), if_pos (by omega), ← hu]
              congr 1
              omega
            · rw [if_neg i2, List.getElem?_drop] at hu
              rw [if_neg (by omega), if_neg (by omega), hcur i hi, ← hu]
              congr 1
              omega
        · rw [List.getElem?_set_ne (Ne.symm ej)] at hv
          dsimp only
          rw [if_neg ej]
          obtain ⟨q1, q2, q3, q4⟩ := hxs j v hv
          have hj := getElem?_lt hv
          refine ⟨q1, (q2.keepF (fun _ h => .inl h)).mono hFk (fun _ h => h) noSig (fun _ _ => rfl), q3, rangeAt_new hh q4 fun i hi => ?_⟩
          rw [q3] at hi
          rw [hget]
          rcases Nat.lt_or_gt_of_ne ej with q | q
          · have : (j + 1) * C.sz e1 ≤ idx * C.sz e1 := Nat.mul_le_mul_right _ q
            rw [Nat.add_mul] at this
            rw [if_pos (by omega)]
          · have : (idx + 1) * C.sz e1 ≤ j * C.sz e1 := Nat.mul_le_mul_right _ q
            rw [Nat.add_mul] at this
            rw [if_neg (by omega), if_neg (by omega)])
      refine ⟨_, _, _, h, undef, _, _, σ, .inr ⟨?_, rfl⟩, m1, n2.trans m2, fun _ _ => rfl, fun k hk b' hkl hkb => ⟨Or.inr ⟨k, hk, hkl, hkb⟩, setRow_other w b b' _ fun eb => ?_⟩, .u, by rw [List.length_set, kill_length], hlen _ id _ hlv1 fun j hj => by rw [getD_kill, hj]; simp⟩
      · simp [execOp, ho, hpv, z2, Sem.run_bind, pure, Sem.run]
      · have := hs.inj k id b' hkl hlv hkb (by rw [hblk, eb])
        subst this
        rw [List.contains_eq_mem] at hnid
        simp at hnid
        exact hnid hk
  · cases h
end
end Go.Proofs.Ytfnepeilccainaa.Den

/- Proved here: single operations do what the evaluator says: addresses of parts, parts, new variables, function values, lengths. Its condition: the program's type table is laid as the check 'layB' tells. -/
namespace Go.Proofs.Ytfnepeilccainaa.Den
open Go
set_option linter.unusedVariables false
set_option linter.unusedSimpArgs false
section
variable {C : Cfg}
theorem pty_append : ∀ (p q : List Nat) (T s : TypeId), pty C T p = some s → pty C T (p ++ q) = pty C s q ∧ poff C T (p ++ q) = poff C T p + poff C s q
  | [], q, T, s, h => by
    simp only [pty, Option.some.injEq] at h
    subst h
    simp [poff]
  | j :: p, q, T, s, h => by
    simp only [pty] at h
    split at h
    · rename_i fs hu
      split at h
      · rename_i f hf
        obtain ⟨h1, h2⟩ := pty_append p q f.type s h
        simp only [List.cons_append, pty, poff, hu, hf]
        exact ⟨h1, by rw [h2]; omega⟩
      · cases h
    · cases h
theorem field_one {s j T' : Nat} (h : pty C s [j] = some T') : ∃ fs f, C.und s = some (.struct fs) ∧ fs[j]? = some f ∧ T' = f.type ∧ poff C s [j] = f.offset := by
  simp only [pty] at h
  split at h
  · rename_i fs hu
    split at h
    · rename_i f hf
      simp only [Option.some.injEq] at h
      exact ⟨fs, f, hu, hf, h.symm, by simp [poff, hu, hf]⟩
    · cases h
  · cases h
theorem fieldAt_ok {w : World} {s j T' b off : Nat} (h : pty C s [j] = some T') (hn : C.P.cellsOf T' ≠ 0) : (Instr.fieldAt s (.pointer (some ⟨b, off, none⟩)) j).run C.P w = .ok (.pointer (some ⟨b, off + poff C s [j], none⟩)) w := by
  obtain ⟨fs, f, hu, hf, rfl, ho⟩ := field_one h
  rw [ho]
  unfold Program.cellsOf at hn
  cases hi : C.P.info? f.type with
  | none => rw [hi] at hn; simp at hn
  | some i =>
    rw [hi] at hn
    simp only [Option.map_some, Option.getD_some] at hn
    have hsz : (sizeOf f.type).run C.P w = .ok i.size w := by simp [sizeOf, typeInfo, hi, Sem.run_bind, pure, Sem.run]
    simp [Instr.fieldAt, Sem.run_bind, run_underlying (und_P hu) w, hf, Instr.sureAddr, fieldPlace, hsz, hn, Addr.add_mid, pure, Sem.run]
theorem pok_pty {T : TypeId} {path : List Nat} (h : pok C T path = true) : ∃ T', pty C T path = some T' ∧ C.P.cellsOf T' ≠ 0 := by
  unfold pok at h
  split at h
  · rename_i T' hp
    exact ⟨T', hp, by simpa using h⟩
  · cases h
variable {F : Nat → Prop} {σ : Sig} {S : List Blk} {w : World} {env : List AV} {a : Act} {o : Oper} {slot : Nat} {α : Type} {K : KV α} {out : α}
theorem ok_fieldAddr (hl : layB C = true) {s j : Nat} {x : Operand} (hs : Sim C F σ S w) (he : EnvR C w F σ env a.tmps) (ho : o.op = .fieldAddr s x j) (h : opD C S env slot K o.op = some out) : ∃ v S' ks, K v S' ks = some out ∧ OpOk C o F σ S w a slot v S' ks := by
  rw [ho] at h
  simp only [opD] at h
  have hx := ev_ok he x
  split at h
  · rename_i id path ex
    rw [ex] at hx
    have hr := hx.one_inv (by simp) (by simp) (by simp)
    have hb := hs.blk id
    split at h <;> try (cases h; done)
    rename_i T v hS
    split at h <;> try (cases h; done)
    rename_i hcond
    obtain ⟨hp, hk⟩ := hcond
    rw [hS] at hb
    generalize hpv : a.eval x = p at hr
    cases hr with
    | p h1 h2 =>
      rw [h1] at hb
      obtain ⟨rfl, _⟩ := hb
      obtain ⟨T2, h3, h4⟩ := pok_pty hk
      obtain ⟨q1, q2⟩ := pty_append path [j] _ s hp
      have h5 := h3
      rw [q1] at h5
      refine ⟨_, _, _, h, OpOk.still hs (val := .pointer (some ⟨_, poff C _ (path ++ [j]), none⟩)) ?_ (.one (by simp) (.p h1 h3))⟩
      rw [q2]
      simp [execOp, ho, hpv, fieldAt_ok h5 h4, Sem.run_bind, pure, Sem.run]
    | pa h1 => rw [h1] at hb; exact hb.elim
  · rename_i id idx path ex
    rw [ex] at hx
    have hr := hx.one_inv (by simp) (by simp) (by simp)
    have hb := hs.blk id
    split at h <;> try (cases h; done)
    rename_i e xs hS
    split at h <;> try (cases h; done)
    rename_i hcond
    obtain ⟨hp, hk⟩ := hcond
    rw [hS] at hb
    generalize hpv : a.eval x = p at hr
    cases hr with
    | q h1 h2 h3 =>
      rw [h1] at hb
      obtain ⟨rfl, rfl, _⟩ := hb
      obtain ⟨T2, h4, h5⟩ := pok_pty hk
      obtain ⟨q1, q2⟩ := pty_append path [j] _ s hp
      have h6 := h4
      rw [q1] at h6
      refine ⟨_, _, _, h, OpOk.still hs ?_ (.one (by simp) (.q h1 h2 h4))⟩
      rw [q2]
      simp [execOp, ho, hpv, fieldAt_ok h6 h5, Sem.run_bind, pure, Sem.run, Nat.add_assoc]
  · rename_i T v ex
    split at h <;> try (cases h; done)
    rename_i hcond
    obtain ⟨rfl, hk⟩ := hcond
    obtain ⟨T2, h4, h5⟩ := pok_pty hk
    rw [h4] at h
    rw [ex] at hx
    have hr := hx.one_inv (by simp) (by simp) (by simp)
    generalize hpv : a.eval x = p at hr
    obtain ⟨fs, f, hu, hf, rfl, hof⟩ := field_one h4
    cases hr with
    | «at» g1 g2 g3 g4 g5 =>
      rename_i b o1 cs
      obtain ⟨as, css, rfl, rfl, P⟩ := g2.1.parts hu g5
      obtain ⟨c, d, hc, hd⟩ := P.at_ hf
      obtain ⟨cs', r1, r2, r3, r4⟩ := path_at hl [j] T f.type _ _ g2.1 g5 h4
      have hfl : (AV.g as).fld j = c := fld_at hc
      have hgp : getPath (AV.g as) [j] = c := by simp [getPath, hfl]
      rw [hgp] at r1 r2
      rw [hfl] at h
      refine ⟨_, _, _, h, OpOk.still hs (val := .pointer (some ⟨b, o1 + poff C T [j], none⟩)) ?_ (.one (by simp) (.at (cs := cs') g1 (g2.field hu hf hc) ?_ ?_ r1))⟩
      · simp [execOp, ho, hpv, fieldAt_ok h4 h5, Sem.run_bind, pure, Sem.run]
      · rw [r4]
        exact rangeAt_sub g3 _ _
      · rw [r4, List.length_take, List.length_drop]
        omega
  · cases h
theorem part_ok (hl : layB C = true) {w : World} {F : Nat → Prop} {σ : Sig} {T : TypeId} {v : AV} {cs c : List Value} {off : Nat} (hs : Sh C T v) (hr : R C w F σ v c) (hc : c = (cs.drop off).take (C.sz T)) (hle : off + C.sz T ≤ cs.length) : ∃ val, VR C w F σ v val ∧ (part T cs.toArray off).run C.P w = .ok val w := by
  have hlen := sh_len hl hs hr
  have row : ∀ d, C.und T = some d → d.isRow = true → (∃ fs, v = .g fs) → ∃ val, VR C w F σ v val ∧ (part T cs.toArray off).run C.P w = .ok val w := by
    rintro d hu hd ⟨fs, rfl⟩
    refine ⟨.agg c.toArray, .agg hr, ?_⟩
    have hagg : (isAgg T).run C.P w = .ok true w := by
      unfold isAgg
      rw [Sem.run_bind, run_underlying (und_P hu) w]
      cases d <;> simp_all
    have hi := sz_info hu
    cases hq : C.P.info? T with
    | none => rw [hq] at hi; cases hi
    | some i =>
      rw [hq] at hi
      simp only [Option.map_some, Option.some.injEq] at hi
      simp [part, Sem.run_bind, hagg, sizeOf, typeInfo, hq, hi, pure, Sem.run]
      rw [hc]
  have one : ∀ d, C.und T = some d → d.isRow = false → (∀ fs, v ≠ .g fs) → (∃ u, c = [u]) → ∃ val, VR C w F σ v val ∧ (part T cs.toArray off).run C.P w = .ok val w := by
    rintro d hu hd ha ⟨u, rfl⟩
    refine ⟨u, .one ha hr, ?_⟩
    have hagg : (isAgg T).run C.P w = .ok false w := by
      unfold isAgg
      rw [Sem.run_bind, run_underlying (und_P hu) w]
      cases d <;> simp_all
    have hget : cs[off]? = some u := by
      have := congrArg (·[0]?) hc
      simp only [List.getElem?_cons_zero] at this
      rw [List.getElem?_take, if_pos (by simp at hlen; omega), List.getElem?_drop] at this
      simpa using this.symm
    simp [part, Sem.run_bind, hagg, hget, pure, Sem.run]
  cases hs with
  | g hu => exact row _ hu rfl ⟨_, rfl⟩
  | ga hu => exact row _ hu rfl ⟨_, rfl⟩
  | _ hu => exact one _ hu rfl (by simp) (by cases hr <;> exact ⟨_, rfl⟩)
theorem ok_field (hl : layB C = true) {s j : Nat} {x : Operand} (hs : Sim C F σ S w) (he : EnvR C w F σ env a.tmps) (ho : o.op = .field s x j) (h : opD C S env slot K o.op = some out) : ∃ v S' ks, K v S' ks = some out ∧ OpOk C o F σ S w a slot v S' ks := by
  rw [ho] at h
  simp only [opD] at h
  have hx := ev_ok he x
  split at h <;> try (cases h; done)
  rename_i hcond
  obtain ⟨hsh, hp⟩ := hcond
  obtain ⟨T', hp⟩ := Option.isSome_iff_exists.mp hp
  obtain ⟨fs, f, hu, hf, rfl, hof⟩ := field_one hp
  have hsx := sh_of hsh
  have hrx := hx.cells hsx
  obtain ⟨as, css, hg, hcs, P⟩ := hsx.parts hu hrx
  rw [hg] at hx hrx hsx h
  obtain ⟨cs, hv, hrc⟩ := hx.g_inv
  obtain ⟨cs', r1, r2, r3, r4⟩ := path_at hl [j] s f.type _ _ hsx hrc hp
  have hgp : getPath (AV.g as) [j] = (AV.g as).fld j := rfl
  rw [hgp] at r1 r2
  obtain ⟨val, hval, hrun⟩ := part_ok hl r2 r1 r4 r3
  refine ⟨_, _, _, h, OpOk.still hs (val := val) ?_ hval⟩
  rw [hof] at hrun
  simp [execOp, ho, hv, Instr.field, Sem.run_bind, run_underlying (und_P hu) w, hf, asAgg, hrun, pure, Sem.run]
theorem run_sizeOf {w : World} {T : TypeId} {d : TypeDesc} (h : C.und T = some d) : (sizeOf T).run C.P w = .ok (C.sz T) w := by
  have hi := sz_info h
  cases hq : C.P.info? T with
  | none => rw [hq] at hi; cases hi
  | some i =>
    rw [hq] at hi
    simp only [Option.map_some, Option.some.injEq] at hi
    simp [sizeOf, typeInfo, hq, hi, Sem.run_bind, pure, Sem.run]
theorem sh_und {T : TypeId} {x : AV} (h : Sh C T x) : ∃ d, C.und T = some d := by cases h <;> exact ⟨_, by assumption⟩
theorem indexAt_slice {w : World} {T e : TypeId} {d : TypeDesc} (hu : C.und T = some (.slice e)) (hd : C.und e = some d) {k : IntKind} {n : Int} {b off len cap : Nat} (h0 : 0 ≤ n) (h1 : n < (len : Int)) : (Instr.indexAt T (.slice (some ⟨b, off, none⟩) len cap) (.int k n)).run C.P w = .ok (.pointer (some ⟨b, off + n.toNat * C.sz e, none⟩)) w := by
  simp [Instr.indexAt, Sem.run_bind, asIntOf, run_underlying (und_P hu) w, pure, Sem.run, h0, h1, run_sizeOf hd, Addr.add_mid]
theorem ok_indexAddr (hl : layB C = true) {T : TypeId} {x ix : Operand} (hs : Sim C F σ S w) (he : EnvR C w F σ env a.tmps) (ho : o.op = .indexAddr T x ix) (h : opD C S env slot K o.op = some out) : ∃ v S' ks, K v S' ks = some out ∧ OpOk C o F σ S w a slot v S' ks := by
  rw [ho] at h
  simp only [opD] at h
  have hx := ev_ok he x
  have hi := ev_ok he ix
  split at h <;> try (cases h; done)
  rename_i k n eix
  rw [eix] at hi
  have hiv := hi.i_inv
  split at h
  · rename_i e' e xs hu ex
    split at h <;> try (cases h; done)
    rename_i hee
    subst hee
    split at h <;> try (cases h; done)
    rename_i hn
    rw [ex] at hx
    have hr := hx.one_inv (by simp) (by simp) (by simp)
    have hj : n.toNat < xs.length := by omega
    obtain ⟨y, hy⟩ := getElem?_of_lt (l := xs) hj
    have e1 : xs.getD n.toNat .u = y := by simp [List.getD_eq_getElem?_getD, hy]
    generalize hpv : a.eval x = p at hr
    cases hr with
    | l0 => simp at hn; omega
    | l cells h1 h2 h3 h4 =>
      obtain ⟨q1, q2, q3⟩ := h3 _ y hy
      obtain ⟨d, hd⟩ := sh_und q1.1
      rw [e1, q1.2] at h
      refine ⟨_, _, _, h, OpOk.still hs ?_ (.one (by simp) (.at h1 q1 q2 q3 (h4 _ y hy)))⟩
      simp [execOp, ho, hpv, hiv, indexAt_slice hu hd hn.1 hn.2, Sem.run_bind, pure, Sem.run]
  · rename_i e' e id hu ex
    split at h <;> try (cases h; done)
    rename_i hee
    subst hee
    split at h <;> try (cases h; done)
    rename_i e2 xs hS
    split at h <;> try (cases h; done)
    rename_i hn
    rw [ex] at hx
    have hr := hx.one_inv (by simp) (by simp) (by simp)
    have hb := hs.blk id
    rw [hS] at hb
    generalize hpv : a.eval x = p at hr
    cases hr with
    | w h1 h2 h3 =>
      rw [h1] at hb
      obtain ⟨rfl, rfl, hA⟩ := hb
      obtain ⟨cs, w1, w2, w3, w4, w5⟩ := elem_at hA (j := n.toNat) (by omega)
      obtain ⟨d, hd⟩ := sh_und w1.1
      have hq := R.q (C := C) (w := w) (F := F) (σ := σ) (idx := n.toNat) (path := []) h1 (by omega) rfl
      simp only [poff, Nat.add_zero] at hq
      refine ⟨_, _, _, h, OpOk.still hs ?_ (.one (by simp) hq)⟩
      simp [execOp, ho, hpv, hiv, indexAt_slice hu hd hn.1 hn.2, Sem.run_bind, pure, Sem.run]
    | w0 h1 =>
      rw [h1] at hb
      simp only [BlkAt] at hb
      subst hb
      simp at hn
      omega
  · rename_i e' e id off len hu ex
    split at h <;> try (cases h; done)
    rename_i hee
    subst hee
    split at h <;> try (cases h; done)
    rename_i e2 xs hS
    split at h <;> try (cases h; done)
    rename_i hn
    rw [ex] at hx
    have hr := hx.one_inv (by simp) (by simp) (by simp)
    have hb := hs.blk id
    rw [hS] at hb
    generalize hpv : a.eval x = p at hr
    cases hr with
    | r h1 h2 h3 h4 =>
      rw [h1] at hb
      obtain ⟨rfl, rfl, hA⟩ := hb
      obtain ⟨cs, w1, w2, w3, w4, w5⟩ := elem_at hA (j := off + n.toNat) (by omega)
      obtain ⟨d, hd⟩ := sh_und w1.1
      have hq := R.q (C := C) (w := w) (F := F) (σ := σ) (idx := off + n.toNat) (path := []) h1 (by omega) rfl
      simp only [poff, Nat.add_zero] at hq
      rw [Nat.add_mul, ← Nat.add_assoc] at hq
      refine ⟨_, _, _, h, OpOk.still hs ?_ (.one (by simp) hq)⟩
      simp [execOp, ho, hpv, hiv, indexAt_slice hu hd hn.1 hn.2, Sem.run_bind, pure, Sem.run]
    | r0 => simp at hn; omega
  · rename_i m e' id hu ex
    split at h <;> try (cases h; done)
    rename_i e xs hS
    split at h <;> try (cases h; done)
    rename_i hcond
    obtain ⟨rfl, rfl⟩ := hcond
    split at h <;> try (cases h; done)
    rename_i hn
    rw [ex] at hx
    have hr := hx.one_inv (by simp) (by simp) (by simp)
    have hb := hs.blk id
    rw [hS] at hb
    generalize hpv : a.eval x = p at hr
    cases hr with
    | p h1 h2 => rw [h1] at hb; exact hb.elim
    | pa h1 =>
      rw [h1] at hb
      obtain ⟨rfl, rfl, hA⟩ := hb
      obtain ⟨cs, w1, w2, w3, w4, w5⟩ := elem_at hA (j := n.toNat) (by omega)
      obtain ⟨d, hd⟩ := sh_und w1.1
      have hq := R.q (C := C) (w := w) (F := F) (σ := σ) (idx := n.toNat) (path := []) h1 (by omega) rfl
      simp only [poff, Nat.add_zero] at hq
      refine ⟨_, _, _, h, OpOk.still hs ?_ (.one (by simp) hq)⟩
      simp [execOp, ho, hpv, hiv, Instr.indexAt, Sem.run_bind, asIntOf, run_underlying (und_P hu) w, Instr.sureAddr, pure, Sem.run, hn.1, hn.2, run_sizeOf hd, Addr.add_mid]
  · cases h
theorem ok_index (hl : layB C = true) {T : TypeId} {x ix : Operand} (hs : Sim C F σ S w) (he : EnvR C w F σ env a.tmps) (ho : o.op = .index T x ix) (h : opD C S env slot K o.op = some out) : ∃ v S' ks, K v S' ks = some out ∧ OpOk C o F σ S w a slot v S' ks := by
  rw [ho] at h
  simp only [opD] at h
  have hx := ev_ok he x
  have hi := ev_ok he ix
  split at h <;> try (cases h; done)
  rename_i k n eix
  rw [eix] at hi
  have hiv := hi.i_inv
  split at h
  · rename_i s hu ex
    split at h <;> try (cases h; done)
    rename_i hn
    rw [ex] at hx
    have hxv := hx.s_inv
    refine ⟨_, _, _, h, OpOk.still hs (val := .int .u8 ((s.data.getD n.toNat 0).toNat : Int)) ?_ (.one (by simp) .i)⟩
    have hj : n.toNat < s.size := by omega
    have hget : s[n.toNat]? = some (s.data.getD n.toNat 0) := by
      rw [getElem?_pos s n.toNat hj]
      congr 1
      show s.data[n.toNat]'hj = _
      rw [Array.getD_eq_getD_getElem?, Array.getElem?_eq_getElem hj]
      rfl
    simp [execOp, ho, hxv, hiv, Instr.index, Sem.run_bind, asIntOf, run_underlying (und_P hu) w, hn.1, hget, pure, Sem.run]
  · rename_i m e fs hu ex
    split at h <;> try (cases h; done)
    rename_i gs hz
    split at h <;> try (cases h; done)
    rename_i hn
    rw [ex] at hx
    obtain ⟨cs, hxv, hrc⟩ := hx.g_inv
    obtain ⟨f1, f2⟩ := fz_more hl hs hz hrc
    rw [more_nil] at f2
    obtain ⟨g1, g2, cells, g3⟩ := row_of_g hl f1 hu f2
    obtain ⟨y, hy⟩ := getElem?_of_lt (l := gs) (j := n.toNat) (by omega)
    obtain ⟨q1, q2, q3, q4⟩ := g3 _ y hy
    obtain ⟨d, hd⟩ := sh_und q1.1
    have e1 : gs.getD n.toNat .u = y := by simp [List.getD_eq_getElem?_getD, hy]
    rw [e1, q1.2] at h
    have hmul : (n.toNat + 1) * C.sz e ≤ m * C.sz e := Nat.mul_le_mul_right _ (by omega)
    rw [Nat.add_mul] at hmul
    obtain ⟨val, hval, hrun⟩ := part_ok hl (w := w) (cs := cs) (off := n.toNat * C.sz e) q1.1 (noSig_mono q2 σ) q4.symm (by omega)
    refine ⟨_, _, _, h, OpOk.still hs (val := val) ?_ hval⟩
    simp [execOp, ho, hxv, hiv, Instr.index, Sem.run_bind, asIntOf, run_underlying (und_P hu) w, hn.1, hn.2, run_sizeOf hd, hrun, pure, Sem.run]
  · cases h
theorem isOne_R {w : World} {F : Nat → Prop} {σ : Sig} {x : AV} {v : Value} (h : VR C w F σ x v) (h1 : isOne x = true) : R C w F σ x [v] := by
  refine h.one_inv (fun fs e => ?_) (fun e => ?_) fun vs e => ?_ <;> (subst e; simp [isOne] at h1)
theorem ok_makeFunc {fn : FuncId} {x y : Array Operand} (hs : Sim C F σ S w) (he : EnvR C w F σ env a.tmps) (ho : o.op = .makeFunc (.func fn) x y) (h : opD C S env slot K o.op = some out) : ∃ v S' ks, K v S' ks = some out ∧ OpOk C o F σ S w a slot v S' ks := by
  rw [ho] at h
  simp only [opD] at h
  split at h <;> try (cases h; done)
  rename_i hc
  rw [Bool.and_eq_true, List.all_eq_true, List.all_eq_true] at hc
  have key : ∀ (l : List Operand), (∀ v ∈ l.map (ev env), isOne v = true) → ∀ (j : Nat) b c, (l.map (ev env))[j]? = some b → (l.map a.eval)[j]? = some c → R C w F σ b [c] := fun l hl j b c hb hc => by
    have hm := hl b (List.mem_of_getElem? hb)
    rw [List.getElem?_map] at hb hc
    cases hj : l[j]? with
    | none => rw [hj] at hb; cases hb
    | some q =>
      rw [hj] at hb hc
      simp only [Option.map_some, Option.some.injEq] at hb hc
      subst hb hc
      exact isOne_R (ev_ok he q) hm
  refine ⟨_, _, _, h, OpOk.still hs (val := .func (.func fn) (x.toList.map a.eval).toArray (y.toList.map a.eval).toArray) ?_ (.one (by simp) (.fn _ _ (by simp) (by simp) (key _ hc.1) (key _ hc.2)))⟩
  have ex : ∀ z : Array Operand, (z.toList.map a.eval).toArray = z.map a.eval := fun z => by rw [← Array.toList_map, Array.toArray_toList]
  rw [ex, ex]
  simp [execOp, ho, Instr.makeFunc, Sem.run_bind, pure, Sem.run]
end
end Go.Proofs.Ytfnepeilccainaa.Den

/- Proved here: values compared. Its condition: the program's type table is laid as the check 'layB' tells. -/
namespace Go.Proofs.Ytfnepeilccainaa.Den
open Go
set_option linter.unusedVariables false
set_option linter.unusedSimpArgs false
section
variable {C : Cfg} {F : Nat → Prop} {σ : Sig} {S : List Blk} {w : World} {env : List AV} {a : Act} {o : Oper} {slot : Nat} {α : Type} {K : KV α} {out : α}
theorem ite_some' {α : Type} {c : Prop} [Decidable c] {x : Option α} {y : α} (h : (if c then x else none) = some y) : c ∧ x = some y := by
  by_cases q : c
  · rw [if_pos q] at h; exact ⟨q, h⟩
  · rw [if_neg q] at h; cases h
theorem fields_ok {d d' : Nat} {xs ys : Array Value} (ih : ∀ (T : TypeId) x y r, eqA C d T x y = some r → ∀ vx vy, Sh C T x → Sh C T y → VR C w F σ x vx → VR C w F σ y vy → (Op.equalIn d' T vx vy).run C.P w = .ok r w) : ∀ (fs : List Field) (as cs : List AV) (r : Bool), eqL (eqA C d) fs as cs = some r →
    (∀ (j : Nat) (f : Field) a c, fs[j]? = some f → as[j]? = some a → cs[j]? = some c → Sh C f.type a ∧ Sh C f.type c ∧ ∃ va vc, VR C w F σ a va ∧ VR C w F σ c vc ∧ (part f.type xs f.offset).run C.P w = .ok va w ∧ (part f.type ys f.offset).run C.P w = .ok vc w) → (Op.eqFields d' xs ys fs).run C.P w = .ok r w
  | [], [], [], r, h, _ => by
    simp only [eqL, Option.some.injEq] at h
    subst h
    rfl
  | f :: fs, a :: as, c :: cs, r, h, H => by
    simp only [eqL] at h
    split at h
    · cases h
    · rename_i hn
      obtain ⟨h0, e0, h⟩ := Option.bind_eq_some_iff.mp h
      obtain ⟨r0, e1, h⟩ := Option.bind_eq_some_iff.mp h
      simp only [Option.some.injEq] at h
      subst h
      obtain ⟨s1, s2, va, vc, v1, v2, p1, p2⟩ := H 0 f a c rfl rfl rfl
      have hh := ih f.type a c h0 e0 va vc s1 s2 v1 v2
      have hr := fields_ok (xs := xs) (ys := ys) ih fs as cs r0 e1 fun j f' a' c' hf ha hc => H (j + 1) f' a' c' (by simpa using hf) (by simpa using ha) (by simpa using hc)
      simp only [Op.eqFields]
      rw [if_pos hn]
      simp only [Sem.run_bind, p1, p2, hh, Result.andThen_ok]
      cases h0
      · simp
      · simpa using hr
  | [], [], _ :: _, r, h, _ => by simp [eqL] at h
  | [], _ :: _, _, r, h, _ => by simp [eqL] at h
  | _ :: _, [], _, r, h, _ => by simp [eqL] at h
  | _ :: _, _ :: _, [], r, h, _ => by simp [eqL] at h
theorem items_ok {d d' c0 : Nat} {e : TypeId} {xs ys : Array Value} (ih : ∀ x y r, eqA C d e x y = some r → ∀ vx vy, Sh C e x → Sh C e y → VR C w F σ x vx → VR C w F σ y vy → (Op.equalIn d' e vx vy).run C.P w = .ok r w) : ∀ (as cs : List AV) (i : Nat) (r : Bool), eqI (eqA C d e) as cs = some r →
    (∀ (j : Nat) a c, as[j]? = some a → cs[j]? = some c → Sh C e a ∧ Sh C e c ∧ ∃ va vc, VR C w F σ a va ∧ VR C w F σ c vc ∧ (part e xs ((i + j) * c0)).run C.P w = .ok va w ∧ (part e ys ((i + j) * c0)).run C.P w = .ok vc w) → (Op.eqItems d' e c0 xs ys (List.range' i as.length)).run C.P w = .ok r w
  | [], [], i, r, h, _ => by
    simp only [eqI, Option.some.injEq] at h
    subst h
    rfl
  | a :: as, c :: cs, i, r, h, H => by
    simp only [eqI] at h
    obtain ⟨h0, e0, h⟩ := Option.bind_eq_some_iff.mp h
    obtain ⟨r0, e1, h⟩ := Option.bind_eq_some_iff.mp h
    simp only [Option.some.injEq] at h
    subst h
    obtain ⟨s1, s2, va, vc, v1, v2, p1, p2⟩ := H 0 a c rfl rfl
    have hh := ih a c h0 e0 va vc s1 s2 v1 v2
    have hr := items_ok (c0 := c0) (xs := xs) (ys := ys) ih as cs (i + 1) r0 e1 fun j a' c' ha hc => by
      have := H (j + 1) a' c' (by simpa using ha) (by simpa using hc)
      rw [show i + (j + 1) = i + 1 + j by omega] at this
      exact this
    rw [List.length_cons, List.range'_succ, Op.eqItems]
    rw [Nat.add_zero] at p1 p2
    simp only [Sem.run_bind, p1, p2, hh, Result.andThen_ok]
    cases h0
    · simp
    · simpa using hr
  | [], _ :: _, i, r, h, _ => by simp [eqI] at h
  | _ :: _, [], i, r, h, _ => by simp [eqI] at h
theorem eq_ok (hl : layB C = true) : ∀ (d : Nat) (T : TypeId) (x y : AV) (r : Bool), eqA C d T x y = some r → ∀ d', d ≤ d' → ∀ vx vy, Sh C T x → Sh C T y → VR C w F σ x vx → VR C w F σ y vy → (Op.equalIn d' T vx vy).run C.P w = .ok r w
  | 0, T, x, y, r, h => by simp [eqA] at h
  | d + 1, T, x, y, r, h => by
    intro d' hd vx vy hsx hsy hx hy
    obtain ⟨d', rfl⟩ : ∃ k, d' = k + 1 := ⟨d' - 1, by omega⟩
    unfold eqA at h
    split at h
    · rename_i k k1 a k2 c hu
      simp only [Option.some.injEq] at h
      subst h
      rw [hx.i_inv, hy.i_inv]
      have e1 : k1 = k := by
        cases hsx with
        | i hu' => rw [hu] at hu'; cases hu'; rfl
      have e2 : k2 = k := by
        cases hsy with
        | i hu' => rw [hu] at hu'; cases hu'; rfl
      subst e1 e2
      exact run_equalIn_int w d' T _ _ a c (und_P hu)
    · rename_i a c hu
      simp only [Option.some.injEq] at h
      subst h
      rw [hx.b_inv, hy.b_inv]
      exact run_equalIn_bool' w d' T a c (und_P hu)
    · rename_i a c hu
      simp only [Option.some.injEq] at h
      subst h
      rw [hx.s_inv, hy.s_inv]
      exact run_equalIn_string w d' T a c (und_P hu)
    · rename_i fs as cs hu
      obtain ⟨hst, h⟩ := ite_some' h
      obtain ⟨cx, rfl, hrx⟩ := hx.g_inv
      obtain ⟨cy, rfl, hry⟩ := hy.g_inv
      have hP := und_P hu
      have hfo : C.P.fieldsOf T = fs := by simp [Program.fieldsOf, hP]
      obtain ⟨as', css, e1, e2, PX⟩ := hsx.parts hu hrx
      obtain rfl := AV.g.inj e1
      obtain ⟨cs', cst, e3, e4, PY⟩ := hsy.parts hu hry
      obtain rfl := AV.g.inj e3
      rw [run_equalIn_struct w d' T _ _ (by rw [hfo]; exact hP) hst, hfo]
      refine fields_ok (fun T x y r h vx vy s1 s2 v1 v2 => eq_ok hl d T x y r h d' (by omega) vx vy s1 s2 v1 v2) fs.toList as cs r h fun j f a c hf ha hc => ?_
      rw [Array.getElem?_toList] at hf
      have get : ∀ {zs : List AV} {cz : List Value}, Sh C T (.g zs) → R C w F σ (.g zs) cz → ∀ z, zs[j]? = some z → Sh C f.type z ∧ ∃ v, VR C w F σ z v ∧ (part f.type cz.toArray f.offset).run C.P w = .ok v w := fun {zs cz} hz hrz z hzj => by
        have hp : pty C T [j] = some f.type := by simp only [pty, hu, hf]
        obtain ⟨c', r1, r2, r3, r4⟩ := path_at hl [j] T f.type _ _ hz hrz hp
        have hgp : getPath (AV.g zs) [j] = z := fld_at hzj
        rw [hgp] at r1 r2
        have hof : poff C T [j] = f.offset := by simp only [poff, hu, hf, Nat.add_zero]
        rw [hof] at r3 r4
        obtain ⟨v, q1, q2⟩ := part_ok hl r2 r1 r4 r3
        exact ⟨r2, v, q1, q2⟩
      obtain ⟨s1, va, v1, p1⟩ := get hsx hrx a ha
      obtain ⟨s2, vc, v2, p2⟩ := get hsy hry c hc
      exact ⟨s1, s2, va, vc, v1, v2, p1, p2⟩
    · rename_i n e as cs hu
      obtain ⟨cx, rfl, hrx⟩ := hx.g_inv
      obtain ⟨cy, rfl, hry⟩ := hy.g_inv
      have hP := und_P hu
      have hshp : ∀ {zs : List AV}, Sh C T (.g zs) → zs.length = n ∧ ∀ (j : Nat) z, zs[j]? = some z → Sh C e z := fun {zs} hz => by
        cases hz with
        | g hu' => rw [hu] at hu'; cases hu'
        | ga hu' h1 h2 => rw [hu] at hu'; cases hu'; exact ⟨h1, h2⟩
      obtain ⟨hn, h⟩ := ite_some' h
      · obtain ⟨a0, ha0⟩ := getElem?_of_lt (l := as) (j := 0) (by have := (hshp hsx).1; omega)
        obtain ⟨de, hde⟩ := sh_und ((hshp hsx).2 0 a0 ha0)
        have hi := sz_info hde
        cases hq : C.P.info? e with
        | none => rw [hq] at hi; cases hi
        | some inf =>
          rw [run_equalIn_array w d' _ _ hP hq, List.range_eq_range', ← (hshp hsx).1]
          refine items_ok (fun x y r h vx vy s1 s2 v1 v2 => eq_ok hl d e x y r h d' (by omega) vx vy s1 s2 v1 v2) as cs 0 r h fun j a c ha hc => ?_
          have get : ∀ {zs : List AV} {cz : List Value}, Sh C T (.g zs) → R C w F σ (.g zs) cz → ∀ z, zs[j]? = some z → Sh C e z ∧ ∃ v, VR C w F σ z v ∧ (part e cz.toArray ((0 + j) * C.P.cellsOf e)).run C.P w = .ok v w := fun {zs cz} hz hrz z hzj => by
            obtain ⟨hzn, hze⟩ := hshp hz
            cases hrz with
            | g css h1 h2 =>
              have hjl := getElem?_lt hzj
              obtain ⟨c1, hc1⟩ := getElem?_of_lt (l := css) (j := j) (by omega)
              have hlen : ∀ (i : Nat) c, css[i]? = some c → c.length = C.sz e := fun i c hci => by
                obtain ⟨zi, hzi⟩ := getElem?_of_lt (l := zs) (j := i) (by have := getElem?_lt hci; omega)
                exact sh_len hl (hze i zi hzi) (h2 i zi c hzi hci)
              obtain ⟨f1, f2⟩ := flat_at css (List.replicate css.length (C.sz e)) (by simp) fun i c m hci hm => by
                rw [hlen i c hci]
                rw [List.getElem?_replicate] at hm
                split at hm <;> simp_all
              have f3 := f2 j c1 hc1
              have hsum : ((List.replicate css.length (C.sz e)).take j).sum = j * C.sz e := by
                rw [List.take_replicate, List.sum_replicate_nat, Nat.min_eq_left (by omega)]
              rw [hsum, hlen j c1 hc1] at f3
              have htot : css.flatten.length = css.length * C.sz e := by rw [f1, List.sum_replicate_nat]
              have hmul : (j + 1) * C.sz e ≤ css.length * C.sz e := Nat.mul_le_mul_right _ (by omega)
              rw [Nat.add_mul] at hmul
              obtain ⟨v, q1, q2⟩ := part_ok hl (w := w) (cs := css.flatten) (off := j * C.sz e) (hze j z hzj) (h2 j z c1 hzj hc1) f3.symm (by omega)
              refine ⟨hze j z hzj, v, q1, ?_⟩
              rw [Nat.zero_add]
              exact q2
          obtain ⟨s1, va, v1, p1⟩ := get hsx hrx a ha
          obtain ⟨s2, vc, v2, p2⟩ := get hsy hry c hc
          exact ⟨s1, s2, va, vc, v1, v2, p1, p2⟩
    · cases h
theorem ok_bin (hl : layB C = true) {op : BinOp} {T yT : TypeId} {x y : Operand} (hs : Sim C F σ S w) (he : EnvR C w F σ env a.tmps) (ho : o.op = .binOp op T x y yT) (h : opD C S env slot K o.op = some out) : ∃ v S' ks, K v S' ks = some out ∧ OpOk C o F σ S w a slot v S' ks := by
  rw [ho] at h
  simp only [opD] at h
  have hx := ev_ok he x
  have hy := ev_ok he y
  have run : ∀ val, (binOp op T (a.eval x) (a.eval y)).run C.P w = .ok val w → ((∃ k n, a.eval x = .int k n) ∨ (∃ s, a.eval x = .string s) ∨ (∃ s, a.eval x = .bool s) ∨ (∃ p, a.eval x = .pointer p)) → (execOp a.eval o).run C.P w = .ok (.value val) w := by
    intro val hb hc
    have hg : (eqGuard op T x y (a.eval x) (a.eval y)).run C.P w = .ok () w := by
      unfold eqGuard
      rcases hc with ⟨k, n, hc⟩ | ⟨s, hc⟩ | ⟨s, hc⟩ | ⟨s, hc⟩ <;> rw [hc] <;> (cases op <;> simp [pure, Sem.run])
    simp [execOp, ho, Sem.run_bind, hg, hb, pure, Sem.run]
  have fin : ∀ (v : AV) (val : Value), K v S [] = some out → (∀ fs, v ≠ .g fs) → R C w F σ v [val] → (binOp op T (a.eval x) (a.eval y)).run C.P w = .ok val w → ((∃ k n, a.eval x = .int k n) ∨ (∃ s, a.eval x = .string s) ∨ (∃ s, a.eval x = .bool s) ∨ (∃ p, a.eval x = .pointer p)) → ∃ v S' ks, K v S' ks = some out ∧ OpOk C o F σ S w a slot v S' ks :=
    fun v val hK hn hR hb hc => ⟨v, S, [], hK, OpOk.still hs (run val hb hc) (.one hn hR)⟩
  unfold binD at h
  split at h
  · rename_i k n k' m ex ey
    rw [ex] at hx
    rw [ey] at hy
    have hx := hx.i_inv
    have hy := hy.i_inv
    have hc : (∃ k n, a.eval x = .int k n) ∨ (∃ s, a.eval x = .string s) ∨ (∃ s, a.eval x = .bool s) ∨ (∃ p, a.eval x = .pointer p) := .inl ⟨_, _, hx⟩
    cases op
    case shl =>
      simp only at h
      split at h
      · rename_i h0
        exact fin _ _ h (by simp) .i (by rw [hx, hy]; simp [binOp, Op.shift, show ¬ m < 0 by omega, pure, Sem.run]) hc
      · cases h
    case shr =>
      simp only at h
      split at h
      · rename_i h0
        exact fin _ _ h (by simp) .i (by rw [hx, hy]; simp [binOp, Op.shift, show ¬ m < 0 by omega, pure, Sem.run]) hc
      · cases h
    case quo =>
      simp only at h
      split at h
      · rename_i hk
        subst hk
        split at h
        · rename_i h0
          exact fin _ _ h (by simp) .i (by rw [hx, hy]; simp [binOp, Op.intDiv, h0, pure, Sem.run]) hc
        · cases h
      · cases h
    case rem =>
      simp only at h
      split at h
      · rename_i hk
        subst hk
        split at h
        · rename_i h0
          exact fin _ _ h (by simp) .i (by rw [hx, hy]; simp [binOp, Op.intDiv, h0, pure, Sem.run]) hc
        · cases h
      · cases h
    all_goals
      simp only [cmpI] at h
      split at h
      · rename_i hk
        subst hk
        first
          | exact fin _ _ h (by simp) .i (by rw [hx, hy]; simp [binOp, Op.intArith, Op.intBits, pure, Sem.run]) hc
          | exact fin _ _ h (by simp) .b (by rw [hx, hy]; simp [binOp, Op.intCmp, pure, Sem.run]) hc
      · cases h
  · rename_i s t ex ey
    rw [ex] at hx
    rw [ey] at hy
    have hx := hx.s_inv
    have hy := hy.s_inv
    have hc : (∃ k n, a.eval x = .int k n) ∨ (∃ s, a.eval x = .string s) ∨ (∃ s, a.eval x = .bool s) ∨ (∃ p, a.eval x = .pointer p) := .inr (.inl ⟨_, hx⟩)
    cases op
    case add =>
      simp only at h
      split at h
      · rename_i h0
        refine fin _ _ h (by simp) .s ?_ hc
        rw [hx, hy]
        have : ¬ (((s.size + t.size : Nat) : Int) > IntKind.i64.max) := by
          have : IntKind.i64.max = 9223372036854775807 := by decide
          omega
        simp only [binOp, Op.stringOp]
        rw [if_neg this]
        rfl
      · cases h
    all_goals
      simp only [cmpS] at h
      first
        | (cases h; done)
        | exact fin _ _ h (by simp) .b (by rw [hx, hy]; simp [binOp, Op.stringOp, pure, Sem.run]) hc
  · rename_i s t ex ey
    rw [ex] at hx
    rw [ey] at hy
    have hx := hx.b_inv
    have hy := hy.b_inv
    have hc : (∃ k n, a.eval x = .int k n) ∨ (∃ s, a.eval x = .string s) ∨ (∃ s, a.eval x = .bool s) ∨ (∃ p, a.eval x = .pointer p) := .inr (.inr (.inl ⟨_, hx⟩))
    split at h
    · rename_i hu
      refine fin _ _ h (by simp) .b ?_ hc
      rw [hx, hy]
      simp [binOp, Op.equal, Op.maxDepth, Sem.run_bind, run_equalIn_bool' (w := w) 9999 T s t (und_P hu), pure, Sem.run]
    · rename_i hu
      refine fin _ _ h (by simp) .b ?_ hc
      rw [hx, hy]
      simp [binOp, Op.equal, Op.maxDepth, Sem.run_bind, run_equalIn_bool' (w := w) 9999 T s t (und_P hu), pure, Sem.run]
    · cases h
  · rename_i as cs ex ey
    obtain ⟨hck, h⟩ := ite_some' h
    unfold eqck at hck
    simp only [Bool.and_eq_true, Bool.not_eq_true', decide_eq_true_eq] at hck
    obtain ⟨⟨⟨k1, k2⟩, k3⟩, k4⟩ := hck
    rw [ex] at hx
    rw [ey] at hy
    obtain ⟨vx, ex', _⟩ := hx.g_inv
    obtain ⟨vy, ey', _⟩ := hy.g_inv
    have hrun : ∀ r, eqA C C.P.depth T (.g as) (.g cs) = some r → (Op.equal T (a.eval x) (a.eval y)).run C.P w = .ok r w := fun r hr => eq_ok hl _ _ _ _ _ hr _ k4 _ _ (sh_sound _ _ _ k1) (sh_sound _ _ _ k2) hx hy
    have hguard : (eqGuard op T x y (a.eval x) (a.eval y)).run C.P w = .ok () w := by
      rw [ex', ey']
      unfold eqGuard
      cases op <;> simp [Sem.run_bind, k3, pure, Sem.run]
    split at h
    · rename_i r hr _
      refine ⟨.b r, S, [], h, OpOk.still hs (val := .bool r) ?_ (.one (by simp) .b)⟩
      have := hrun r hr
      rw [ex', ey'] at this hguard
      simp [execOp, ho, Sem.run_bind, ex', ey', hguard, binOp, this, pure, Sem.run]
    · rename_i r hr _
      refine ⟨.b (!r), S, [], h, OpOk.still hs (val := .bool (!r)) ?_ (.one (by simp) .b)⟩
      have := hrun r hr
      rw [ex', ey'] at this hguard
      simp [execOp, ho, Sem.run_bind, ex', ey', hguard, binOp, this, pure, Sem.run]
    · cases h
  · rename_i i pa j pb ex ey
    have hq := ite_some' h
    clear h
    obtain ⟨⟨rfl, rfl⟩, h⟩ := hq
    rw [ex] at hx
    rw [ey] at hy
    have hrx := hx.one_inv (by simp) (by simp) (by simp)
    have hry := hy.one_inv (by simp) (by simp) (by simp)
    obtain ⟨ad, e1, e2⟩ : ∃ ad, a.eval x = .pointer (some ad) ∧ a.eval y = .pointer (some ad) := by
      generalize a.eval x = vx at hrx
      generalize a.eval y = vy at hry
      cases hrx with
      | p h1 h2 =>
        cases hry with
        | p k1 k2 => rw [h1] at k1; cases k1; exact ⟨_, rfl, rfl⟩
        | pa k1 => rw [h1] at k1; cases k1
      | pa h1 =>
        cases hry with
        | p k1 k2 => rw [h1] at k1; cases k1
        | pa k1 => rw [h1] at k1; cases k1; exact ⟨_, rfl, rfl⟩
    have hinf : ∀ {e : TypeId}, (C.und e).isSome = true → ∃ j, C.P.info? e = some j := fun {e} he => by
      obtain ⟨d, hd⟩ := Option.isSome_iff_exists.mp he
      have := sz_info hd
      cases hj : C.P.info? e with
      | none => rw [hj] at this; cases this
      | some j => exact ⟨j, rfl⟩
    split at h
    · rename_i e hu
      obtain ⟨he', h⟩ := ite_some' h
      obtain ⟨j, hj⟩ := hinf he'
      refine fin _ _ h (by simp) .b ?_ (.inr (.inr (.inr ⟨_, e1⟩)))
      rw [e1, e2]
      exact run_eql_ptr_same w ad (und_P hu) hj
    · rename_i e hu
      obtain ⟨he', h⟩ := ite_some' h
      obtain ⟨j, hj⟩ := hinf he'
      refine fin _ _ h (by simp) .b ?_ (.inr (.inr (.inr ⟨_, e1⟩)))
      rw [e1, e2]
      exact Lib.run_neq_ptr_same w ad (und_P hu) hj
    · cases h
  · rename_i ey
    rw [ey] at hy
    have hy0 : a.eval y = .pointer none := by
      generalize a.eval y = ay at hy
      cases hy with
      | one h1 hr => cases hr; rfl
    have hnil : ∀ {e : TypeId} {h0 : Bool}, C.und T = some (.pointer e) → nilP (ev env x) = some h0 → ∃ p : Option Addr, a.eval x = .pointer p ∧ p.isNone = h0 := fun {e h0} hu hn => by
      generalize ev env x = ax at hx hn
      generalize a.eval x = vx at hx
      cases hx with
      | u => simp [nilP] at hn
      | agg => simp [nilP] at hn
      | t => simp [nilP] at hn
      | one h1 hr =>
        cases ax with
        | p id path => simp [nilP] at hn; subst hn; cases hr <;> exact ⟨_, rfl, rfl⟩
        | q id idx path => simp [nilP] at hn; subst hn; cases hr; exact ⟨_, rfl, rfl⟩
        | «at» T' y => simp [nilP] at hn; subst hn; cases hr; exact ⟨_, rfl, rfl⟩
        | z n =>
          cases n with
          | zero => simp [nilP] at hn; subst hn; cases hr; exact ⟨none, rfl, rfl⟩
          | succ n => simp [nilP] at hn
        | _ => simp [nilP] at hn
    split at h
    · rename_i e h0 hu hn
      obtain ⟨p, q1, q2⟩ := hnil hu hn
      refine fin _ _ h (by simp) .b ?_ (.inr (.inr (.inr ⟨p, q1⟩)))
      have hP := und_P hu
      rw [q1, hy0, run_eql_pointer_nil w T p (by rw [hP]; simp [Program.pointee, hP]), q2]
    · rename_i e h0 hu hn
      obtain ⟨p, q1, q2⟩ := hnil hu hn
      refine fin _ _ h (by simp) .b ?_ (.inr (.inr (.inr ⟨p, q1⟩)))
      have hP := und_P hu
      rw [q1, hy0, run_neq_pointer_nil w T p (by rw [hP]; simp [Program.pointee, hP]), q2]
    · cases h
  · cases h
end
end Go.Proofs.Ytfnepeilccainaa.Den

/- Proved here: single operations do what the evaluator says: new variables, lengths, slices cut. Its condition: the program's type table is laid as the check 'layB' tells. -/
namespace Go.Proofs.Ytfnepeilccainaa.Den
open Go
set_option linter.unusedVariables false
set_option linter.unusedSimpArgs false
section
variable {C : Cfg}
theorem zcells_R {w : World} {F : Nat → Prop} {σ : Sig} : ∀ (d : Nat) (x : AV) (cs : List Value), zcells d x = some cs → R C w F σ x cs
  | 0, x, cs, h => by simp [zcells] at h
  | d + 1, x, cs, h => by
    unfold zcells at h
    split at h
    · obtain rfl := Option.some.inj h; exact .i
    · obtain rfl := Option.some.inj h; exact .b
    · obtain rfl := Option.some.inj h; exact .s
    · obtain rfl := Option.some.inj h; exact .z0
    · obtain rfl := Option.some.inj h; exact .z1
    · obtain rfl := Option.some.inj h; exact .z2
    · obtain rfl := Option.some.inj h; exact .z3
    · obtain rfl := Option.some.inj h; exact .z4
    · rename_i fs
      have key : ∀ (fs : List AV) cs, fs.foldr (fun a o => (zcells d a).bind fun c => o.map fun r => c ++ r) (some []) = some cs → ∃ css : List (List Value), css.length = fs.length ∧ cs = css.flatten ∧ ∀ (j : Nat) a c, fs[j]? = some a → css[j]? = some c → R C w F σ a c := by
        intro fs
        induction fs with
        | nil =>
          intro cs h
          simp only [List.foldr_nil, Option.some.injEq] at h
          subst h
          exact ⟨[], rfl, rfl, fun j a c h => by simp at h⟩
        | cons f fs ih =>
          intro cs h
          simp only [List.foldr_cons] at h
          obtain ⟨c, h1, h⟩ := Option.bind_eq_some_iff.mp h
          obtain ⟨r, h2, rfl⟩ := Option.map_eq_some_iff.mp h
          obtain ⟨css, q1, q2, q3⟩ := ih r h2
          refine ⟨c :: css, by simp [q1], by simp [q2], fun j a b ha hb => ?_⟩
          cases j with
          | zero =>
            simp only [List.getElem?_cons_zero, Option.some.injEq] at ha hb
            subst ha hb
            exact zcells_R d _ _ h1
          | succ j =>
            simp only [List.getElem?_cons_succ] at ha hb
            exact q3 j a b ha hb
      obtain ⟨css, q1, rfl, q3⟩ := key fs cs h
      exact .g css q1 q3
    · cases h
theorem eqV_eq : ∀ a b : Value, eqV a b = true → a = b := by
  intro a b h
  unfold eqV at h
  split at h <;> try (cases h; done)
  all_goals first
    | rfl
    | (simp only [Bool.and_eq_true, beq_iff_eq] at h; obtain ⟨h1, h2⟩ := h; rw [h1, h2])
    | (simp only [beq_iff_eq] at h; rw [h])
    | (simp only [beq_iff_eq] at h; rename_i x y; cases x; cases y; simp only at h; congr 2; exact Array.toList_inj.mp h)
theorem eqVs_eq : ∀ as bs : List Value, eqVs as bs = true → as = bs
  | [], [], _ => rfl
  | a :: as, b :: bs, h => by
    simp only [eqVs, Bool.and_eq_true] at h
    rw [eqV_eq a b h.1, eqVs_eq as bs h.2]
  | [], _ :: _, h => by simp [eqVs] at h
  | _ :: _, [], h => by simp [eqVs] at h
/-- A type's zero. -/
theorem zck_ok {T : TypeId} (h : zck C T = true) : ∃ v, (∀ w, (zeroValue T).run C.P w = .ok v w) ∧ Sh C T (zero C C.P.depth T) ∧ ∀ w F σ, VR C w F σ (zero C C.P.depth T) v := by
  unfold zck at h
  split at h <;> try (cases h; done)
  rename_i v cs h1 h2
  simp only [Bool.and_eq_true] at h
  obtain ⟨⟨h3, h4⟩, h5⟩ := h
  have e := eqVs_eq _ _ h3
  refine ⟨v, fun w => ?_, sh_of h5, fun w F σ => ?_⟩
  · obtain ⟨i, hi, hz⟩ := Option.bind_eq_some_iff.mp h1
    simp [zeroValue, typeInfo, hi, hz, Sem.run_bind, pure, Sem.run]
  · have hr := zcells_R (C := C) (w := w) (F := F) (σ := σ) _ _ _ h2
    rw [e] at hr
    cases hz : zero C C.P.depth T <;> rw [hz] at hr h4
    case g fs =>
      cases v <;> simp only at h4 <;> try (cases h4; done)
      exact .agg hr
    all_goals
      cases v <;> simp only at h4 <;> try (cases h4; done)
      all_goals exact .one (by simp) hr
/-- A new variable. -/
theorem newVar_run {T : TypeId} {v : Value} {w : World} : (newVar T v).run C.P w = .ok ⟨w.heap.size, 0, none⟩ (w.alloc (.cells v.cells T)) := rfl
theorem alloc_heap (w : World) (ob : Obj) : (w.alloc ob).heap[w.heap.size]? = some ob := by
  show (w.heap.push ob)[w.heap.size]? = _
  simp
theorem alloc_keep (w : World) (ob : Obj) {b : Nat} (h : b < w.heap.size) : (w.alloc ob).heap[b]? = w.heap[b]? := by
  show (w.heap.push ob)[b]? = _
  rw [Array.getElem?_push, if_neg (by omega)]
structure Slot (σ : Sig) (S : List Blk) (slot : Nat) : Prop where
  lt : slot < S.length
  dead : S.getD slot .dead = .dead
  no : σ slot = .no
variable {F : Nat → Prop} {σ : Sig} {S : List Blk} {w : World} {env : List AV} {a : Act} {o : Oper} {slot : Nat} {α : Type} {K : KV α} {out : α}
theorem slot_rest {σ : Sig} {S : List Blk} {slot n : Nat} {B : Blk} {p : Place} (hn : 1 ≤ n) : ∀ j, (j < slot ∨ slot + n ≤ j) → S.getD j .dead = .dead → σ j = .no → (S.set slot B).getD j .dead = .dead ∧ σ.put slot p j = .no := fun j hj h1 h2 => by
  rw [getD_set_ne (by omega), put_ne (by omega)]
  exact ⟨h1, h2⟩
/-- A new variable of a type that is no array. -/
theorem ok_new (hs : Sim C F σ S w) (hsl : Slot σ S slot) (hn : slotsOf o.op = 1) {T : TypeId} {x : AV} {v : Value} (hsh : Sh C T x) (hv : VR C w F σ x v) (hrun : (execOp a.eval o).run C.P w = .ok (.value (.pointer (some ⟨w.heap.size, 0, none⟩))) (w.alloc (.cells v.cells T))) :
    OpOk C o F σ S w a slot (.p slot []) (S.set slot (.obj T x)) [] := by
  have hr := hv.cells hsh
  have hF : ∀ b, F b → (w.alloc (.cells v.cells T)).heap[b]? = w.heap[b]? := fun b hb => alloc_keep w _ (hs.fin b hb)
  obtain ⟨m1, m2⟩ := hs.alloc hsl.lt hsl.dead hsl.no (.cells v.cells T) (.obj T x) (.obj w.heap.size T) rfl ⟨rfl, hsh, v.cells, (), alloc_heap w _, hr.mono hF (fun _ h => h) _ (put_ext hsl.no)⟩
  refine ⟨_, _, F, _, .inl hrun, m1, m2, put_ext hsl.no, fun id h => by simp at h, .one (by simp) ?_, List.length_set .., by rw [hn]; exact slot_rest (Nat.le_refl 1)⟩
  have := R.p (C := C) (w := w.alloc (.cells v.cells T)) (F := F) (σ := σ.put slot (.obj w.heap.size T)) (id := slot) (path := []) put_self rfl
  simpa [poff] using this
/-- A new row out of an array's data. -/
theorem ok_newArr (hl : layB C = true) (hs : Sim C F σ S w) (hsl : Slot σ S slot) (hn : slotsOf o.op = 1) {T n e : TypeId} {ys : List AV} {cs : List Value} (hw : Wt C T (.g ys)) (hu : C.und T = some (.array n e)) (hu8 : ¬ isU8 C e = true) (hr : R C w F noSig (.g ys) cs) (hrun : (execOp a.eval o).run C.P w = .ok (.value (.pointer (some ⟨w.heap.size, 0, none⟩))) (w.alloc (.cells cs.toArray T))) :
    OpOk C o F σ S w a slot (.p slot []) (S.set slot (.arr e ys)) [] := by
  have hF : ∀ b, F b → (w.alloc (.cells cs.toArray T)).heap[b]? = w.heap[b]? := fun b hb => alloc_keep w _ (hs.fin b hb)
  obtain ⟨g1, g2, cells, g3⟩ := row_of_g hl hw hu hr
  have hrow : (w.alloc (.cells cs.toArray T)).rangeAt w.heap.size 0 cs := by
    have := rangeAt_row (alloc_heap w (.cells cs.toArray T))
    simpa using this
  obtain ⟨m1, m2⟩ := hs.alloc hsl.lt hsl.dead hsl.no (.cells cs.toArray T) (.arr e ys) (.arr w.heap.size 0 ys.length n e) rfl ⟨rfl, rfl, by omega, cs.toArray, ⟨T, fun h => absurd h hu8⟩, alloc_heap w _, by simp [g2], cells, fun j y hy => by
    obtain ⟨q1, q2, q3, q4⟩ := g3 j y hy
    exact ⟨q1, q2.mono hF (fun _ h => h) noSig (fun _ _ => rfl), q3, rangeAt_part hrow q4⟩⟩
  refine ⟨_, _, F, _, .inl hrun, m1, m2, put_ext hsl.no, fun id h => by simp at h, .one (by simp) (.pa put_self), List.length_set .., by rw [hn]; exact slot_rest (Nat.le_refl 1)⟩
theorem ok_alloc (hl : layB C = true) {T : TypeId} (hs : Sim C F σ S w) (hsl : Slot σ S slot) (ho : o.op = .alloc T) (h : opD C S env slot K o.op = some out) : ∃ v S' ks, K v S' ks = some out ∧ OpOk C o F σ S w a slot v S' ks := by
  have hn : slotsOf o.op = 1 := by rw [ho]; rfl
  rw [ho] at h
  simp only [opD] at h
  split at h <;> try (cases h; done)
  rename_i hz
  obtain ⟨v, hv1, hv2, hv3⟩ := zck_ok hz
  have hrun : (execOp a.eval o).run C.P w = .ok (.value (.pointer (some ⟨w.heap.size, 0, none⟩))) (w.alloc (.cells v.cells T)) := by
    simp [execOp, ho, Instr.alloc, Sem.run_bind, hv1, newVar_run, pure, Sem.run]
  split at h
  · rename_i n e hu
    split at h <;> try (cases h; done)
    rename_i xs hf
    obtain ⟨hu8, hf⟩ := ite_no hf
    obtain ⟨f1, f2⟩ := fz_more hl hs hf ((hv3 w F σ).cells hv2)
    rw [more_nil] at f2
    exact ⟨_, _, _, h, ok_newArr hl hs hsl hn f1 hu hu8 f2 (by simpa using hrun)⟩
  · exact ⟨_, _, _, h, ok_new hs hsl hn hv2 (hv3 w F σ) hrun⟩
theorem ok_box (hl : layB C = true) {T : TypeId} {x : Operand} (hs : Sim C F σ S w) (he : EnvR C w F σ env a.tmps) (hsl : Slot σ S slot) (ho : o.op = .box T x) (h : opD C S env slot K o.op = some out) : ∃ v S' ks, K v S' ks = some out ∧ OpOk C o F σ S w a slot v S' ks := by
  have hn : slotsOf o.op = 1 := by rw [ho]; rfl
  rw [ho] at h
  simp only [opD] at h
  have hx := ev_ok he x
  have hrun : (execOp a.eval o).run C.P w = .ok (.value (.pointer (some ⟨w.heap.size, 0, none⟩))) (w.alloc (.cells (a.eval x).cells T)) := by
    simp [execOp, ho, Instr.box, Sem.run_bind, newVar_run, pure, Sem.run]
  split at h
  · rename_i n e hu
    split at h <;> try (cases h; done)
    rename_i xs hf
    obtain ⟨hu8, hf⟩ := ite_no hf
    have hsx : ∃ zs, ev env x = .g zs := by
      cases hd : C.P.depth with
      | zero => rw [hd] at hf; simp [fz] at hf
      | succ d =>
        rw [hd] at hf
        unfold fz at hf
        rw [hu] at hf
        split at hf <;> try (simp at hf; done)
        all_goals first
          | exact ⟨_, by assumption⟩
          | (rename_i hx _; simp at hx)
          | (cases hf; done)
          | skip
    obtain ⟨zs, hzs⟩ := hsx
    rw [hzs] at hf hx
    obtain ⟨cs, hxv, hrc⟩ := hx.g_inv
    obtain ⟨f1, f2⟩ := fz_more hl hs hf hrc
    rw [more_nil] at f2
    exact ⟨_, _, _, h, ok_newArr hl hs hsl hn f1 hu hu8 f2 (by rw [hrun, hxv]; rfl)⟩
  · split at h <;> try (cases h; done)
    rename_i hsh
    exact ⟨_, _, _, h, ok_new hs hsl hn (sh_of hsh) hx hrun⟩
end
end Go.Proofs.Ytfnepeilccainaa.Den

/- Proved here: single operations do what the evaluator says: lengths, slices cut. Its condition: the program's type table is laid as the check 'layB' tells. -/
namespace Go.Proofs.Ytfnepeilccainaa.Den
open Go
set_option linter.unusedVariables false
set_option linter.unusedSimpArgs false
section
variable {C : Cfg}
variable {F : Nat → Prop} {σ : Sig} {S : List Blk} {w : World} {env : List AV} {a : Act} {o : Oper} {slot : Nat} {α : Type} {K : KV α} {out : α}
theorem call_builtin {b : Builtin} {args : Array Operand} {argTypes : Array TypeId} (ho : o.op = .call { callee := .builtin b, args, argTypes }) : execOp a.eval o = builtin b argTypes o.type (args.map fun | .const _ => true | _ => false) (args.map a.eval) := by
  unfold execOp
  rw [ho]
  rfl
theorem arr_one {α : Type} {l : Array α} {x : α} (h : l.toList = [x]) : l = #[x] := by
  rw [← Array.toArray_toList (xs := l), h]
/-- A slice's value has its length. -/
theorem elems_len (hs : Sim C F σ S w) {x : AV} {xs : List AV} {v : Value} (he : elems S x = some xs) (hr : R C w F σ x [v]) : ∃ ad cap, v = .slice ad xs.length cap ∧ xs.length ≤ cap := by
  cases x <;> simp only [elems] at he <;> try (cases he; done)
  case l e ys =>
    obtain rfl := Option.some.inj he
    cases hr with
    | l0 => exact ⟨_, _, rfl, Nat.zero_le _⟩
    | l cells h1 h2 h3 h4 => exact ⟨_, _, rfl, h2⟩
  case z n =>
    match n, he, hr with
    | 0, he, _ => simp at he
    | 1, he, hr =>
      simp only [Option.some.injEq] at he
      subst he
      cases hr
      exact ⟨_, _, rfl, Nat.zero_le _⟩
    | 8, he, hr =>
      simp only [Option.some.injEq] at he
      subst he
      cases hr
      exact ⟨_, _, rfl, Nat.zero_le _⟩
    | 2, he, _ | 3, he, _ | 4, he, _ | 5, he, _ | 6, he, _ | 7, he, _ => simp at he
    | n + 9, he, _ => simp at he
  case w e id =>
    have hb := hs.blk id
    cases hS : S.getD id .dead <;> rw [hS] at he hb <;> simp only at he <;> try (cases he; done)
    rename_i e2 ys
    obtain rfl := Option.some.inj he
    cases hr with
    | w h1 h2 h3 =>
      rw [h1] at hb
      obtain ⟨rfl, rfl, hA⟩ := hb
      exact ⟨_, _, rfl, h2⟩
    | w0 h1 =>
      rw [h1] at hb
      simp only [BlkAt] at hb
      subst hb
      exact ⟨_, _, rfl, Nat.zero_le _⟩
  case r e id off len =>
    have hb := hs.blk id
    cases hS : S.getD id .dead <;> rw [hS] at he hb <;> simp only at he <;> try (cases he; done)
    rename_i e2 ys
    obtain rfl := Option.some.inj he
    cases hr with
    | r h1 h2 h3 h4 =>
      rw [h1] at hb
      obtain ⟨rfl, rfl, hA⟩ := hb
      have : ((ys.drop off).take len).length = len := by simp; omega
      rw [this]
      exact ⟨_, _, rfl, h3⟩
    | r0 => exact ⟨_, 0, by simp; rfl, by simp⟩
theorem ok_len {args : Array Operand} {argTypes : Array TypeId} (hs : Sim C F σ S w) (he : EnvR C w F σ env a.tmps) (ho : o.op = .call { callee := .builtin .len, args, argTypes }) (h : opD C S env slot K o.op = some out) : ∃ v S' ks, K v S' ks = some out ∧ OpOk C o F σ S w a slot v S' ks := by
  rw [ho] at h
  simp only [opD] at h
  have ht : ∀ d, C.und ((argTypes[0]?).getD C.P.types.size) = some d → ∃ T, argTypes[0]? = some T ∧ C.und T = some d := fun d hd => by
    cases hq : argTypes[0]? with
    | none =>
      rw [hq] at hd
      have := und_lt hd
      simp at this
    | some T => rw [hq] at hd; exact ⟨T, rfl, hd⟩
  have run : ∀ (x : Operand) (T : TypeId) (d : TypeDesc) (n : Nat), args.toList = [x] → argTypes[0]? = some T → C.und T = some d → (Builtin.len_ argTypes o.type #[a.eval x]).run C.P w = .ok (goInt n) w → (execOp a.eval o).run C.P w = .ok (.value (.int .i64 (n : Int))) w := fun x T d n hx hT hd hl => by
    rw [call_builtin ho, arr_one hx]
    simp only [builtin, List.map_toArray, List.map_cons, List.map_nil]
    rw [Sem.run_bind]
    erw [hl]
    rfl
  split at h
  · rename_i x hu hx
    obtain ⟨T, hT, hd⟩ := ht _ hu
    split at h <;> try (cases h; done)
    rename_i s ex
    have hv := ev_ok he x
    rw [ex] at hv
    refine ⟨_, _, _, h, OpOk.still hs (run x T _ s.size hx hT hd ?_) (.one (by simp) .i)⟩
    simp [Builtin.len_, hT, hv.s_inv, Sem.run_bind, run_underlying (und_P hd) w, pure, Sem.run]
  · rename_i e x hu hx
    obtain ⟨T, hT, hd⟩ := ht _ hu
    have hv := ev_ok he x
    split at h
    · rename_i e2 id off len ex
      rw [ex] at hv
      have hr := hv.one_inv (by simp) (by simp) (by simp)
      generalize hpv : a.eval x = p at hr run
      have : ∃ ad cap, p = .slice ad len cap := by cases hr <;> exact ⟨_, _, rfl⟩
      obtain ⟨ad, cap, rfl⟩ := this
      refine ⟨_, _, _, h, OpOk.still hs (run x T _ len hx hT hd ?_) (.one (by simp) .i)⟩
      rw [hpv]
      simp [Builtin.len_, hT, Sem.run_bind, run_underlying (und_P hd) w, pure, Sem.run]
    · split at h <;> try (cases h; done)
      rename_i xs hel
      have hr := hv.one_inv (fun fs e => by rw [e] at hel; simp [elems] at hel) (fun e => by rw [e] at hel; simp [elems] at hel) (fun vs e => by rw [e] at hel; simp [elems] at hel)
      obtain ⟨ad, cap, hpv, _⟩ := elems_len hs hel hr
      refine ⟨_, _, _, h, OpOk.still hs (run x T _ xs.length hx hT hd ?_) (.one (by simp) .i)⟩
      rw [hpv]
      simp [Builtin.len_, hT, Sem.run_bind, run_underlying (und_P hd) w, pure, Sem.run]
  · rename_i n e x hu hx
    obtain ⟨T, hT, hd⟩ := ht _ hu
    refine ⟨_, _, _, h, OpOk.still hs (run x T _ n hx hT hd ?_) (.one (by simp) .i)⟩
    simp [Builtin.len_, hT, Sem.run_bind, run_underlying (und_P hd) w, pure, Sem.run]
  · cases h
/-- Where a slice is cut. -/
theorem cut_ok {isSlice : Bool} {len cap : Nat} {lo hi : Option Operand} {KK : Nat → Nat → Option α} (he : EnvR C w F σ env a.tmps) (hlc : len ≤ cap) (h : cut3 len (lo.map (ev env)) (hi.map (ev env)) KK = some out) : ∃ l h', KK l h' = some out ∧ l ≤ h' ∧ h' ≤ len ∧ (Instr.sliceBounds isSlice len cap (lo.map a.eval) (hi.map a.eval) none).run C.P w = .ok (l, h', cap) w := by
  have hb : ∀ (x : Operand) k (n : Int), ev env x = .i k n → a.eval x = .int k n := fun x k n hx => by
    have := ev_ok he x
    rw [hx] at this
    exact this.i_inv
  have bnd : ∀ (x : Operand) k (n : Int) (y : Nat) code, ev env x = .i k n → 0 ≤ n → n ≤ (y : Int) → (Instr.sliceBound (a.eval x) y code).run C.P w = .ok n.toNat w := fun x k n y code hx h0 h1 => by
    rw [hb x k n hx]
    simp [Instr.sliceBound, asIntOf, Sem.run_bind, pure, Sem.run, h0, h1]
  unfold cut3 at h
  cases lo with
  | none =>
    cases hi with
    | none => exact ⟨0, len, h, Nat.zero_le _, Nat.le_refl _, by simp [Instr.sliceBounds, Sem.run_bind, pure, Sem.run]⟩
    | some x =>
      simp only [Option.map_none, Option.map_some] at h ⊢
      cases hx : ev env x <;> rw [hx] at h <;> (try simp only at h) <;> try (cases h; done)
      rename_i k n
      split at h <;> try (cases h; done)
      rename_i hn
      refine ⟨0, n.toNat, h, Nat.zero_le _, by omega, ?_⟩
      simp [Instr.sliceBounds, Sem.run_bind, pure, Sem.run, bnd x k n cap _ hx hn.1 (by omega)]
  | some y =>
    cases hi with
    | none =>
      simp only [Option.map_none, Option.map_some] at h ⊢
      cases hy : ev env y <;> rw [hy] at h <;> (try simp only at h) <;> try (cases h; done)
      rename_i k n
      split at h <;> try (cases h; done)
      rename_i hn
      refine ⟨n.toNat, len, h, by omega, Nat.le_refl _, ?_⟩
      simp [Instr.sliceBounds, Sem.run_bind, pure, Sem.run, bnd y k n len _ hy hn.1 hn.2]
    | some x =>
      simp only [Option.map_some] at h ⊢
      cases hy : ev env y <;> rw [hy] at h <;> (try simp only at h) <;> try (cases h; done)
      rename_i k n
      cases hx : ev env x <;> rw [hx] at h <;> (try simp only at h) <;> try (cases h; done)
      rename_i k' m
      split at h <;> try (cases h; done)
      rename_i hm
      split at h <;> try (cases h; done)
      rename_i hn
      refine ⟨n.toNat, m.toNat, h, by omega, by omega, ?_⟩
      simp [Instr.sliceBounds, Sem.run_bind, pure, Sem.run, bnd x k' m cap _ hx hm.1 (by omega), bnd y k n m.toNat _ hy hn.1 (by omega)]
/-- A cut of a row. -/
theorem R.cut {w : World} {F : Nat → Prop} {σ : Sig} {e : TypeId} {xs : List AV} {ad : Option Addr} {cap : Nat} (h : R C w F σ (.l e xs) [.slice ad xs.length cap]) {l h' : Nat} (h1 : l ≤ h') (h2 : h' ≤ xs.length) : R C w F σ (.l e ((xs.take h').drop l)) [.slice (if cap = l then ad else ad.map (·.add (l * C.sz e))) (h' - l) (cap - l)] := by
  by_cases q : l = h'
  · subst q
    rw [List.drop_take, Nat.sub_self, List.take_zero]
    exact .l0
  · cases h with
    | l0 => simp at h2; omega
    | l cells g1 g2 g3 g4 =>
      rename_i b o
      have hget : ∀ (j : Nat) v, ((xs.take h').drop l)[j]? = some v → xs[l + j]? = some v := fun j v hv => by
        rw [List.getElem?_drop, List.getElem?_take] at hv
        split at hv
        · exact hv
        · cases hv
      have hlen : ((xs.take h').drop l).length = h' - l := by simp; omega
      rw [if_neg (by omega)]
      have := R.l (C := C) (w := w) (F := F) (σ := σ) (e := e) (xs := (xs.take h').drop l) (b := b) (o := o + l * C.sz e) (cap := cap - l) (fun j => cells (l + j)) g1 (by omega) (fun j v hv => by
        obtain ⟨q1, q2, q3⟩ := g3 _ v (hget j v hv)
        refine ⟨q1, ?_, q3⟩
        rw [show o + l * C.sz e + j * C.sz e = o + (l + j) * C.sz e by rw [Nat.add_mul]; omega]
        exact q2) (fun j v hv => g4 _ v (hget j v hv))
      rw [hlen] at this
      simpa [Addr.add_mid] using this
theorem R.w_inv {w : World} {F : Nat → Prop} {σ : Sig} {e id : Nat} {v : Value} (h : R C w F σ (.w e id) [v]) : (∃ b o n c cap, σ id = .arr b o n c e ∧ n ≤ cap ∧ cap ≤ c ∧ v = .slice (some ⟨b, o, none⟩) n cap) ∨ (σ id = .nil ∧ ∃ ad, (isU8 C e = true → ad = none) ∧ v = .slice ad 0 0) := by
  cases h with
  | w h1 h2 h3 => exact .inl ⟨_, _, _, _, _, h1, h2, h3, rfl⟩
  | w0 h1 h2 => exact .inr ⟨h1, _, h2, rfl⟩
theorem ok_slice {T : TypeId} {x : Operand} {lo hi mx : Option Operand} (hl : layB C = true) (hs : Sim C F σ S w) (he : EnvR C w F σ env a.tmps) (ho : o.op = .slice T x lo hi mx) (h : opD C S env slot K o.op = some out) : ∃ v S' ks, K v S' ks = some out ∧ OpOk C o F σ S w a slot v S' ks := by
  rw [ho] at h
  cases mx with
  | none =>
    simp only [opD] at h
    have hx := ev_ok he x
    have fin : ∀ (v : AV) (val : Value), K v S [] = some out → (∀ fs, v ≠ .g fs) → R C w F σ v [val] → (Instr.sliceAt T (a.eval x) (lo.map a.eval) (hi.map a.eval) none).run C.P w = .ok val w → ∃ v S' ks, K v S' ks = some out ∧ OpOk C o F σ S w a slot v S' ks :=
      fun v val hK hn hR hrun => ⟨v, S, [], hK, OpOk.still hs (by simp [execOp, ho, hrun, Sem.run_bind, pure, Sem.run]) (.one hn hR)⟩
    split at h
    · rename_i s hu ex
      rw [ex] at hx
      obtain ⟨l, h', hK, h1, h2, hb⟩ := cut_ok (isSlice := false) he (Nat.le_refl _) h
      refine fin _ _ hK (by simp) .s ?_
      rw [hx.s_inv]
      simp [Instr.sliceAt, Sem.run_bind, run_underlying (und_P hu) w, Instr.slice, hb, pure, Sem.run]
    · rename_i e' e xs hu ex
      split at h <;> try (cases h; done)
      rename_i hee
      obtain ⟨rfl, hde⟩ := hee
      obtain ⟨d, hd⟩ := Option.isSome_iff_exists.mp hde
      rw [ex] at hx
      have hr := hx.one_inv (by simp) (by simp) (by simp)
      obtain ⟨ad, cap, hpv, hlc⟩ := elems_len hs (x := .l e' xs) rfl hr
      obtain ⟨l, h', hK, h1, h2, hb⟩ := cut_ok (isSlice := true) he hlc h
      rw [hpv] at hr
      refine fin _ _ hK (by simp) (R.cut hr h1 h2) ?_
      rw [hpv]
      simp [Instr.sliceAt, Sem.run_bind, run_underlying (und_P hu) w, Instr.slice, hb, run_sizeOf hd, pure, Sem.run]
    · rename_i e' hu ex
      split at h <;> try (cases h; done)
      rename_i hde
      obtain ⟨d, hd⟩ := Option.isSome_iff_exists.mp hde
      rw [ex] at hx
      have hr := hx.one_inv (by simp) (by simp) (by simp)
      obtain ⟨l, h', hK, h1, h2, hb⟩ := cut_ok (isSlice := true) (cap := 0) he (Nat.le_refl _) h
      obtain rfl : l = 0 := by omega
      obtain rfl : h' = 0 := by omega
      generalize hpv : a.eval x = p at hr
      cases hr with
      | z1 =>
        refine fin _ (.slice none 0 0) hK (by simp) .z1 ?_
        rw [hpv]
        simp [Instr.sliceAt, Sem.run_bind, run_underlying (und_P hu) w, Instr.slice, hb, run_sizeOf hd, pure, Sem.run]
    · rename_i e' e id hu ex
      split at h <;> try (cases h; done)
      rename_i hee
      obtain ⟨rfl, hde⟩ := hee
      obtain ⟨d, hd⟩ := Option.isSome_iff_exists.mp hde
      split at h <;> try (cases h; done)
      rename_i e2 xs hS
      rw [ex] at hx
      have hr := hx.one_inv (by simp) (by simp) (by simp)
      obtain ⟨ad, cap, hpv, hlc⟩ := elems_len hs (x := .w e' id) (xs := xs) (by simp only [elems, hS]) hr
      obtain ⟨l, h', hK, h1, h2, hb⟩ := cut_ok (isSlice := true) he hlc h
      have hrun : (Instr.sliceAt T (a.eval x) (lo.map a.eval) (hi.map a.eval) none).run C.P w = .ok (.slice (if cap = l then ad else ad.map (·.add (l * C.sz e'))) (h' - l) (cap - l)) w := by
        rw [hpv]
        simp [Instr.sliceAt, Sem.run_bind, run_underlying (und_P hu) w, Instr.slice, hb, run_sizeOf hd, pure, Sem.run]
      have hB := hs.blk id
      rw [hS] at hB
      rcases hr.w_inv with ⟨b, o1, n, c, cap', g1, g2, g3, g4⟩ | ⟨g1, ad', _, g4⟩
      · rw [g1] at hB
        obtain ⟨rfl, hn, hA⟩ := hB
        rw [hpv] at g4
        simp only [Value.slice.injEq] at g4
        obtain ⟨rfl, _, rfl⟩ := g4
        by_cases q2 : cap = l
        · subst q2
          rw [if_pos rfl, Nat.sub_self] at hrun
          rw [show h' - cap = 0 by omega] at hrun hK
          exact fin _ _ hK (by simp) .r0 hrun
        · rw [if_neg q2] at hrun
          simp only [Option.map_some, Addr.add_mid] at hrun
          exact fin _ _ hK (by simp) (.r g1 (by omega) (by omega) (by omega)) hrun
      · rw [g1] at hB
        simp only [BlkAt] at hB
        subst hB
        rw [hpv] at g4
        simp only [Value.slice.injEq] at g4
        obtain ⟨rfl, _, rfl⟩ := g4
        obtain rfl : h' = 0 := by simpa using h2
        obtain rfl : l = 0 := by omega
        exact fin _ _ hK (by simp) .r0 hrun
    · rename_i e' e id off len hu ex
      split at h <;> try (cases h; done)
      rename_i hee
      obtain ⟨rfl, hde⟩ := hee
      obtain ⟨d, hd⟩ := Option.isSome_iff_exists.mp hde
      split at h <;> try (cases h; done)
      rename_i e2 xs hS
      rw [ex] at hx
      have hr := hx.one_inv (by simp) (by simp) (by simp)
      generalize hpv : a.eval x = p at hr fin
      cases hr with
      | r g1 g2 g3 g4 =>
        rename_i b o1 n c cap
        obtain ⟨l, h', hK, h1, h2, hb⟩ := cut_ok (isSlice := true) he g3 h
        have hrun : (Instr.sliceAt T (.slice (some ⟨b, o1 + off * C.sz e', none⟩) len cap) (lo.map a.eval) (hi.map a.eval) none).run C.P w = .ok (.slice (if cap = l then some ⟨b, o1 + off * C.sz e', none⟩ else some ⟨b, o1 + off * C.sz e' + l * C.sz e', none⟩) (h' - l) (cap - l)) w := by
          simp [Instr.sliceAt, Sem.run_bind, run_underlying (und_P hu) w, Instr.slice, hb, run_sizeOf hd, Addr.add_mid, pure, Sem.run]
        by_cases q2 : cap = l
        · subst q2
          rw [if_pos rfl, Nat.sub_self] at hrun
          rw [show h' - cap = 0 by omega] at hrun hK
          exact fin _ _ hK (by simp) .r0 hrun
        · rw [if_neg q2] at hrun
          have := R.r (C := C) (w := w) (F := F) (σ := σ) (off := off + l) (len := h' - l) (cap := cap - l) g1 (by omega) (by omega) (by omega)
          rw [Nat.add_mul, ← Nat.add_assoc] at this
          exact fin _ _ hK (by simp) this hrun
      | r0 =>
        rename_i ad
        obtain ⟨l, h', hK, h1, h2, hb⟩ := cut_ok (isSlice := true) (cap := 0) he (Nat.le_refl _) h
        obtain rfl : l = 0 := by omega
        obtain rfl : h' = 0 := by omega
        refine fin _ _ hK (by simp) (.r0 (ad := ad)) ?_
        simp [Instr.sliceAt, Sem.run_bind, run_underlying (und_P hu) w, Instr.slice, hb, run_sizeOf hd, pure, Sem.run]
    · rename_i n e' id hu ex
      split at h <;> try (cases h; done)
      rename_i e xs hS
      split at h <;> try (cases h; done)
      rename_i hee
      obtain ⟨rfl, rfl, hde⟩ := hee
      obtain ⟨d, hd⟩ := Option.isSome_iff_exists.mp hde
      rw [ex] at hx
      have hr := hx.one_inv (by simp) (by simp) (by simp)
      have hB := hs.blk id
      rw [hS] at hB
      generalize hpv : a.eval x = p at hr fin
      cases hr with
      | p g1 g2 => rw [g1] at hB; exact hB.elim
      | pa g1 =>
        rename_i b o1 n c e1
        rw [g1] at hB
        obtain ⟨he1, rfl, hA⟩ := hB
        subst he1
        have hc := hA.1
        obtain ⟨l, h', hK, h1, h2, hb⟩ := cut_ok (isSlice := false) he (Nat.le_refl _) h
        have hrun : (Instr.sliceAt T (.pointer (some ⟨b, o1, none⟩)) (lo.map a.eval) (hi.map a.eval) none).run C.P w = .ok (.slice (some (if xs.length = l then ⟨b, o1, none⟩ else ⟨b, o1 + l * C.sz e1, none⟩)) (h' - l) (xs.length - l)) w := by
          simp [Instr.sliceAt, Sem.run_bind, run_underlying (und_P hu) w, Instr.sureAddr, hb, run_sizeOf hd, Addr.add_mid, pure, Sem.run]
        by_cases q2 : xs.length = l
        · subst q2
          rw [if_pos rfl, Nat.sub_self] at hrun
          rw [show h' - xs.length = 0 by omega] at hrun hK
          exact fin _ _ hK (by simp) .r0 hrun
        · rw [if_neg q2] at hrun
          exact fin _ _ hK (by simp) (.r g1 (by omega) (by omega) (by omega)) hrun
    · cases h
  | some m =>
    cases lo with
    | some l => cases hi <;> simp [opD] at h
    | none =>
      cases hi with
      | none => simp [opD] at h
      | some y =>
        simp only [opD] at h
        have hx := ev_ok he x
        split at h <;> try (cases h; done)
        rename_i e' k1 n1 k2 n2 hu ey em
        split at h <;> try (cases h; done)
        rename_i hc
        obtain ⟨rfl, rfl, hel, hde⟩ := hc
        obtain ⟨d, hd⟩ := Option.isSome_iff_exists.mp hde
        obtain ⟨xs, hel⟩ := Option.isSome_iff_exists.mp hel
        have hr := hx.one_inv (fun fs e => by rw [e] at hel; simp [elems] at hel) (fun e => by rw [e] at hel; simp [elems] at hel) (fun vs e => by rw [e] at hel; simp [elems] at hel)
        obtain ⟨ad, cap, hpv, hlc⟩ := elems_len hs hel hr
        have hy := ev_ok he y
        rw [ey] at hy
        have hm := ev_ok he m
        rw [em] at hm
        refine ⟨_, _, _, h, OpOk.still hs (val := .slice ad 0 0) ?_ (.one (by simp) .z8)⟩
        simp [execOp, ho, hpv, hy.i_inv, hm.i_inv, Instr.sliceAt, Instr.sliceBounds, Instr.sliceBound, asIntOf, Sem.run_bind, run_underlying (und_P hu) w, Instr.slice, run_sizeOf hd, pure, Sem.run]
end
end Go.Proofs.Ytfnepeilccainaa.Den

/- Proved here: append does what the evaluator says. Its condition: the program's type table is laid as the check 'layB' tells. -/
namespace Go.Proofs.Ytfnepeilccainaa.Den
open Go
set_option linter.unusedVariables false
set_option linter.unusedSimpArgs false
section
variable {C : Cfg}
variable {F : Nat → Prop} {σ : Sig} {S : List Blk} {w : World} {env : List AV} {a : Act} {o : Oper} {slot : Nat} {α : Type} {K : KV α} {out : α}
/-- Elements that lie from an address on. -/
def RowV (C : Cfg) (w : World) (F : Nat → Prop) (e : TypeId) (xs : List AV) (ad : Option Addr) (cells : Nat → List Value) : Prop :=
  ∀ (j : Nat) x, xs[j]? = some x → Wt C e x ∧ R C w F noSig x (cells j) ∧ (cells j).length = C.sz e ∧ ∃ b o, ad = some ⟨b, o, none⟩ ∧ w.rangeAt b (o + j * C.sz e) (cells j)
theorem ArrAt.rowV {w : World} {F : Nat → Prop} {e : TypeId} {xs : List AV} {b o c : Nat} (h : ArrAt C w F e xs b o c) (off len : Nat) : ∃ cells, RowV C w F e ((xs.drop off).take len) (some ⟨b, o + off * C.sz e, none⟩) cells := by
  obtain ⟨_, cur, t, hh, hz, cells, hx⟩ := h
  refine ⟨fun j => cells (off + j), fun j x hj => ?_⟩
  have hget : xs[off + j]? = some x := by
    rw [List.getElem?_take] at hj
    split at hj
    · rw [List.getElem?_drop] at hj; exact hj
    · cases hj
  obtain ⟨q1, q2, q3, q4⟩ := hx _ _ hget
  refine ⟨q1, q2, q3, b, _, rfl, ?_⟩
  rw [show o + off * C.sz e + j * C.sz e = o + (off + j) * C.sz e by rw [Nat.add_mul]; omega]
  exact q4
theorem rows_of (hs : Sim C F σ S w) {x : AV} {xs : List AV} {v : Value} (he : elems S x = some xs) (hr : R C w F σ x [v]) {e : TypeId} (ht : elT x = some e ∨ elT x = none) : ∃ ad cap cells, v = .slice ad xs.length cap ∧ xs.length ≤ cap ∧ RowV C w F e xs ad cells := by
  obtain ⟨ad, cap, rfl, hc⟩ := elems_len hs he hr
  refine ⟨ad, cap, ?_⟩
  suffices h : ∃ cells, RowV C w F e xs ad cells by
    obtain ⟨cells, h⟩ := h
    exact ⟨cells, rfl, hc, h⟩
  by_cases h0 : xs = []
  · subst h0
    exact ⟨fun _ => [], fun j x hj => by simp at hj⟩
  cases x <;> simp only [elems] at he <;> try (cases he; done)
  case l e' ys =>
    obtain rfl := Option.some.inj he
    simp only [elT] at ht
    obtain rfl : e' = e := by rcases ht with h | h <;> simp at h; exact h
    generalize hn : ys.length = n at hr
    cases hr with
    | l0 => exact absurd rfl h0
    | l cells h1 h2 h3 h4 => exact ⟨cells, fun j x hj => ⟨(h3 j x hj).1, h4 j x hj, (h3 j x hj).2.2, _, _, rfl, (h3 j x hj).2.1⟩⟩
  case z n =>
    match n, he with
    | 0, he => simp at he
    | 1, he => simp only [Option.some.injEq] at he; exact absurd he.symm h0
    | 8, he => simp only [Option.some.injEq] at he; exact absurd he.symm h0
    | 2, he | 3, he | 4, he | 5, he | 6, he | 7, he => simp at he
    | n + 9, he => simp at he
  case w e' id =>
    simp only [elT] at ht
    obtain rfl : e' = e := by rcases ht with h | h <;> simp at h; exact h
    have hb := hs.blk id
    cases hS : S.getD id .dead <;> rw [hS] at he hb <;> simp only at he <;> try (cases he; done)
    rename_i e2 ys
    obtain rfl := Option.some.inj he
    rcases hr.w_inv with ⟨b, o1, n, c, cap', g1, g2, g3, g4⟩ | ⟨g1, ad', _, g4⟩
    · rw [g1] at hb
      obtain ⟨rfl, hn, hA⟩ := hb
      simp only [Value.slice.injEq] at g4
      obtain ⟨rfl, _, rfl⟩ := g4
      obtain ⟨cells, hc⟩ := hA.rowV 0 ys.length
      simp only [List.drop_zero, List.take_length, Nat.zero_mul, Nat.add_zero] at hc
      exact ⟨cells, hc⟩
    · rw [g1] at hb
      exact absurd hb h0
  case r e' id off len =>
    simp only [elT] at ht
    obtain rfl : e' = e := by rcases ht with h | h <;> simp at h; exact h
    have hb := hs.blk id
    cases hS : S.getD id .dead <;> rw [hS] at he hb <;> simp only at he <;> try (cases he; done)
    rename_i e2 ys
    obtain rfl := Option.some.inj he
    generalize hn : ((ys.drop off).take len).length = n at hr
    cases hr with
    | r h1 h2 h3 h4 =>
      rw [h1] at hb
      obtain ⟨rfl, rfl, hA⟩ := hb
      exact hA.rowV off len
    | r0 => simp at h0
/-- Elements are read, all of them. -/
theorem RowV.load {e : TypeId} {xs : List AV} {ad : Option Addr} {cells : Nat → List Value} {w : World} {F : Nat → Prop} (h : RowV C w F e xs ad cells) (cap : Nat) : (Builtin.firstCells (C.sz e) xs.length (.slice ad xs.length cap)).run C.P w = .ok ((List.range xs.length).map cells).flatten.toArray w ∧ ((List.range xs.length).map cells).flatten.length = xs.length * C.sz e := by
  by_cases h0 : xs = []
  · subst h0
    cases ad with
    | none => exact ⟨rfl, by simp⟩
    | some p => exact ⟨by simp [Builtin.firstCells, loadCells, loadCellsFrom, pure, Sem.run], by simp⟩
  · obtain ⟨x, hx⟩ := getElem?_of_lt (l := xs) (j := 0) (by cases xs <;> simp_all)
    obtain ⟨_, _, _, b, o1, rfl, _⟩ := h 0 x hx
    obtain ⟨h1, h2⟩ := rangeAt_rows (w := w) (b := b) (o := o1) (s := C.sz e) (cells := cells) xs.length fun j hj => by
      obtain ⟨y, hy⟩ := getElem?_of_lt (l := xs) hj
      obtain ⟨q1, q2, q3, b', o', he, q4⟩ := h j y hy
      simp only [Option.some.injEq, Addr.mk.injEq] at he
      obtain ⟨rfl, rfl, _⟩ := he
      exact ⟨q3, q4⟩
    refine ⟨?_, h1⟩
    have := run_loadCells_list (P := C.P) w ⟨b, o1, none⟩ ((List.range xs.length).map cells).flatten fun j v hv => by rw [Addr.add_mid]; exact h2 j v hv
    rw [h1] at this
    exact this
/-- What is left of blocks that are given up. -/
theorem Sim.drop_ (hs : Sim C F σ S w) (ks : List Nat) : Sim C F σ (kill ks S) w ∧ Stp F σ S w F σ (kill ks S) w := by
  have hlive : ∀ i, live (kill ks S) i → live S i := fun i h => by
    unfold live at *
    rw [getD_kill] at h
    cases hc : ks.contains i with
    | true => rw [hc] at h; exact absurd rfl h
    | false => rw [hc] at h; exact h
  refine ⟨⟨fun i => ?_, fun i i' c h1 h2 => hs.inj i i' c (hlive i h1) (hlive i' h2), fun i c h1 => hs.out i c (hlive i h1), fun i hi => hs.top i (by rw [kill_length] at hi; exact hi), hs.fin⟩, ⟨rfl, rfl, rfl, Nat.le_refl _, fun _ _ _ => rfl, fun _ h => h, fun _ h => .inl h, fun i c h1 h2 => .inr ⟨i, hlive i h1, h2⟩⟩⟩
  rw [getD_kill]
  cases hc : ks.contains i with
  | true => exact trivial
  | false => exact hs.blk i
theorem Sim.drew_ (hs : Sim C F σ S w) (n : Nat) : Sim C F σ S { w with drawn := n } ∧ Stp F σ S w F σ S { w with drawn := n } :=
  ⟨⟨fun i => BlkAt.mono (w := w) (w' := { w with drawn := n }) (F' := F) (σ' := σ) (fun _ _ => rfl) (fun _ h => h) (fun _ _ => rfl) (fun _ _ => rfl) (hs.blk i), hs.inj, hs.out, hs.top, hs.fin⟩, ⟨rfl, rfl, rfl, Nat.le_refl _, fun _ _ _ => rfl, fun _ h => h, fun _ h => .inl h, fun i c h1 h2 => .inr ⟨i, h1, h2⟩⟩⟩
/-- A nil slice becomes the frame's own. -/
theorem Sim.nil_ (hs : Sim C F σ S w) (hsl : Slot σ S slot) (e : TypeId) : Sim C F (σ.put slot .nil) (S.set slot (.arr e [])) w ∧ Stp F σ S w F (σ.put slot .nil) (S.set slot (.arr e [])) w := by
  have hlive : ∀ id, live (S.set slot (.arr e [])) id → id ≠ slot → live S id := fun id h hne => by
    unfold live at *
    rwa [getD_set_ne hne] at h
  have hblk : ∀ id b, live (S.set slot (.arr e [])) id → (σ.put slot .nil id).blk = some b → id ≠ slot ∧ live S id ∧ (σ id).blk = some b := fun id b h1 h2 => by
    by_cases q : id = slot
    · rw [q, put_self] at h2; cases h2
    · rw [put_ne q] at h2; exact ⟨q, hlive id h1 q, h2⟩
  refine ⟨⟨fun id => ?_, fun id id' b h1 h2 h3 h4 => ?_, fun id b h1 h2 => ?_, fun id hid => ?_, hs.fin⟩, ⟨rfl, rfl, rfl, Nat.le_refl _, fun _ _ _ => rfl, fun _ h => h, fun _ h => .inl h, fun id b h1 h2 => ?_⟩⟩
  · by_cases q : id = slot
    · subst q
      rw [getD_set_self hsl.lt, put_self]
      exact rfl
    · rw [getD_set_ne q, put_ne q]
      exact (hs.blk id).mono (fun _ _ => rfl) (fun _ h => h) (put_ext hsl.no) fun _ _ => rfl
  · obtain ⟨_, l1, b1⟩ := hblk id b h1 h3
    obtain ⟨_, l2, b2⟩ := hblk id' b h2 h4
    exact hs.inj id id' b l1 l2 b1 b2
  · obtain ⟨_, l1, b1⟩ := hblk id b h1 h2
    exact hs.out id b l1 b1
  · rw [List.length_set] at hid
    rw [put_ne (by have := hsl.lt; omega)]
    exact hs.top id hid
  · obtain ⟨_, l1, b1⟩ := hblk id b h1 h2
    exact .inr ⟨id, l1, b1⟩
/-- A block of the frame's own goes over to another number, written. -/
theorem Sim.move_ (hs : Sim C F σ S w) (hsl : Slot σ S slot) {id b : Nat} (hlv : live S id) (hb : (σ id).blk = some b) (cells : Array Value) (B : Blk) (p : Place) (hp : p.blk = some b) (hB : BlkAt C (w.setRow b cells) F (σ.put slot p) B p) :
    Sim C F (σ.put slot p) ((kill [id] S).set slot B) (w.setRow b cells) ∧ Stp F σ S w F (σ.put slot p) ((kill [id] S).set slot B) (w.setRow b cells) := by
  have hne : id ≠ slot := fun e => hlv (by rw [e]; exact hsl.dead)
  have hlt : slot < (kill [id] S).length := by rw [kill_length]; exact hsl.lt
  have hlive : ∀ i, live ((kill [id] S).set slot B) i → i ≠ slot → live S i ∧ i ≠ id := fun i h hn => by
    unfold live at h
    rw [getD_set_ne hn, getD_kill] at h
    by_cases q : i = id
    · subst q; simp at h
    · rw [if_neg (by simpa using q)] at h; exact ⟨h, q⟩
  have hF : ∀ c, F c → c ≠ b := fun c hc e => hs.out id b hlv hb (e ▸ hc)
  have hbn : ∀ i c, live S i → i ≠ id → (σ i).blk = some c → c ≠ b := fun i c hi hn hc e => hn (hs.inj i id c hi hlv hc (e ▸ hb))
  refine ⟨⟨fun i => ?_, fun i i' c h1 h2 h3 h4 => ?_, fun i c h1 h2 hFc => ?_, fun i hi => ?_, fun c hc => by rw [setRow_size]; exact hs.fin c hc⟩, ⟨rfl, rfl, rfl, by rw [setRow_size]; exact Nat.le_refl _, fun c hc hn => setRow_other w b c cells fun e => hn id hlv (by rw [hb, e]), fun _ h => h, fun _ h => .inl h, fun i c h1 h2 => ?_⟩⟩
  · by_cases q : i = slot
    · subst q
      rw [getD_set_self hlt, put_self]
      exact hB
    · rw [getD_set_ne q, put_ne q, getD_kill]
      by_cases q2 : i = id
      · subst q2; simp; exact trivial
      · rw [if_neg (by simpa using q2)]
        by_cases hi : live S i
        · exact (hs.blk i).mono (fun c hc => setRow_other w b c cells (hF c hc)) (fun _ h => h) (put_ext hsl.no) fun c hc => setRow_other w b c cells (hbn i c hi q2 hc)
        · have : S.getD i .dead = .dead := Classical.byContradiction fun h => hi h
          rw [this]
          exact trivial
  · by_cases q : i = slot
    · by_cases q' : i' = slot
      · rw [q, q']
      · rw [q, put_self, hp] at h3
        rw [put_ne q'] at h4
        obtain ⟨l1, l2⟩ := hlive i' h2 q'
        exact absurd (Option.some.inj h3).symm (hbn i' c l1 l2 h4)
    · by_cases q' : i' = slot
      · rw [q', put_self, hp] at h4
        rw [put_ne q] at h3
        obtain ⟨l1, l2⟩ := hlive i h1 q
        exact absurd (Option.some.inj h4).symm (hbn i c l1 l2 h3)
      · rw [put_ne q] at h3
        rw [put_ne q'] at h4
        exact hs.inj i i' c (hlive i h1 q).1 (hlive i' h2 q').1 h3 h4
  · by_cases q : i = slot
    · rw [q, put_self, hp] at h2
      exact hF c hFc (Option.some.inj h2).symm
    · rw [put_ne q] at h2
      exact hs.out i c (hlive i h1 q).1 h2 hFc
  · rw [List.length_set, kill_length] at hi
    rw [put_ne (by have := hsl.lt; omega)]
    exact hs.top i hi
  · by_cases q : i = slot
    · rw [q, put_self, hp] at h2
      exact .inr ⟨id, hlv, by rw [hb, ← h2]⟩
    · rw [put_ne q] at h2
      exact .inr ⟨i, (hlive i h1 q).1, h2⟩
theorem growBy_le (n : Nat) : ∀ r c, c < n → Builtin.growBy n r c ≤ n + (n + 768) / 4
  | 0, c, h => by simp only [Builtin.growBy]; omega
  | r + 1, c, h => by
    simp only [Builtin.growBy]
    rw [if_neg (by omega)]
    by_cases q : c + (c + 768) / 4 < n
    · exact growBy_le n r _ q
    · have : ∀ r c, n ≤ c → Builtin.growBy n r c = c := fun r c h => by
        cases r <;> simp only [Builtin.growBy]
        rw [if_pos h]
      rw [this r _ (by omega)]
      omega
theorem nextcap_le {n c : Nat} (h : c < n) : Builtin.nextslicecap n c ≤ 2 * n + 192 := by
  unfold Builtin.nextslicecap
  split
  · omega
  · split
    · omega
    · have := growBy_le n 4 c h
      omega
/-- A row grown within its room. -/
theorem grown_in (hl : layB C = true) {e : TypeId} {xs ys : List AV} {b o1 c : Nat} (hA : ArrAt C w F e xs b o1 c) (off len : Nat) (hlen : off + len ≤ xs.length) (hroom : len + ys.length + off ≤ c) {ycells : Nat → List Value} (hy : ∀ (j : Nat) y, ys[j]? = some y → Wt C e y ∧ R C w F noSig y (ycells j) ∧ (ycells j).length = C.sz e) {cur : Array Value} {t : TypeId} (hh : w.heap[b]? = some (.cells cur t (0, 0))) (hnF : ¬ F b)
    {vs : List Value} (hvs : vs = ((List.range ys.length).map ycells).flatten) (hvl : vs.length = ys.length * C.sz e) :
    ArrAt C (w.setRow b (cur.toList.take (o1 + off * C.sz e + len * C.sz e) ++ vs ++ cur.toList.drop (o1 + off * C.sz e + len * C.sz e + vs.length)).toArray) F e ((xs.drop off).take len ++ ys) b (o1 + off * C.sz e) (c - off) := by
  obtain ⟨xcells, hx⟩ := hA.rowV off len
  obtain ⟨hc, cur', t', hh', hz, _⟩ := hA
  rw [hh] at hh'
  simp only [Option.some.injEq, Obj.cells.injEq] at hh'
  obtain ⟨rfl, rfl, _⟩ := hh'
  have hxl : ((xs.drop off).take len).length = len := by simp; omega
  have hFk : ∀ d, F d → (w.setRow b (cur.toList.take (o1 + off * C.sz e + len * C.sz e) ++ vs ++ cur.toList.drop (o1 + off * C.sz e + len * C.sz e + vs.length)).toArray).heap[d]? = w.heap[d]? := fun d hd => setRow_other w b d _ fun q => hnF (q ▸ hd)
  have hmul : (off + len + ys.length) * C.sz e ≤ c * C.sz e := Nat.mul_le_mul_right _ (by omega)
  rw [Nat.add_mul, Nat.add_mul] at hmul
  have hl1 : (cur.toList.take (o1 + off * C.sz e + len * C.sz e)).length = o1 + off * C.sz e + len * C.sz e := by rw [List.length_take]; simp; omega
  have hoc : off * C.sz e + (c - off) * C.sz e = c * C.sz e := by rw [← Nat.add_mul]; congr 1; omega
  refine ⟨by rw [List.length_append, hxl]; omega, _, t', setRow_heap w b cur _ _ (0, 0) hh, ?_, fun j => if j < len then xcells j else ycells (j - len), fun j x hj => ?_⟩
  · simp only [List.size_toArray, List.length_append, hl1, List.length_drop, Array.length_toList]
    omega
  · rw [List.getElem?_append, hxl] at hj
    dsimp only
    by_cases q : j < len
    · rw [if_pos q] at hj
      rw [if_pos q]
      obtain ⟨r1, r2, r3, b', o', he, r4⟩ := hx j x hj
      simp only [Option.some.injEq, Addr.mk.injEq] at he
      obtain ⟨rfl, rfl, _⟩ := he
      refine ⟨r1, r2.mono hFk (fun _ h => h) noSig (fun _ _ => rfl), r3, rangeAt_new hh r4 fun i hi => ?_⟩
      have : (j + 1) * C.sz e ≤ len * C.sz e := Nat.mul_le_mul_right _ q
      rw [Nat.add_mul] at this
      rw [List.getElem?_toArray, List.append_assoc, List.getElem?_append, hl1, if_pos (by omega), List.getElem?_take, if_pos (by omega), Array.getElem?_toList]
    · rw [if_neg q] at hj
      rw [if_neg q]
      obtain ⟨r1, r2, r3⟩ := hy _ x hj
      refine ⟨r1, r2.mono hFk (fun _ h => h) noSig (fun _ _ => rfl), r3, rangeAt_set hh fun i v hv => ?_⟩
      have hi := getElem?_lt hv
      have hjl := getElem?_lt hj
      have hjm : (j - len + 1) * C.sz e ≤ ys.length * C.sz e := Nat.mul_le_mul_right _ (by omega)
      rw [Nat.add_mul] at hjm
      have e1 : len * C.sz e + (j - len) * C.sz e = j * C.sz e := by rw [← Nat.add_mul]; congr 1; omega
      rw [List.getElem?_toArray, List.append_assoc, List.getElem?_append, hl1, if_neg (by omega), List.getElem?_append, if_pos (by omega)]
      -- the cell within the new ones
      have hrows := (flat_at ((List.range ys.length).map ycells) (List.replicate ys.length (C.sz e)) (by simp) fun k c n hc hn => by
        have hk := getElem?_lt hc
        simp only [List.length_map, List.length_range] at hk
        rw [List.getElem?_map, List.getElem?_range hk] at hc
        simp only [Option.map_some, Option.some.injEq] at hc
        rw [List.getElem?_replicate, if_pos hk] at hn
        simp only [Option.some.injEq] at hn
        obtain ⟨y, hy'⟩ := getElem?_of_lt (l := ys) hk
        rw [← hc, ← hn]
        exact (hy k y hy').2.2).2 (j - len) (ycells (j - len)) (by rw [List.getElem?_map, List.getElem?_range hjl]; rfl)
      rw [← hvs, List.take_replicate, Nat.min_eq_left (by omega), List.sum_replicate_nat, r3] at hrows
      have := congrArg (·[i]?) hrows
      rw [List.getElem?_take, if_pos (by omega), List.getElem?_drop, hv] at this
      rw [← this]
      congr 1
      omega
/-- A row grown into a new block. -/
theorem grown_new (hl : layB C = true) {e : TypeId} {xs ys : List AV} {xcells ycells : Nat → List Value} (hx : ∀ (j : Nat) y, xs[j]? = some y → Wt C e y ∧ R C w F noSig y (xcells j) ∧ (xcells j).length = C.sz e) (hy : ∀ (j : Nat) y, ys[j]? = some y → Wt C e y ∧ R C w F noSig y (ycells j) ∧ (ycells j).length = C.sz e)
    {w' : World} (hk : ∀ b, F b → w'.heap[b]? = w.heap[b]?) {g nc : Nat} {cur : Array Value} (hg : w'.heap[g]? = some (.cells cur e (0, 0))) (hsz : cur.size = nc * C.sz e) (hnc : xs.length + ys.length ≤ nc) (hcur : ∃ rest, cur.toList = ((List.range xs.length).map xcells).flatten ++ ((List.range ys.length).map ycells).flatten ++ rest) :
    ArrAt C w' F e (xs ++ ys) g 0 nc := by
  obtain ⟨rest, hcur⟩ := hcur
  refine ⟨by simpa using hnc, cur, ⟨e, fun _ => rfl⟩, hg, by omega, fun j => if j < xs.length then xcells j else ycells (j - xs.length), fun j v hj => ?_⟩
  have rows : ∀ (zs : List AV) (cells : Nat → List Value), (∀ (j : Nat) y, zs[j]? = some y → Wt C e y ∧ R C w F noSig y (cells j) ∧ (cells j).length = C.sz e) → ((List.range zs.length).map cells).flatten.length = zs.length * C.sz e ∧ ∀ j, j < zs.length → (((List.range zs.length).map cells).flatten.drop (j * C.sz e)).take (C.sz e) = cells j := fun zs cells hz => by
    obtain ⟨h1, h2⟩ := flat_at ((List.range zs.length).map cells) (List.replicate zs.length (C.sz e)) (by simp) fun k c n hc hn => by
      have hk := getElem?_lt hc
      simp only [List.length_map, List.length_range] at hk
      rw [List.getElem?_map, List.getElem?_range hk] at hc
      simp only [Option.map_some, Option.some.injEq] at hc
      rw [List.getElem?_replicate, if_pos hk] at hn
      simp only [Option.some.injEq] at hn
      obtain ⟨y, hy'⟩ := getElem?_of_lt (l := zs) hk
      rw [← hc, ← hn]
      exact (hz k y hy').2.2
    refine ⟨by rw [h1, List.sum_replicate_nat], fun j hj => ?_⟩
    obtain ⟨y, hy'⟩ := getElem?_of_lt (l := zs) hj
    have := h2 j (cells j) (by rw [List.getElem?_map, List.getElem?_range hj]; rfl)
    rw [List.take_replicate, Nat.min_eq_left (by omega), List.sum_replicate_nat, (hz j y hy').2.2] at this
    exact this
  obtain ⟨x1, x2⟩ := rows xs xcells hx
  obtain ⟨y1, y2⟩ := rows ys ycells hy
  have at_ : ∀ i v, cur.toList[i]? = some v → w'.cell? ⟨g, 0 + i, none⟩ = some v := fun i v hv => by
    rw [Array.getElem?_toList] at hv
    simp [World.cell?, hg, hv]
  have fin : ∀ (k : Nat) (c : List Value), (cur.toList.drop (k * C.sz e)).take (C.sz e) = c → w'.rangeAt g (0 + k * C.sz e) c := fun k c hc i u hu => by
    rw [← hc, List.getElem?_take] at hu
    split at hu
    · rw [List.getElem?_drop] at hu
      rw [Nat.add_assoc]
      exact at_ _ u hu
    · cases hu
  rw [List.getElem?_append] at hj
  dsimp only
  by_cases q : j < xs.length
  · rw [if_pos q] at hj
    rw [if_pos q]
    obtain ⟨r1, r2, r3⟩ := hx j v hj
    refine ⟨r1, r2.mono hk (fun _ h => h) noSig (fun _ _ => rfl), r3, fin j _ ?_⟩
    have hm : (j + 1) * C.sz e ≤ xs.length * C.sz e := Nat.mul_le_mul_right _ q
    rw [Nat.add_mul] at hm
    rw [hcur, List.append_assoc, List.drop_append_of_le_length (by omega), List.take_append_of_le_length (by rw [List.length_drop]; omega)]
    exact x2 j q
  · rw [if_neg q] at hj
    rw [if_neg q]
    obtain ⟨r1, r2, r3⟩ := hy _ v hj
    have hjl := getElem?_lt hj
    refine ⟨r1, r2.mono hk (fun _ h => h) noSig (fun _ _ => rfl), r3, fin j _ ?_⟩
    have hm : (j - xs.length + 1) * C.sz e ≤ ys.length * C.sz e := Nat.mul_le_mul_right _ hjl
    rw [Nat.add_mul] at hm
    have e1 : j * C.sz e = xs.length * C.sz e + (j - xs.length) * C.sz e := by rw [← Nat.add_mul]; congr 1; omega
    rw [hcur, List.append_assoc, e1, ← x1, List.drop_append, List.drop_eq_nil_of_le (by omega), List.nil_append, Nat.add_sub_cancel_left, List.drop_append_of_le_length (by omega), List.take_append_of_le_length (by rw [List.length_drop]; omega)]
    exact y2 _ hjl
end
end Go.Proofs.Ytfnepeilccainaa.Den

/- Proved here: append does what the evaluator says. Its condition: the program's type table is laid as the check 'layB' tells. -/
namespace Go.Proofs.Ytfnepeilccainaa.Den
open Go
set_option linter.unusedVariables false
set_option linter.unusedSimpArgs false
section
variable {C : Cfg}
variable {F : Nat → Prop} {σ : Sig} {S : List Blk} {w : World} {env : List AV} {a : Act} {o : Oper} {slot : Nat} {α : Type} {K : KV α} {out : α}
theorem ite_some {α : Type} {c : Prop} [Decidable c] {x : Option α} {y : α} (h : (if c then x else none) = some y) : c ∧ x = some y := by
  by_cases q : c
  · rw [if_pos q] at h; exact ⟨q, h⟩
  · rw [if_neg q] at h; cases h
theorem arr_two {α : Type} {l : Array α} {x y : α} (h : l.toList = [x, y]) : l = #[x, y] := by
  rw [← Array.toArray_toList (xs := l), h]
theorem zck_info {T : TypeId} (h : zck C T = true) : ∃ i v, C.P.info? T = some i ∧ i.zero = some v ∧ Sh C T (zero C C.P.depth T) ∧ (∀ w F σ, VR C w F σ (zero C C.P.depth T) v) ∧ C.P.depth ≠ 0 := by
  have h' := h
  obtain ⟨v, hv1, hv2, hv3⟩ := zck_ok h
  unfold zck at h
  split at h <;> try (cases h; done)
  rename_i v' cs h1 h2
  obtain ⟨i, hi, hz⟩ := Option.bind_eq_some_iff.mp h1
  have hw := hv1 default
  have : v = v' := by
    simp [zeroValue, typeInfo, hi, hz, Sem.run_bind, pure, Sem.run] at hw
    exact hw.symm
  subst this
  refine ⟨i, v, hi, hz, hv2, hv3, fun h0 => ?_⟩
  rw [h0] at h2
  simp [zcells] at h2
theorem setCells_row {b oo : Nat} {vs : List Value} {cur : Array Value} {t : TypeId} (hh : w.heap[b]? = some (.cells cur t (0, 0))) (hl : oo + vs.length ≤ cur.size) (h1 : ∀ v ∈ vs, v.oneCell' = true) : w.setCells b oo vs = w.setRow b (cur.toList.take oo ++ vs ++ cur.toList.drop (oo + vs.length)).toArray := by
  have e1 := run_storeCells_at (P := default) b oo t vs 0 cur w hh (by omega) h1
  have e2 := run_storeCells_cells (P := default) b oo vs 0 w (fun j hj => by simp [World.cell?, hh]; omega) (fun j hj => by simp [World.frozen?, hh]) h1
  rw [e1] at e2
  simp only [Nat.add_zero] at e2
  injection e2 with _ e
  exact e.symm
theorem rowV_rows {e : TypeId} {ys : List AV} {cells : Nat → List Value} (h : ∀ (j : Nat) y, ys[j]? = some y → Wt C e y ∧ R C w F noSig y (cells j) ∧ (cells j).length = C.sz e) : ((List.range ys.length).map cells).flatten.length = ys.length * C.sz e ∧ ∀ v ∈ ((List.range ys.length).map cells).flatten, v.oneCell' = true := by
  constructor
  · have := (flat_at ((List.range ys.length).map cells) (List.replicate ys.length (C.sz e)) (by simp) fun k c n hc hn => by
      have hk := getElem?_lt hc
      simp only [List.length_map, List.length_range] at hk
      rw [List.getElem?_map, List.getElem?_range hk] at hc
      simp only [Option.map_some, Option.some.injEq] at hc
      rw [List.getElem?_replicate, if_pos hk] at hn
      simp only [Option.some.injEq] at hn
      obtain ⟨y, hy⟩ := getElem?_of_lt (l := ys) hk
      rw [← hc, ← hn]
      exact (h k y hy).2.2).1
    rw [this, List.sum_replicate_nat]
  · intro v hv
    obtain ⟨c, hc, hvc⟩ := List.mem_flatten.mp hv
    obtain ⟨j, hj, rfl⟩ := List.mem_map.mp hc
    obtain ⟨y, hy⟩ := getElem?_of_lt (l := ys) (List.mem_range.mp hj)
    exact (h j y hy).2.1.plain v hvc
theorem RowV.drew {e : TypeId} {xs : List AV} {ad : Option Addr} {cells : Nat → List Value} (h : RowV C w F e xs ad cells) (n : Nat) : RowV C { w with drawn := n } F e xs ad cells := fun j x hx => by
  obtain ⟨h1, h2, h3, b, o1, h4, h5⟩ := h j x hx
  exact ⟨h1, R.mono (w := w) (w' := { w with drawn := n }) (fun _ _ => rfl) (fun _ h => h) h2 noSig (fun _ _ => rfl), h3, b, o1, h4, h5⟩
theorem flat_one {α β : Type} (g : α → β) : ∀ l : List α, (l.map fun j => [g j]).flatten = l.map g
  | [] => rfl
  | x :: l => by simp [flat_one g l]
theorem range_getD {α β : Type} (L : List α) (d : α) (f : α → β) : ((List.range L.length).map fun j => f (L.getD j d)) = L.map f := by
  apply List.ext_getElem?
  intro j
  rw [List.getElem?_map, List.getElem?_map]
  by_cases h : j < L.length
  · rw [List.getElem?_range h]
    simp only [Option.map_some, List.getD_eq_getElem?_getD]
    simp [h]
  · rw [List.getElem?_eq_none (by simp; omega), List.getElem?_eq_none (by omega)]
    rfl
/-- What is appended. -/
theorem src_of (hl : layB C = true) (hs : Sim C F σ S w) {e T1 : TypeId} (hk : (∃ e', C.P.underlying T1 = some (.slice e')) ∨ C.P.underlying T1 = some .string) (hd : C.P.depth ≠ 0) {y : AV} {ys : List AV} {yv : Value}
    (hy : appSrc C S e y = some ys) (hr : VR C w F σ y yv) :
    ∃ cells, (∀ (j : Nat) v, ys[j]? = some v → Wt C e v ∧ R C w F noSig v (cells j) ∧ (cells j).length = C.sz e) ∧ Src C.P (C.sz e) T1 yv ys.length ((List.range ys.length).map cells).flatten w := by
  unfold appSrc at hy
  split at hy
  · rename_i s
    obtain ⟨hue, hy⟩ := ite_some hy
    obtain rfl := Option.some.inj hy
    have hue : C.und e = some (.int .u8) := by
      revert hue
      unfold isU8
      cases hq : C.und e with
      | none => intro h; cases h
      | some d =>
        intro h
        cases d with
        | int k => cases k <;> first | rfl | (exact absurd h (by decide))
        | _ => exact absurd h (by simp)
    have hz : C.sz e = 1 := lay_one hl hue (by simp) (by simp)
    obtain rfl := hr.s_inv
    have hn : (s.data.toList.map fun (c : UInt8) => AV.i .u8 (c.toNat : Int)).length = s.size := by rw [List.length_map, Array.length_toList]; rfl
    have hcl : ((List.range (s.data.toList.map fun (c : UInt8) => AV.i .u8 (c.toNat : Int)).length).map fun j => [Value.int .u8 ((s.data.toList.getD j 0).toNat : Int)]).flatten = byteCells s := by
      rw [flat_one (fun j => Value.int .u8 ((s.data.toList.getD j 0).toNat : Int)), List.length_map]
      exact range_getD s.data.toList 0 fun c => Value.int .u8 (c.toNat : Int)
    refine ⟨fun j => [Value.int .u8 ((s.data.toList.getD j 0).toNat : Int)], fun j v hj => ?_, ?_⟩
    · rw [List.getElem?_map] at hj
      obtain ⟨c, hc, rfl⟩ := Option.map_eq_some_iff.mp hj
      refine ⟨⟨.i hue, ?_⟩, ?_, by simp [hz]⟩
      · cases hq : C.P.depth with
        | zero => exact absurd hq hd
        | succ d => simp [view, hue, AV.int]
      · dsimp only
        rw [List.getD_eq_getElem?_getD, hc]
        exact .i
    · rw [hcl, hz, hn]
      exact ⟨hk, fun _ => rfl, firstCells_string s w, firstCells_string s w.drew, by rw [byteCells_length, Nat.mul_one], fun u hu => by
        obtain ⟨_, _, rfl⟩ := List.mem_map.1 hu
        rfl⟩
  · obtain ⟨hel, hy⟩ := ite_some hy
    obtain ⟨ad, cap, cells, rfl, hc, hR⟩ := rows_of hs hy (hr.one_inv (fun fs h => by rw [h] at hy; simp [elems] at hy) (fun h => by rw [h] at hy; simp [elems] at hy) (fun vs h => by rw [h] at hy; simp [elems] at hy)) hel
    have hrow : ∀ (j : Nat) v, ys[j]? = some v → Wt C e v ∧ R C w F noSig v (cells j) ∧ (cells j).length = C.sz e := fun j v hj => ⟨(hR j v hj).1, (hR j v hj).2.1, (hR j v hj).2.2.1⟩
    exact ⟨cells, hrow, hk, fun _ => rfl, (hR.load cap).1, ((hR.drew (w.drawn + 1)).load cap).1, (hR.load cap).2, (rowV_rows hrow).2⟩
theorem append_args {tys : Array TypeId} {T0 T1 rT : TypeId} {xs : Array Value} (h0 : tys[0]? = some T0) (h1 : tys[1]? = some T1) : Builtin.append_ tys rT xs = Builtin.append_ #[T0, T1] rT xs := by
  unfold Builtin.append_
  rw [h0, h1]
  rfl
/-- A row behind an append that finds no room. -/
theorem append_grows (hl : layB C = true) (hs : Sim C F σ S w) (hsl : Slot σ S slot) {e T0 T1 rT : TypeId} (hu : C.und T0 = some (.slice e)) (hz : zck C e = true) (hby : C.P.bytesOf e ≤ 65536) {xs ys : List AV} {ad : Option Addr} {cap : Nat} {xcells ycells : Nat → List Value} (hx : RowV C w F e xs ad xcells) (hxc : xs.length ≤ cap) (hy : ∀ (j : Nat) v, ys[j]? = some v → Wt C e v ∧ R C w F noSig v (ycells j) ∧ (ycells j).length = C.sz e) {yv : Value} (hsrc : Src C.P (C.sz e) T1 yv ys.length ((List.range ys.length).map ycells).flatten w)
    (hb : xs.length + ys.length ≤ 16777216) (hroom : cap < xs.length + ys.length) (ks : List Nat) :
    ∃ val w' F' σ', (Builtin.append_ #[T0, T1] rT #[.slice ad xs.length cap, yv]).run C.P w = .ok val w' ∧ Sim C F' σ' ((kill ks S).set slot (.arr e (xs ++ ys))) w' ∧ Stp F σ S w F' σ' ((kill ks S).set slot (.arr e (xs ++ ys))) w' ∧ (∀ id, σ id ≠ .no → σ' id = σ id) ∧ R C w' F' σ' (.w e slot) [val] ∧ ∀ j, j ≠ slot → σ' j = σ j := by
  obtain ⟨i, zv, hi, hz0, hz1, hz2, hz3⟩ := zck_info hz
  have hsi : i.size = C.sz e := by
    obtain ⟨d, hd⟩ := sh_und hz1
    have := sz_info hd
    rw [hi] at this
    simpa using this
  have hzl : zv.cells.size = C.sz e := by
    have := sh_len hl hz1 ((hz2 w F σ).cells hz1)
    simpa using this
  have hbi : i.bytes ≤ 65536 := by
    unfold Program.bytesOf at hby
    rw [hi] at hby
    exact hby
  have hrun := run_append_grow_src (P := C.P) w T0 T1 rT e i zv (und_P hu) hi hz0 ad xs.length cap ((List.range xs.length).map xcells).flatten (by rw [hsi]; exact ((hx.drew (w.drawn + 1)).load cap).1) yv ys.length _ (by rw [hsi]; exact hsrc) hroom (by omega) (by
    have := nextcap_le hroom
    have h2 : Builtin.nextslicecap (xs.length + ys.length) cap * i.bytes ≤ (2 * (xs.length + ys.length) + 192) * 65536 := Nat.mul_le_mul this hbi
    omega)
  generalize hnc : grownCap w (xs.length + ys.length) cap e = nc at hrun
  have hncg : xs.length + ys.length ≤ nc := hnc ▸ grownCap_ge w _ _ e
  obtain ⟨s1, t1⟩ := hs.drop_ ks
  obtain ⟨s2, t2⟩ := s1.drew_ (w.drawn + 1)
  have hxr : ∀ (j : Nat) y, xs[j]? = some y → Wt C e y ∧ R C w F noSig y (xcells j) ∧ (xcells j).length = C.sz e := fun j y hj => ⟨(hx j y hj).1, (hx j y hj).2.1, (hx j y hj).2.2.1⟩
  have hxl := (rowV_rows hxr).1
  generalize hcur : ((((List.range xs.length).map xcells).flatten ++ ((List.range ys.length).map ycells).flatten).toArray ++ Builtin.zeroCells zv.cells (nc - (xs.length + ys.length))) = cur at hrun
  have hsz : cur.size = nc * C.sz e := by
    rw [← hcur, Array.size_append, List.size_toArray, List.length_append, hxl, hsrc.newsLen]
    simp only [Builtin.zeroCells, Array.size_map, Array.size_range, hzl]
    rw [← Nat.add_mul, ← Nat.add_mul]
    congr 1
    omega
  have hdead : (kill ks S).getD slot .dead = .dead := by rw [getD_kill, hsl.dead]; split <;> rfl
  have hF : ∀ b, F b → (w.drew.alloc (.cells cur e)).heap[b]? = w.heap[b]? := fun b hb => alloc_keep w.drew _ (hs.fin b hb)
  have hA : ArrAt C (w.drew.alloc (.cells cur e)) F e (xs ++ ys) w.heap.size 0 nc := grown_new hl hxr hy hF (alloc_heap w.drew (.cells cur e)) hsz hncg ⟨_, by rw [← hcur, Array.toList_append]⟩
  obtain ⟨s3, t3⟩ := s2.alloc (by rw [kill_length]; exact hsl.lt) hdead hsl.no (.cells cur e) (.arr e (xs ++ ys)) (.arr w.heap.size 0 (xs ++ ys).length nc e) rfl ⟨rfl, rfl, hA⟩
  refine ⟨_, _, F, _, hrun, s3, (t1.trans t2).trans t3, put_ext hsl.no, ?_, fun j hj => put_ne hj⟩
  have := R.w (C := C) (w := w.drew.alloc (.cells cur e)) (F := F) (σ := σ.put slot (.arr w.heap.size 0 (xs ++ ys).length nc e)) (id := slot) (cap := nc) put_self (by simpa using hncg) (Nat.le_refl _)
  rw [← List.length_append]
  exact this
/-- A row behind an append that finds room. -/
theorem append_fits (hl : layB C = true) (hs : Sim C F σ S w) (hsl : Slot σ S slot) {e T0 T1 rT : TypeId} {de : TypeDesc} (hu : C.und T0 = some (.slice e)) (hde : C.und e = some de) {id b o1 n c : Nat} {ws : List AV} (hS : S.getD id .dead = .arr e ws) (hσ : σ id = .arr b o1 n c e) (off len cap : Nat) (hlen : off + len ≤ ws.length) (hcap : off + cap ≤ c) {ys : List AV} {ycells : Nat → List Value} (hy : ∀ (j : Nat) v, ys[j]? = some v → Wt C e v ∧ R C w F noSig v (ycells j) ∧ (ycells j).length = C.sz e) {yv : Value} (hsrc : Src C.P (C.sz e) T1 yv ys.length ((List.range ys.length).map ycells).flatten w)
    (hroom : len + ys.length ≤ cap) :
    ∃ val w' F' σ', (Builtin.append_ #[T0, T1] rT #[.slice (some ⟨b, o1 + off * C.sz e, none⟩) len cap, yv]).run C.P w = .ok val w' ∧ Sim C F' σ' ((kill [id] S).set slot (.arr e ((ws.drop off).take len ++ ys))) w' ∧ Stp F σ S w F' σ' ((kill [id] S).set slot (.arr e ((ws.drop off).take len ++ ys))) w' ∧ (∀ id, σ id ≠ .no → σ' id = σ id) ∧ R C w' F' σ' (.w e slot) [val] ∧ ∀ j, j ≠ slot → σ' j = σ j := by
  have hlv : live S id := by unfold live; rw [hS]; simp
  have hbk : (σ id).blk = some b := by rw [hσ]; rfl
  have hB := hs.blk id
  rw [hS, hσ] at hB
  obtain ⟨_, rfl, hA⟩ := hB
  have hA' := hA
  obtain ⟨hc, cur, t, hh, hz, _⟩ := hA'
  have hinf := sz_info hde
  obtain ⟨i, hi⟩ : ∃ i, C.P.info? e = some i := by
    cases hq : C.P.info? e with
    | none => rw [hq] at hinf; cases hinf
    | some i => exact ⟨i, rfl⟩
  have hsi : i.size = C.sz e := by rw [hi] at hinf; simpa using hinf
  have hmul : (off + len + ys.length) * C.sz e ≤ c * C.sz e := Nat.mul_le_mul_right _ (by omega)
  rw [Nat.add_mul, Nat.add_mul] at hmul
  have hnl := hsrc.newsLen
  have hrun := run_append_room_src (P := C.P) w T0 T1 rT e i (und_P hu) hi b (o1 + off * C.sz e) len cap yv ys.length _ (by rw [hsi]; exact hsrc) hroom (fun j hj => by
    rw [hsi]
    simp [World.cell?, hh]
    omega) (fun j hj => by simp [World.frozen?, hh])
  rw [hsi, setCells_row hh (by omega) hsrc.one] at hrun
  have hnF : ¬ F b := hs.out id b hlv hbk
  have hG := grown_in hl hA off len hlen (by omega) hy hh hnF rfl hnl
  have hlen2 : ((ws.drop off).take len ++ ys).length = len + ys.length := by simp; omega
  obtain ⟨s1, t1⟩ := hs.move_ hsl hlv hbk _ (.arr e ((ws.drop off).take len ++ ys)) (.arr b (o1 + off * C.sz e) (len + ys.length) (c - off) e) rfl ⟨rfl, hlen2.symm, hG⟩
  exact ⟨_, _, F, _, hrun, s1, t1, put_ext hsl.no, .w put_self hroom (by omega), fun j hj => put_ne hj⟩
/-- Nothing appended to nothing. -/
theorem append_none (hl : layB C = true) (hs : Sim C F σ S w) (hsl : Slot σ S slot) {e T0 T1 rT : TypeId} {de : TypeDesc} (hu : C.und T0 = some (.slice e)) (hde : C.und e = some de) {ad : Option Addr} (had : isU8 C e = true → ad = none) {yv : Value} (hsrc : Src C.P (C.sz e) T1 yv 0 [] w) (ks : List Nat) :
    ∃ val w' F' σ', (Builtin.append_ #[T0, T1] rT #[.slice ad 0 0, yv]).run C.P w = .ok val w' ∧ Sim C F' σ' ((kill ks S).set slot (.arr e [])) w' ∧ Stp F σ S w F' σ' ((kill ks S).set slot (.arr e [])) w' ∧ (∀ id, σ id ≠ .no → σ' id = σ id) ∧ R C w' F' σ' (.w e slot) [val] ∧ ∀ j, j ≠ slot → σ' j = σ j := by
  have hinf := sz_info hde
  obtain ⟨i, hi⟩ : ∃ i, C.P.info? e = some i := by
    cases hq : C.P.info? e with
    | none => rw [hq] at hinf; cases hinf
    | some i => exact ⟨i, rfl⟩
  have hsi : i.size = C.sz e := by rw [hi] at hinf; simpa using hinf
  have hrun := run_append_nothing (P := C.P) w T0 T1 rT e i (und_P hu) hi ad 0 0 (Nat.le_refl _) yv (by rw [hsi]; exact hsrc)
  obtain ⟨s1, t1⟩ := hs.drop_ ks
  have hdead : (kill ks S).getD slot .dead = .dead := by rw [getD_kill, hsl.dead]; split <;> rfl
  obtain ⟨s2, t2⟩ := s1.nil_ ⟨by rw [kill_length]; exact hsl.lt, hdead, hsl.no⟩ e
  exact ⟨_, _, F, _, hrun, s2, t1.trans t2, put_ext hsl.no, .w0 put_self had, fun j hj => put_ne hj⟩
theorem ok_append {args : Array Operand} {argTypes : Array TypeId} (hl : layB C = true) (hs : Sim C F σ S w) (he : EnvR C w F σ env a.tmps) (hsl : Slot σ S slot) (ho : o.op = .call { callee := .builtin .append, args, argTypes }) (h : opD C S env slot K o.op = some out) : ∃ v S' ks, K v S' ks = some out ∧ OpOk C o F σ S w a slot v S' ks := by
  have hn : slotsOf o.op = 1 := by rw [ho]; rfl
  rw [ho] at h
  simp only [opD] at h
  split at h <;> try (cases h; done)
  rename_i e x y hu hxy
  replace h := ite_some h
  obtain ⟨⟨hz, hby, hk1⟩, h⟩ := h
  replace h := ite_some h
  obtain ⟨hel, h⟩ := h
  generalize hxs : elems S x = qx at h
  generalize hys : appSrc C S e y = qy at h
  cases qx with
  | none => simp at h
  | some xs =>
  cases qy with
  | none => simp at h
  | some ys =>
  simp only at h
  replace h : (∀ e' zs, x ≠ .l e' zs) ∧ (xs.length + ys.length ≤ 16777216 ∧ (isU8 C e && roomless x) = false) ∧ K (.w e slot) ((kill (ownId x) S).set slot (.arr e (xs ++ ys))) [] = some out := by
    cases x <;> first | (cases h; done) | exact ⟨by simp, ite_some h⟩
  obtain ⟨hnl, ⟨hb, hrl⟩, hK⟩ := h
  obtain ⟨ox, oy, hargs, rfl, rfl⟩ : ∃ ox oy, args.toList = [ox, oy] ∧ ev env ox = x ∧ ev env oy = y := by
    match hq : args.toList, hxy with
    | [ox, oy], hxy => simp at hxy; exact ⟨ox, oy, rfl, hxy.1, hxy.2⟩
    | [], hxy => simp at hxy
    | [_], hxy => simp at hxy
    | _ :: _ :: _ :: _, hxy => simp at hxy
  have hargs := arr_two hargs
  have hx := ev_ok he ox
  have hy := ev_ok he oy
  have ht0 : argTypes[0]? = some ((argTypes[0]?).getD C.P.types.size) := by
    cases hq : argTypes[0]? with
    | none =>
      rw [hq] at hu
      exact absurd (und_lt hu) (by simp)
    | some T => rfl
  generalize (argTypes[0]?).getD C.P.types.size = T0 at hu ht0
  have hk : ∃ T1, argTypes[1]? = some T1 ∧ ((∃ e', C.P.underlying T1 = some (.slice e')) ∨ C.P.underlying T1 = some .string) := by
    unfold appKind at hk1
    cases hq : argTypes[1]? with
    | none =>
      rw [hq] at hk1
      cases hd : C.und C.P.types.size with
      | none => simp [hd] at hk1
      | some d => exact absurd (und_lt hd) (by simp)
    | some T =>
      rw [hq] at hk1
      cases hd : C.und T with
      | none => simp [hd] at hk1
      | some d => cases d <;> first | (simp [hd] at hk1; done) | exact ⟨T, rfl, .inl ⟨_, und_P hd⟩⟩ | exact ⟨T, rfl, .inr (und_P hd)⟩
  obtain ⟨T1, ht1, hk⟩ := hk
  obtain ⟨i, zv, hi, hz0, hz1, hz2, hz3⟩ := zck_info hz
  obtain ⟨de, hde⟩ := sh_und hz1
  obtain ⟨ycells, hyr, hsrc⟩ := src_of hl hs hk hz3 hys hy
  have hr := hx.one_inv (fun fs h => by rw [h] at hxs; simp [elems] at hxs) (fun h => by rw [h] at hxs; simp [elems] at hxs) (fun vs h => by rw [h] at hxs; simp [elems] at hxs)
  have fin : ∀ {ks : List Nat} {zs : List AV} (hK : K (.w e slot) ((kill ks S).set slot (.arr e zs)) [] = some out) (hh : ∃ val w' F' σ', (Builtin.append_ #[T0, T1] o.type #[a.eval ox, a.eval oy]).run C.P w = .ok val w' ∧ Sim C F' σ' ((kill ks S).set slot (.arr e zs)) w' ∧ Stp F σ S w F' σ' ((kill ks S).set slot (.arr e zs)) w' ∧ (∀ id, σ id ≠ .no → σ' id = σ id) ∧ R C w' F' σ' (.w e slot) [val] ∧ ∀ j, j ≠ slot → σ' j = σ j), ∃ v S' ks, K v S' ks = some out ∧ OpOk C o F σ S w a slot v S' ks := by
    intro ks zs hK ⟨val, w', F', σ', h1, h2, h3, h4, h5, h6⟩
    refine ⟨_, _, _, hK, val, w', F', σ', .inl ?_, h2, h3, h4, fun id h => by simp at h, .one (by simp) h5, by rw [List.length_set, kill_length], fun j hj q1 q2 => ⟨?_, ?_⟩⟩
    · rw [call_builtin ho, hargs]
      have hb : ∀ c xs, builtin .append argTypes o.type c xs = (do pure (.value (← Builtin.append_ argTypes o.type xs))) := fun _ _ => rfl
      rw [hb, Sem.run_bind, append_args ht0 ht1]
      simp [h1, pure, Sem.run]
    · rw [getD_set_ne (by omega), getD_kill, q1]; split <;> rfl
    · rw [h6 j (by omega)]; exact q2
  obtain ⟨ad, cap, xcells, hxv, hcap, hR⟩ := rows_of hs hxs hr hel
  by_cases hroom : xs.length + ys.length ≤ cap
  · have none_ : xs = [] → ys = [] → cap = 0 → (isU8 C e = true → ad = none) → ∃ v S' ks, K v S' ks = some out ∧ OpOk C o F σ S w a slot v S' ks := by
      intro e1 e2 e3 had
      subst e1 e2 e3
      refine fin hK ?_
      rw [hxv]
      exact append_none hl hs hsl hu hde had hsrc _
    cases hxe : ev env ox <;> rw [hxe] at hxs hr hK hrl <;> simp only [elems] at hxs <;> try (cases hxs; done)
    case l e' zs => exact absurd hxe (hnl e' zs)
    case z m =>
      match m, hxs, hr with
      | 0, hxs, _ => simp at hxs
      | 1, hxs, hr =>
        simp only [Option.some.injEq] at hxs
        subst hxs
        rw [hxv] at hr
        generalize hln : ([] : List AV).length = ln at hr
        cases hr
        exact none_ rfl (by simpa using hroom) rfl fun _ => rfl
      | 8, hxs, hr =>
        simp only [Option.some.injEq] at hxs
        subst hxs
        rw [hxv] at hr
        generalize hln : ([] : List AV).length = ln at hr
        cases hr
        exact none_ rfl (by simpa using hroom) rfl fun h8 => by rw [h8] at hrl; simp [roomless] at hrl
      | 2, hxs, _ | 3, hxs, _ | 4, hxs, _ | 5, hxs, _ | 6, hxs, _ | 7, hxs, _ => simp at hxs
      | m + 9, hxs, _ => simp at hxs
    case w e' id =>
      rw [hxe] at hel
      simp only [elT] at hel
      obtain rfl : e' = e := by rcases hel with h | h <;> simp at h; exact h
      cases hS : S.getD id .dead <;> rw [hS] at hxs <;> simp only at hxs <;> try (cases hxs; done)
      rename_i e2 ws
      obtain rfl := Option.some.inj hxs
      have hB := hs.blk id
      rw [hS] at hB
      rcases hr.w_inv with ⟨b, o1, n, c, cap', g1, g2, g3, g4⟩ | ⟨g1, ad', g5, g4⟩
      · rw [g1] at hB
        obtain ⟨rfl, hn', hA⟩ := hB
        rw [hxv] at g4
        simp only [Value.slice.injEq] at g4
        obtain ⟨rfl, _, rfl⟩ := g4
        have := append_fits (rT := o.type) hl hs hsl hu hde hS g1 0 ws.length cap (by omega) (by omega) hyr hsrc hroom
        simp only [List.drop_zero, List.take_length, Nat.zero_mul, Nat.add_zero] at this
        refine fin hK ?_
        rw [hxv]
        exact this
      · rw [g1] at hB
        simp only [BlkAt] at hB
        subst hB
        rw [hxv] at g4
        simp only [Value.slice.injEq] at g4
        obtain ⟨rfl, _, rfl⟩ := g4
        exact none_ rfl (by simpa using hroom) rfl g5
    case r e' id off len =>
      rw [hxe] at hel
      simp only [elT] at hel
      obtain rfl : e' = e := by rcases hel with h | h <;> simp at h; exact h
      cases hS : S.getD id .dead <;> rw [hS] at hxs <;> simp only at hxs <;> try (cases hxs; done)
      rename_i e2 ws
      obtain rfl := Option.some.inj hxs
      have hB := hs.blk id
      rw [hS] at hB
      rw [hxv] at hr
      generalize hln : ((ws.drop off).take len).length = ln at hr hxv hroom
      cases hr with
      | r g1 g2 g3 g4 =>
        rename_i b o1 n c
        rw [g1] at hB
        obtain ⟨rfl, hn', hA⟩ := hB
        have := append_fits (rT := o.type) hl hs hsl hu hde hS g1 off len cap (by omega) (by omega) hyr hsrc hroom
        refine fin hK ?_
        rw [hxv]
        exact this
      | r0 => exact none_ (by simp) (by simpa using hroom) rfl fun h8 => by rw [h8] at hrl; simp [roomless] at hrl
  · refine fin hK ?_
    rw [hxv]
    exact append_grows hl hs hsl hu hz hby hR hcap hyr hsrc hb (by omega) _
end
end Go.Proofs.Ytfnepeilccainaa.Den

/- Proved here: values built of parts, new slices. Its condition: the program's type table is laid as the check 'layB' tells. -/
namespace Go.Proofs.Ytfnepeilccainaa.Den
open Go
set_option linter.unusedVariables false
set_option linter.unusedSimpArgs false
section
variable {C : Cfg}
variable {F : Nat → Prop} {σ : Sig} {S : List Blk} {w : World} {env : List AV} {a : Act} {o : Oper} {slot : Nat} {α : Type} {K : KV α} {out : α}
/-- One part goes in. -/
theorem fill_step (css : List (List Value)) (i : Nat) (c0 c : List Value) (h : css[i]? = some c0) (hc : c.length = c0.length) {off : Nat} (ho : off = (css.take i).flatten.length) :
    off + c.length ≤ css.flatten.length ∧ (c.zipIdx.foldl (fun cs (x : Value × Nat) => cs.setIfInBounds (off + x.2) x.1) css.flatten.toArray) = (css.set i c).flatten.toArray := by
  have hi := getElem?_lt h
  have e0 : css = css.take i ++ c0 :: css.drop (i + 1) := by
    have hc0 : css[i] = c0 := by rw [List.getElem?_eq_getElem hi] at h; exact Option.some.inj h
    rw [← hc0, List.getElem_cons_drop, List.take_append_drop]
  have e1 : css.set i c = css.take i ++ c :: css.drop (i + 1) := List.set_eq_take_append_cons_drop .. |>.trans (by rw [if_pos hi])
  have f0 : css.flatten = (css.take i).flatten ++ (c0 ++ (css.drop (i + 1)).flatten) := by
    conv => lhs; rw [e0]
    simp
  have hle : off + c.length ≤ css.flatten.length := by
    rw [f0, ho, hc]
    simp only [List.length_append]
    omega
  refine ⟨hle, ?_⟩
  obtain ⟨h1, h2⟩ := Go.Great.foldl_set off c 0 css.flatten.toArray
  apply Array.ext_getElem?
  intro k
  rw [h2 k, e1]
  simp only [Nat.add_zero, List.size_toArray, List.getElem?_toArray, List.flatten_append, List.flatten_cons]
  rw [f0]
  generalize (css.take i).flatten = A at *
  generalize (css.drop (i + 1)).flatten = B at *
  simp only [List.length_append]
  rw [List.getElem?_append, List.getElem?_append, List.getElem?_append, List.getElem?_append]
  by_cases q1 : k < A.length
  · rw [if_neg (by omega), if_pos q1, if_pos q1]
  · rw [if_neg q1, if_neg q1]
    by_cases q2 : k - A.length < c.length
    · rw [if_pos (by omega), if_pos (by omega), ho]
    · rw [if_neg (by omega), if_neg (by omega), if_neg (by omega), hc]
/-- Parts go in, each of its own type's size. -/
theorem fill_R {szs : List Nat} {place : Nat → Option (Nat × Nat)} (hp : ∀ i n, szs[i]? = some n → place i = some ((szs.take i).sum, n)) {Q : AV → List Value → Prop} : ∀ (L : List (Nat × AV × Value)) (zs : List AV) (css : List (List Value)), css.length = szs.length → zs.length = szs.length → (∀ (j : Nat) c n, css[j]? = some c → szs[j]? = some n → c.length = n) → (∀ (j : Nat) a c, zs[j]? = some a → css[j]? = some c → Q a c) →
    (∀ q ∈ L, ∃ n, szs[q.1]? = some n ∧ q.2.2.cells.size = n ∧ Q q.2.1 q.2.2.cells.toList) →
    ∃ css' : List (List Value), Instr.fill place css.flatten.toArray (L.map fun q => (q.1, q.2.2)) = some css'.flatten.toArray ∧ css'.length = szs.length ∧ (L.foldl (fun zs q => zs.set q.1 q.2.1) zs).length = szs.length ∧ (∀ (j : Nat) c n, css'[j]? = some c → szs[j]? = some n → c.length = n) ∧ (∀ (j : Nat) a c, (L.foldl (fun zs q => zs.set q.1 q.2.1) zs)[j]? = some a → css'[j]? = some c → Q a c)
  | [], zs, css, h1, h2, h3, h4, _ => ⟨css, rfl, h1, h2, h3, h4⟩
  | q :: L, zs, css, h1, h2, h3, h4, h5 => by
    obtain ⟨n, g1, g2, g3⟩ := h5 q (by simp)
    have hi := getElem?_lt g1
    obtain ⟨c0, hc0⟩ := getElem?_of_lt (l := css) (j := q.1) (by omega)
    have hl0 := h3 _ _ _ hc0 g1
    have htk : (szs.take q.1).sum = (css.take q.1).flatten.length := by
      rw [(flat_at (css.take q.1) (szs.take q.1) (by simp [h1]) fun j c m hc hm => by
        rw [List.getElem?_take] at hc hm
        split at hc
        · rename_i hj
          rw [if_pos hj] at hm
          exact h3 j c m hc hm
        · cases hc).1]
    obtain ⟨s1, s2⟩ := fill_step css q.1 c0 q.2.2.cells.toList hc0 (by simp [g2, hl0]) htk
    have key : Instr.fill place css.flatten.toArray ((q :: L).map fun q => (q.1, q.2.2)) = Instr.fill place (css.set q.1 q.2.2.cells.toList).flatten.toArray (L.map fun q => (q.1, q.2.2)) := by
      rw [List.map_cons]
      conv => lhs; unfold Instr.fill
      rw [hp _ _ g1]
      simp only
      rw [if_neg (by
        simp only [g2, bne_self_eq_false, Bool.false_or, List.size_toArray, decide_eq_true_eq, ne_eq, not_true_eq_false, decide_false, Bool.or_eq_true]
        have : q.2.2.cells.toList.length = n := by simp [g2]
        rw [this] at s1
        omega)]
      congr 1
      rw [← s2]
      rw [← Array.foldl_toList]
      congr 1
      simp
    obtain ⟨css', r1, r2, r3, r4, r5⟩ := fill_R hp L (zs.set q.1 q.2.1) (css.set q.1 q.2.2.cells.toList) (by simp [h1]) (by simp [h2]) (fun j c m hc hm => by
      rw [List.getElem?_set] at hc
      split at hc
      · rename_i e
        subst e
        rw [if_pos (by omega)] at hc
        rw [g1] at hm
        obtain rfl := Option.some.inj hc
        obtain rfl := Option.some.inj hm
        simp [g2]
      · exact h3 j c m hc hm) (fun j b c hb hc => by
      rw [List.getElem?_set] at hb hc
      split at hc
      · rename_i e
        subst e
        rw [if_pos (by omega)] at hc
        rw [if_pos rfl, if_pos (by omega)] at hb
        obtain rfl := Option.some.inj hc
        obtain rfl := Option.some.inj hb
        exact g3
      · rename_i e
        rw [if_neg e] at hb
        exact h4 j b c hb hc) fun p hp => h5 p (by simp [hp])
    exact ⟨css', key.trans r1, r2, r3, r4, r5⟩
theorem made_flat (z : Array Value) : ∀ n, madeCells z (n * z.size) = (List.replicate n z.toList).flatten.toArray
  | 0 => by simp [madeCells]
  | n + 1 => by
    have ih := congrArg Array.toList (made_flat z n)
    apply Array.ext'
    rw [List.replicate_succ']
    simp only [madeCells, Array.toList_map, Array.toList_range, List.flatten_append, List.flatten_cons, List.flatten_nil, List.append_nil] at ih ⊢
    rw [Nat.add_mul, Nat.one_mul, List.range_add, List.map_append, ih]
    congr 1
    apply List.ext_getElem
    · simp
    · intro j h1 h2
      simp only [List.length_map, List.length_range] at h1
      simp [Nat.mod_eq_of_lt h1, h1]
theorem rows_arr {w' : World} {e : TypeId} {xs : List AV} {css : List (List Value)} (hn : css.length = xs.length) (hx : ∀ (j : Nat) y c, xs[j]? = some y → css[j]? = some c → Wt C e y ∧ R C w F noSig y c ∧ c.length = C.sz e) (hl : layB C = true) (hk : ∀ b, F b → w'.heap[b]? = w.heap[b]?) {g nc : Nat} {cur : Array Value} (hg : w'.heap[g]? = some (.cells cur e (0, 0))) (hsz : cur.size = nc * C.sz e) (hnc : xs.length ≤ nc) (hcur : ∃ rest, cur.toList = css.flatten ++ rest) : ArrAt C w' F e xs g 0 nc := by
  obtain ⟨rest, hcur⟩ := hcur
  have := grown_new (C := C) (F := F) (w := w) hl (e := e) (xs := xs) (ys := []) (xcells := fun j => css.getD j []) (ycells := fun _ => []) (fun j y hy => by
    obtain ⟨c, hc⟩ := getElem?_of_lt (l := css) (j := j) (by have := getElem?_lt hy; omega)
    have := hx j y c hy hc
    simpa [List.getD_eq_getElem?_getD, hc] using this) (fun j y hy => by simp at hy) hk hg hsz (by simpa using hnc) ⟨rest, by
      rw [hcur, ← hn]
      have := range_getD css [] id
      simp only [id, List.map_id] at this
      rw [this]
      simp⟩
  simpa using this
theorem lies_self {P : Program} {T : TypeId} (h : P.cellsOf T ≠ 0) : liesAt P P.depth T 1 0 T 1 = true := by
  have hd : P.depth = (2 * (P.types.size + Made.depth) + 1) + 1 := rfl
  rw [hd]
  simp only [liesAt, Bool.or_eq_true]
  left
  rw [hd]
  simp [rowAt, h, sameLayout]
theorem lies_bytes {P : Program} {e : TypeId} (h : P.cellsOf e = 1) {count off n : Nat} (hn : off + n ≤ count) : liesAt P P.depth e count off e n = true := by
  have hd : P.depth = (2 * (P.types.size + Made.depth) + 1) + 1 := rfl
  rw [hd]
  simp only [liesAt, Bool.or_eq_true]
  left
  rw [hd]
  simp [rowAt, h, hn, sameLayout, Nat.mod_one]
theorem ok_convert (hl : layB C = true) {src dst : TypeId} {x : Operand} (hs : Sim C F σ S w) (he : EnvR C w F σ env a.tmps) (ho : o.op = .convert src dst x) (h : opD C S env slot K o.op = some out) : ∃ v S' ks, K v S' ks = some out ∧ OpOk C o F σ S w a slot v S' ks := by
  rw [ho] at h
  simp only [opD] at h
  have hx := ev_ok he x
  split at h
  · rename_i d k k' n hu1 hu2 ex
    rw [ex] at hx
    refine ⟨_, _, _, h, OpOk.still hs (val := .int k (k.wrap n)) ?_ (.one (by simp) .i)⟩
    simp [execOp, ho, hx.i_inv, convert, Sem.run_bind, run_underlying (und_P hu1) w, run_underlying (und_P hu2) w, Conv.intToInt, pure, Sem.run]
  · rename_i d s hu1 hu2 ex
    rw [ex] at hx
    refine ⟨_, _, _, h, OpOk.still hs (val := .string s) ?_ (.one (by simp) .s)⟩
    simp [execOp, ho, hx.s_inv, convert, Sem.run_bind, run_underlying (und_P hu1) w, run_underlying (und_P hu2) w, pure, Sem.run]
  · rename_i e hu1 hu2 hn
    obtain ⟨⟨hu8, ht⟩, h⟩ := ite_some h
    split at h <;> try (cases h; done)
    rename_i xs hxs
    have hr : R C w F σ (ev env x) [a.eval x] := by
      generalize ev env x = ax at hx hxs
      generalize a.eval x = vx at hx
      cases hx with
      | one h1 hr => exact hr
      | u => simp [elems] at hxs
      | agg => simp [elems] at hxs
      | t => simp [elems] at hxs
    obtain ⟨ad, cap, cells, hv, hcap, hrow⟩ := rows_of hs hxs hr ht
    have hue : C.und e = some (.int .u8) := by
      unfold isU8 at hu8
      split at hu8
      · assumption
      · cases hu8
    have hconv : (convert src dst (.slice ad xs.length cap)).run C.P w = .ok (.string (bytesOf xs)) w := by
      rw [run_convert_bytes_string w src dst e ad xs.length cap (und_P hu1) (und_P hue) (und_P hu2)]
      have hcell : ∀ (j : Nat) y, xs[j]? = some y → ∃ b o, ad = some ⟨b, o, none⟩ ∧ w.cell? ⟨b, o + j, none⟩ = some (.int .u8 y.int) := fun j y hy => by
        obtain ⟨q1, q2, q3, b, o1, q4, q5⟩ := hrow j y hy
        cases q1.1 <;> rename_i hu' <;> rw [hue] at hu' <;> cases hu'
        rename_i n
        cases hc : cells j with
        | nil => rw [hc] at q2; cases q2
        | cons c cs =>
          rw [hc] at q2 q3 q5
          cases q2
          have hsz : C.sz e = 1 := by simpa using q3.symm
          rw [hsz, Nat.mul_one] at q5
          exact ⟨b, o1, q4, by simpa [AV.int] using q5 0 _ rfl⟩
      cases ad with
      | none =>
        have : xs = [] := by
          cases xs with
          | nil => rfl
          | cons y ys => obtain ⟨_, _, q, _⟩ := hcell 0 y rfl; cases q
        subst this
        rfl
      | some p =>
        have := run_bytesToString (P := C.P) w p xs.length cap (xs.map AV.int) (by
          have := run_loadCells_list (P := C.P) w p ((xs.map AV.int).map (Value.int .u8)) fun j v hj => by
            rw [List.getElem?_map, List.getElem?_map] at hj
            cases hy : xs[j]? with
            | none => rw [hy] at hj; simp at hj
            | some y =>
              rw [hy] at hj
              simp only [Option.map_some, Option.some.injEq] at hj
              obtain ⟨b, o1, q1, q2⟩ := hcell j y hy
              cases q1
              rw [Addr.add_mid, q2, ← hj]
          simpa using this)
        rw [this]
        rfl
    refine ⟨_, _, _, h, OpOk.still hs (val := .string (bytesOf xs)) ?_ (.one (by simp) .s)⟩
    simp [execOp, ho, hv, Sem.run_bind, hconv, pure, Sem.run]
  · rename_i T1 id path hu1 hu2 ex
    rw [ex] at hx
    split at h <;> try (cases h; done)
    rename_i T v hS
    have hq := ite_some h
    clear h
    obtain ⟨⟨hp, hpk⟩, h⟩ := hq
    have hb := hs.blk id
    rw [hS] at hb
    have hr := hx.one_inv (by simp) (by simp) (by simp)
    generalize hpv : a.eval x = pv at hr hx
    cases hr with
    | p h1 h2 =>
      rename_i b T2 T3
      rw [h1] at hb
      obtain ⟨rfl, hshv, cur, t, hh, hrr⟩ := hb
      obtain ⟨cs', r1, r2, r3, r4⟩ := path_at hl path _ T1 v cur.toList hshv hrr hp
      obtain ⟨T4, hp4, hz⟩ := pok_pty hpk
      rw [hp] at hp4
      cases hp4
      obtain ⟨d1, hd1⟩ := sh_und r2
      have hi := sz_info hd1
      cases hj : C.P.info? T1 with
      | none => rw [hj] at hi; cases hi
      | some j =>
        rw [hj] at hi
        simp only [Option.map_some, Option.some.injEq] at hi
        refine ⟨_, _, _, h, OpOk.still hs (val := .pointer (some ⟨b, poff C _ path, none⟩)) ?_ hx⟩
        have := Lib.run_to_unsafe (P := C.P) w (src := src) (dst := dst) (e := T2) (cells := cur.size) ⟨b, poff C _ path, none⟩ (und_P hu1) (und_P hu2) hj (by rw [hi]; exact hz) (by simp [World.shape?, hh]) (Nat.lt_of_lt_of_le (Nat.lt_add_of_pos_right (Nat.pos_of_ne_zero hz)) (by simpa using r3))
        simp [execOp, ho, hpv, Sem.run_bind, this, pure, Sem.run]
    | pa h1 => rw [h1] at hb; exact hb.elim
  · rename_i T1 id hu1 hu2 ex
    rw [ex] at hx
    split at h <;> try (cases h; done)
    rename_i T v hS
    have hq := ite_some h
    clear h
    obtain ⟨⟨rfl, hpk⟩, h⟩ := hq
    have hb := hs.blk id
    rw [hS] at hb
    have hr := hx.one_inv (by simp) (by simp) (by simp)
    generalize hpv : a.eval x = pv at hr hx
    cases hr with
    | p h1 h2 =>
      rename_i b T2 T3
      rw [h1] at hb
      obtain ⟨rfl, hshv, cur, t, hh, hrr⟩ := hb
      obtain ⟨T4, hp4, hz⟩ := pok_pty hpk
      cases hp4
      have hlen := sh_len hl hshv hrr
      obtain ⟨d1, hd1⟩ := sh_und hshv
      have hi := sz_info hd1
      cases hj : C.P.info? T2 with
      | none => rw [hj] at hi; cases hi
      | some j =>
        refine ⟨_, _, _, h, OpOk.still hs (val := .pointer (some ⟨b, poff C T2 [], none⟩)) ?_ hx⟩
        have hc : cur.size / C.P.cellsOf T2 = 1 := by
          have e : cur.size = C.P.cellsOf T2 := by simpa using hlen
          rw [e]
          exact Nat.div_self (Nat.pos_of_ne_zero hz)
        have := Lib.run_from_unsafe (P := C.P) w (src := src) (dst := dst) (e := T2) (cells := cur.size) ⟨b, 0, none⟩ (und_P hu1) (und_P hu2) hj (by simp [World.shape?, hh]) (by rw [hc]; exact lies_self hz)
        simp [execOp, ho, hpv, Sem.run_bind, this, poff, pure, Sem.run]
    | pa h1 => rw [h1] at hb; exact hb.elim
  · cases h
theorem ok_max {args : Array Operand} {argTypes : Array TypeId} (hs : Sim C F σ S w) (he : EnvR C w F σ env a.tmps) (ho : o.op = .call { callee := .builtin .max, args, argTypes }) (h : opD C S env slot K o.op = some out) : ∃ v S' ks, K v S' ks = some out ∧ OpOk C o F σ S w a slot v S' ks := by
  rw [ho] at h
  simp only [opD] at h
  split at h <;> try (cases h; done)
  rename_i k n k' m hm
  obtain ⟨x, y, hxy, e1, e2⟩ : ∃ x y, args.toList = [x, y] ∧ ev env x = .i k n ∧ ev env y = .i k' m := by
    cases hl : args.toList with
    | nil => rw [hl] at hm; simp at hm
    | cons x l =>
      cases l with
      | nil => rw [hl] at hm; simp at hm
      | cons y l =>
        cases l with
        | nil => rw [hl] at hm; simp only [List.map_cons, List.map_nil, List.cons.injEq, and_true] at hm; exact ⟨x, y, rfl, hm.1, hm.2⟩
        | cons => rw [hl] at hm; simp at hm
  have hx := ev_ok he x
  have hy := ev_ok he y
  rw [e1] at hx
  rw [e2] at hy
  refine ⟨_, _, _, h, OpOk.still hs (val := .int k (if m > n then m else n)) ?_ (.one (by simp) .i)⟩
  rw [call_builtin ho, arr_two hxy]
  simp [builtin, hx.i_inv, hy.i_inv, run_max_int2, Sem.run_bind, pure, Sem.run]
theorem ok_min {args : Array Operand} {argTypes : Array TypeId} (hs : Sim C F σ S w) (he : EnvR C w F σ env a.tmps) (ho : o.op = .call { callee := .builtin .min, args, argTypes }) (h : opD C S env slot K o.op = some out) : ∃ v S' ks, K v S' ks = some out ∧ OpOk C o F σ S w a slot v S' ks := by
  rw [ho] at h
  simp only [opD] at h
  split at h <;> try (cases h; done)
  rename_i k n k' m hm
  obtain ⟨x, y, hxy, e1, e2⟩ : ∃ x y, args.toList = [x, y] ∧ ev env x = .i k n ∧ ev env y = .i k' m := by
    cases hl : args.toList with
    | nil => rw [hl] at hm; simp at hm
    | cons x l =>
      cases l with
      | nil => rw [hl] at hm; simp at hm
      | cons y l =>
        cases l with
        | nil => rw [hl] at hm; simp only [List.map_cons, List.map_nil, List.cons.injEq, and_true] at hm; exact ⟨x, y, rfl, hm.1, hm.2⟩
        | cons => rw [hl] at hm; simp at hm
  have hx := ev_ok he x
  have hy := ev_ok he y
  rw [e1] at hx
  rw [e2] at hy
  refine ⟨_, _, _, h, OpOk.still hs (val := .int k (if m < n then m else n)) ?_ (.one (by simp) .i)⟩
  rw [call_builtin ho, arr_two hxy]
  simp [builtin, hx.i_inv, hy.i_inv, run_min_int2, Sem.run_bind, pure, Sem.run]
end
end Go.Proofs.Ytfnepeilccainaa.Den
