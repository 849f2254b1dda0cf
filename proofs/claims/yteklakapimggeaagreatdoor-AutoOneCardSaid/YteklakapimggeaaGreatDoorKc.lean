/- Proved here: a part of the proof, told one step at a time: DenY, DenZ, DenZA, DenZB, DenZC, DenZD, DenZE, DenZF, DenZG, DenZH. No condition but those each theorem names. -/
import Derived.Test.YteklakapimggeaaGreatDoorKb
namespace Go.Proofs.YteklakapimggeaaGreatDoor.Den
open Go
set_option linter.unusedVariables false
set_option linter.unusedSimpArgs false
section
variable {C : Cfg}
theorem slotL_at : ∀ (L : List Oper) (b i : Nat), i < L.length → (slotL b L).getD i 0 = slotAt L b i
 | [], b, i, h => by simp at h
 | o :: L, b, i, h => by
  cases i with
  | zero => simp [slotL, slotAt]
  | succ i =>
   have := slotL_at L (b + slotsOf o.op) i (by simpa using h)
   simp only [slotAt, List.take_succ_cons, List.map_cons, List.sum_cons] at this ⊢
   simp only [slotL, List.getD_eq_getElem?_getD, List.getElem?_cons_succ] at this ⊢
   rw [this]
   omega
theorem slotAt_succ {L : List Oper} {b i : Nat} {o : Oper} (h : L[i]? = some o) : slotAt L b (i + 1) = slotAt L b i + slotsOf o.op := by
 have hi := getElem?_lt h
 have e : L[i] = o := by rw [List.getElem?_eq_getElem hi] at h; exact Option.some.inj h
 unfold slotAt
 rw [List.take_add_one, h]
 simp
 omega
theorem slotAt_le {L : List Oper} {b : Nat} : ∀ {i j : Nat}, i ≤ j → slotAt L b i ≤ slotAt L b j := fun {i j} h => by
 unfold slotAt
 have : L.take j = L.take i ++ (L.take j).drop i := by
  conv => lhs; rw [← List.take_append_drop i (L.take j), List.take_take, Nat.min_eq_left h]
 rw [this]
 simp
def inSlot (L : List Oper) (b j id : Nat) : Prop := slotAt L b j ≤ id ∧ id < slotAt L b (j + 1)
theorem inSlot_one {L : List Oper} {b i j id : Nat} (h1 : inSlot L b i id) (h2 : inSlot L b j id) : i = j := by
 unfold inSlot at *
 rcases Nat.lt_trichotomy i j with h | h | h
 ·have := slotAt_le (L := L) (b := b) (i := i + 1) (j := j) (by omega)
  omega
 ·exact h
 ·have := slotAt_le (L := L) (b := b) (i := j + 1) (j := i) (by omega)
  omega
theorem mem_hidOf {L : List Oper} {b i id : Nat} (hi : i ≤ L.length) : id ∈ hidOf (ancs L []) L (slotL b L) i ↔ ∃ j, j < i ∧ j ∉ anc L i ∧ inSlot L b j id := by
 unfold hidOf
 rw [List.mem_flatMap]
 constructor
 ·rintro ⟨⟨o, j⟩, h1, h2⟩
  rw [List.mem_filter] at h1
  obtain ⟨h1, h3⟩ := h1
  obtain ⟨k, hk⟩ := List.getElem?_of_mem h1
  rw [List.getElem?_zipIdx] at hk
  cases hq : (L.take i)[k]? with
  | none => rw [hq] at hk; cases hk
  | some o' =>
   rw [hq] at hk
   simp only [Option.map_some, Option.some.injEq, Prod.mk.injEq, Nat.zero_add] at hk
   obtain ⟨rfl, rfl⟩ := hk
   rw [List.getElem?_take] at hq
   split at hq <;> try (cases hq; done)
   rename_i hlt
   simp only [Bool.and_eq_true, Bool.not_eq_true', bne_iff_ne] at h3
   refine ⟨k, hlt, ?_, ?_⟩
   ·unfold anc
    have := h3.1
    simpa using this
   ·obtain ⟨m, hm, rfl⟩ := List.mem_map.mp h2
    rw [List.mem_range] at hm
    dsimp only at hm ⊢
    rw [slotL_at L b k (getElem?_lt hq)]
    unfold inSlot
    rw [slotAt_succ hq]
    omega
 ·rintro ⟨j, h1, h2, h3⟩
  obtain ⟨o, ho⟩ := getElem?_of_lt (l := L) (j := j) (by omega)
  unfold inSlot at h3
  rw [slotAt_succ ho] at h3
  refine ⟨(o, j), ?_, ?_⟩
  ·rw [List.mem_filter]
   refine ⟨List.mem_iff_getElem?.mpr ⟨j, by rw [List.getElem?_zipIdx, List.getElem?_take, if_pos h1, ho]; simp⟩, ?_⟩
   simp only [Bool.and_eq_true, Bool.not_eq_true', bne_iff_ne]
   refine ⟨?_, by omega⟩
   unfold anc at h2
   simpa using h2
  ·rw [List.mem_map]
   refine ⟨id - slotAt L b j, by rw [List.mem_range]; dsimp only; omega, ?_⟩
   dsimp only
   rw [slotL_at L b j (getElem?_lt ho)]
   omega
theorem freeP_iff {L : List Oper} {i j : Nat} : freeP (ancs L []) i j = true ↔ j ∉ anc L i ∧ i ∉ anc L j := by
 unfold freeP anc
 simp
theorem alone_iff {L : List Oper} {i : Nat} {o : Oper} (hi : L[i]? = some o) : aloneB C (ancs L []) L i = true ↔ clsO C o = 1 ∧ ∃ m q, L[m]? = some q ∧ clsO C q = 3 ∧ freeP (ancs L []) i m = true := by
 unfold aloneB
 rw [hi]
 simp only [Bool.and_eq_true, beq_iff_eq, List.any_eq_true]
 refine and_congr_right fun _ => ⟨?_, ?_⟩
 ·rintro ⟨⟨q, m⟩, h1, h2, h3⟩
  obtain ⟨k, hk⟩ := List.getElem?_of_mem h1
  rw [List.getElem?_zipIdx] at hk
  cases hq : L[k]? with
  | none => rw [hq] at hk; cases hk
  | some q' =>
   rw [hq] at hk
   simp only [Option.map_some, Option.some.injEq, Prod.mk.injEq, Nat.zero_add] at hk
   obtain ⟨rfl, rfl⟩ := hk
   exact ⟨k, q', hq, h2, h3⟩
 ·rintro ⟨m, q, h1, h2, h3⟩
  exact ⟨(q, m), List.mem_iff_getElem?.mpr ⟨m, by rw [List.getElem?_zipIdx, h1]; simp⟩, h2, h3⟩
theorem loose_iff {L : List Oper} {i : Nat} {o : Oper} (hi : L[i]? = some o) : looseB C (ancs L []) L i = true ↔ clsO C o = 2 ∧ ∃ m q, L[m]? = some q ∧ clsO C q = 3 ∧ freeP (ancs L []) i m = true := by
 unfold looseB
 rw [hi]
 simp only [Bool.and_eq_true, beq_iff_eq, List.any_eq_true]
 refine and_congr_right fun _ => ⟨?_, ?_⟩
 ·rintro ⟨⟨q, m⟩, h1, h2, h3⟩
  obtain ⟨k, hk⟩ := List.getElem?_of_mem h1
  rw [List.getElem?_zipIdx] at hk
  cases hq : L[k]? with
  | none => rw [hq] at hk; cases hk
  | some q' =>
   rw [hq] at hk
   simp only [Option.map_some, Option.some.injEq, Prod.mk.injEq, Nat.zero_add] at hk
   obtain ⟨rfl, rfl⟩ := hk
   exact ⟨k, q', hq, h2, h3⟩
 ·rintro ⟨m, q, h1, h2, h3⟩
  exact ⟨(q, m), List.mem_iff_getElem?.mpr ⟨m, by rw [List.getElem?_zipIdx, h1]; simp⟩, h2, h3⟩
theorem mem_ownSl {L : List Oper} {b i id : Nat} : id ∈ ownSl L (slotL b L) i ↔ i < L.length ∧ inSlot L b i id := by
 unfold ownSl
 by_cases h : i < L.length
 ·obtain ⟨o, ho⟩ := getElem?_of_lt h
  rw [ho]
  dsimp only
  rw [List.mem_map, slotL_at L b i h]
  unfold inSlot
  rw [slotAt_succ ho]
  constructor
  ·rintro ⟨j, h1, rfl⟩
   have := List.mem_range.mp h1
   omega
  ·intro ⟨_, h1, h2⟩
   exact ⟨id - slotAt L b i, List.mem_range.mpr (by omega), by omega⟩
 ·rw [List.getElem?_eq_none (by omega)]
  simp [h]
def turnHid (C : Cfg) (b : Nat) (env : List AV) (L : List Oper) (i : Nat) : List Nat := (List.range L.length).flatMap fun k => if freeP (ancs L []) k i = true then (if aloneB C (ancs L []) L k = true then rdOf b env L k else if looseB C (ancs L []) L k = true then ownSl L (slotL b L) k else []) else []
theorem turnHid_alone {b : Nat} {env : List AV} {L : List Oper} {i id k : Nat} (hk : k < L.length) (h1 : aloneB C (ancs L []) L k = true) (h2 : freeP (ancs L []) k i = true) (h3 : id ∈ rdOf b env L k) : id ∈ turnHid C b env L i := by
 unfold turnHid
 rw [List.mem_flatMap]
 exact ⟨k, List.mem_range.mpr hk, by rw [if_pos h2, if_pos h1]; exact h3⟩
theorem turnHid_loose {b : Nat} {env : List AV} {L : List Oper} {i id k : Nat} {o q : Oper} (hk : L[k]? = some o) (h1 : clsO C o = 2) (hi : L[i]? = some q) (hq : clsO C q = 3) (h2 : freeP (ancs L []) k i = true) (h3 : inSlot L b k id) : id ∈ turnHid C b env L i := by
 unfold turnHid
 rw [List.mem_flatMap]
 refine ⟨k, List.mem_range.mpr (getElem?_lt hk), ?_⟩
 rw [if_pos h2, if_neg (fun r => by have := ((alone_iff hk).mp r).1; omega), if_pos ((loose_iff hk).mpr ⟨h1, i, q, hi, hq, h2⟩)]
 exact mem_ownSl.mpr ⟨getElem?_lt hk, h3⟩
theorem rdOf_lt {b : Nat} {env : List AV} {L : List Oper} {i id : Nat} (h : id ∈ rdOf b env L i) : id < b := by
 unfold rdOf at h
 split at h
 ·split at h
  ·simpa using (List.mem_filter.mp h).2
  ·simp at h
 ·simp at h
theorem mem_turnHid {b : Nat} {env : List AV} {L : List Oper} {i id : Nat} (h : id ∈ turnHid C b env L i) : id < b ∨ ∃ k o, L[k]? = some o ∧ clsO C o = 2 ∧ freeP (ancs L []) k i = true ∧ inSlot L b k id := by
 unfold turnHid at h
 rw [List.mem_flatMap] at h
 obtain ⟨k, h1, h2⟩ := h
 obtain ⟨o, ho⟩ := getElem?_of_lt (l := L) (List.mem_range.mp h1)
 split at h2
 ·rename_i h3
  split at h2
  ·exact .inl (rdOf_lt h2)
  ·split at h2
   ·rename_i h4
    exact .inr ⟨k, o, ho, ((loose_iff ho).mp h4).1, h3, (mem_ownSl.mp h2).2⟩
   ·simp at h2
 ·simp at h2
def seeHid (b : Nat) (env : List AV) (L : List Oper) (i : Nat) : List Nat := (List.range (b + (L.map fun o => slotsOf o.op).sum)).filter fun id => !(rdOf b env L i).contains id
def owHid (b : Nat) (L : List Oper) (i : Nat) : List Nat := (List.range (b + (L.map fun o => slotsOf o.op).sum)).filter fun id => !(ownSl L (slotL b L) i).contains id
theorem planOf_at {L : List Oper} {b i : Nat} {env : List AV} {o : Oper} (hi : L[i]? = some o) : (planOf C b env L).getD i (some [], true) = if clsO C o = 0 then (none, false) else if clsO C o = 3 then (some (turnHid C b env L i), true) else if aloneB C (ancs L []) L i = true then (some (seeHid b env L i), false) else if looseB C (ancs L []) L i = true then (some (owHid b L i), false) else (some (hidOf (ancs L []) L (slotL b L) i), false) := by
 unfold planOf
 dsimp only
 rw [List.getD_eq_getElem?_getD, List.getElem?_map, List.getElem?_zipIdx, hi]
 simp only [Option.map_some, Nat.zero_add, Option.getD_some]
 rfl
end
section
variable {C : Cfg} {call : CallF} {L : List Oper} {b : Nat} {E : Nat → List AV} {St : Nat → List Blk} {V : Nat → AV} {KS : Nat → List Nat} {env0 : List AV}
structure Inv (C : Cfg) (L : List Oper) (b : Nat) (E : Nat → List AV) (St : Nat → List Blk) (KS : Nat → List Nat) (env0 : List AV) (F0 : Nat → Prop) (σ0 : Sig) (S0 : List Blk) (w0 : World) (ds : List Deferred) (D : Nat → Prop) (c : Nat) (T : List Blk) (F : Nat → Prop) (σ : Sig) (a : Act) (w : World) : Prop where
 cn : c ≤ L.length
 cut : c < L.length → ¬ D c ∧ ∃ o, L[c]? = some o ∧ clsO C o = 3
 pre : ∀ j o, j < c → L[j]? = some o → clsO C o = 3 → D j
 sim : Sim C F σ T w
 len : T.length = S0.length
 hid : ∀ id j, j < L.length → ¬ D j → inSlot L b j id → T.getD id .dead = .dead
 vis : ∀ id k, c ≤ k → k ≤ L.length → (∀ j, j < L.length → inSlot L b j id → D j ∧ j < k) → (∀ m q, c ≤ m → m < k → L[m]? = some q → clsO C q = 3 → id ∈ turnHid C b env0 L m) → T.getD id .dead = (St k).getD id .dead
 fut : ∀ i j id, i ≤ c → i ≤ j → j < L.length → inSlot L b j id → (St i).getD id .dead = .dead
 lenS : ∀ i, i ≤ c → (St i).length = S0.length
 slo : ∀ j id, j < L.length → ¬ D j → inSlot L b j id → σ id = .no ∧ id < S0.length
 tm : (E 0).length = a.tmps.size
 envc : ∀ i o, L[i]? = some o → ¬ D i → ∀ t ∈ o.looksAt L.toArray, (∀ j oj, j < i → L[j]? = some oj → oj.dst = some t → D j) → VR C w F σ ((E i).getD t .u) (a.tmps.getD t undef)
 enve : ∀ t, (∀ j oj, L[j]? = some oj → oj.dst = some t → D j) → VR C w F σ ((E L.length).getD t .u) (a.tmps.getD t undef)
 opn : ∀ i, i < L.length → D i → KS i ≠ [] → OpenOk C F σ w [(hideS ((planOf C b env0 L).getD i (some [], true)).1 (St i), KS i)]
 down : ∀ i o, D i → L[i]? = some o → ∀ e ∈ o.after.toList, Region.binds .any e = true → D e.on
 dn : ∀ i, D i → i < L.length
 defs : a.defers = ds
 stp : Stp C F0 σ0 S0 w0 F σ T w
 ext : ∀ id, σ0 id ≠ .no → σ id = σ0 id
theorem Chain.envLen {pl : Plan} (h : Chain C call L L pl b E St V KS) : ∀ i, i ≤ L.length → (E i).length = (E 0).length := by
 intro i
 induction i with
 | zero => exact fun _ => rfl
 | succ i ih =>
  intro hi
  obtain ⟨o, ho⟩ := getElem?_of_lt (l := L) (j := i) (by omega)
  obtain ⟨S', _, h2, _⟩ := h.step i o ho
  rw [h2, ← ih (by omega)]
  cases o.dst <;> simp [putE]
theorem Chain.envSame {pl : Plan} (h : Chain C call L L pl b E St V KS) {t i : Nat} : ∀ j, i ≤ j → j ≤ L.length → (∀ k o, i ≤ k → k < j → L[k]? = some o → o.dst ≠ some t) → (E j).getD t .u = (E i).getD t .u := by
 intro j hij
 induction hij with
 | refl => exact fun _ _ => rfl
 | step hij ih =>
  rename_i j
  intro hj hno
  obtain ⟨o, ho⟩ := getElem?_of_lt (l := L) (j := j) (by omega)
  obtain ⟨S', _, h2, _⟩ := h.step j o ho
  rw [h2, ← ih (by omega) fun k o h1 h3 => hno k o h1 (by omega)]
  have := hno j o hij (by omega) ho
  cases hd : o.dst with
  | none => rfl
  | some d =>
   simp only [putE, List.getD_eq_getElem?_getD, List.getElem?_set]
   rw [if_neg fun e => this (by rw [hd, e])]
theorem Chain.envLast {pl : Plan} (h : Chain C call L L pl b E St V KS) {t i j : Nat} {o : Oper} (ho : L[i]? = some o) (hd : o.dst = some t) (ht : t < (E 0).length) (hij : i < j) (hj : j ≤ L.length) (hno : ∀ k o, i < k → k < j → L[k]? = some o → o.dst ≠ some t) : (E j).getD t .u = V i := by
 rw [h.envSame (i := i + 1) j (by omega) hj fun k o h1 h2 => hno k o (by omega) h2]
 obtain ⟨S', _, h2, _⟩ := h.step i o ho
 have hlen := h.envLen i (by have := getElem?_lt ho; omega)
 rw [h2, hd]
 simp only [putE, List.getD_eq_getElem?_getD, List.getElem?_set, if_true]
 rw [if_pos (by omega)]
 rfl
theorem put_getD {a : Act} {t : Nat} {val : Value} {dst : Option Tmp} (h : dst ≠ some t) : (a.put dst val).tmps.getD t undef = a.tmps.getD t undef := by
 cases dst with
 | none => rfl
 | some d =>
  simp only [Act.put, Array.getD_eq_getD_getElem?, Array.getElem?_setIfInBounds]
  rw [if_neg fun e => h (by rw [e])]
theorem put_getD_self {a : Act} {t : Nat} {val : Value} (h : t < a.tmps.size) : (a.put (some t) val).tmps.getD t undef = val := by
 simp [Act.put, Array.getD_eq_getD_getElem?, Array.getElem?_setIfInBounds, h]
theorem put_size (a : Act) (dst : Option Tmp) (val : Value) : (a.put dst val).tmps.size = a.tmps.size := by cases dst <;> simp [Act.put]
theorem looks_env {L : List Oper} {oi oj : Oper} (h : oi.apart L.toArray oj = true) : (∀ d, oi.dst = some d → d ∉ oj.looksAt L.toArray) ∧ (∀ d, oi.dst = some d → oj.dst ≠ some d) ∧ (∀ d, oj.dst = some d → d ∉ oi.looksAt L.toArray) := Oper.apart_spec h
theorem Inv.envs {pl : Plan} {F0 : Nat → Prop} {σ0 : Sig} {S0 : List Blk} {w0 : World} {ds : List Deferred} {D : Nat → Prop} {c : Nat} {T : List Blk} {F F' : Nat → Prop} {σ σ' : Sig} {a : Act} {w w' : World} (hd : Draw C L) (hc : Chain C call L L pl b E St V KS) (h : Inv C L b E St KS env0 F0 σ0 S0 w0 ds D c T F σ a w)
  {i : Nat} {o : Oper} (hi : L[i]? = some o) (hnD : ¬ D i) (hedge : ∀ e ∈ o.after.toList, Region.binds .any e = true → D e.on) {val : Value} (hv : VR C w' F' σ' (V i) val) (hk : ∀ b, F b → w'.heap[b]? = w.heap[b]?) (hF : ∀ b, F b → F' b) (hσ : ∀ id, σ id ≠ .no → σ' id = σ id) :
  (∀ k ok, L[k]? = some ok → ¬ (D k ∨ k = i) → ∀ t ∈ ok.looksAt L.toArray, (∀ j oj, j < k → L[j]? = some oj → oj.dst = some t → D j ∨ j = i) → VR C w' F' σ' ((E k).getD t .u) ((a.put o.dst val).tmps.getD t undef)) ∧
  (∀ t, (∀ j oj, L[j]? = some oj → oj.dst = some t → D j ∨ j = i) → VR C w' F' σ' ((E L.length).getD t .u) ((a.put o.dst val).tmps.getD t undef)) := by
 have hanc := anc_in hd h.down i o hi hedge
 have last : ∀ t k, o.dst = some t → i < k → k ≤ L.length → (∀ j oj, j < k → L[j]? = some oj → oj.dst = some t → D j ∨ j = i) → VR C w' F' σ' ((E k).getD t .u) ((a.put o.dst val).tmps.getD t undef) := fun t k ht hik hkn hw => by
  by_cases hts : t < a.tmps.size
  ·rw [hc.envLast hi ht (by rw [h.tm]; exact hts) hik hkn fun j oj h1 h2 h3 h4 => ?_, ht, put_getD_self hts]
   ·exact hv
   ·have hDj : D j := by
     rcases hw j oj h2 h3 h4 with q | q
     ·exact q
     ·omega
    rcases hd.pair j i oj o h1 h3 hi with q | ⟨_, _, q⟩
    ·exact hnD (anc_in hd h.down j oj h3 (h.down j oj hDj h3) i q)
    ·exact (looks_env q).2.1 t h4 ht
  ·rw [List.getD_eq_getElem?_getD, List.getElem?_eq_none (by rw [hc.envLen k hkn, h.tm]; exact Nat.le_of_not_lt hts)]
   exact .u
 refine ⟨fun k ok hkk hnk t ht hw => ?_, fun t hw => ?_⟩
 ·by_cases e : o.dst = some t
  ·have hki : k ≠ i := fun q => hnk (.inr q)
   rcases Nat.lt_trichotomy i k with q | q | q
   ·exact last t k e q (by have := getElem?_lt hkk; omega) hw
   ·exact absurd q.symm hki
   ·rcases hd.pair i k o ok q hi hkk with r | ⟨_, _, r⟩
    ·exact absurd (.inl (hanc k r)) hnk
    ·exact absurd ht ((looks_env r).1 t e)
  ·rw [put_getD e]
   refine (h.envc k ok hkk (fun q => hnk (.inl q)) t ht fun j oj h1 h2 h3 => ?_).mono hk hF hσ
   rcases hw j oj h1 h2 h3 with q | q
   ·exact q
   ·subst q
    rw [hi] at h2
    obtain rfl := Option.some.inj h2
    exact absurd h3 e
 ·by_cases e : o.dst = some t
  ·exact last t L.length e (getElem?_lt hi) (Nat.le_refl _) fun j oj _ h2 h3 => hw j oj h2 h3
  ·rw [put_getD e]
   refine (h.enve t fun j oj h2 h3 => ?_).mono hk hF hσ
   rcases hw j oj h2 h3 with q | q
   ·exact q
   ·subst q
    rw [hi] at h2
    obtain rfl := Option.some.inj h2
    exact absurd h3 e
end
section
variable {C : Cfg} {S : List Blk} {env : List AV} {o : Oper} {slot : Nat} {call : CallF}
def Len (S : List Blk) (r : Option (AV × List Blk × List Nat)) : Prop := ∀ q, r = some q → q.2.1.length = S.length
theorem Len.none : Len S none := fun q h => by cases h
theorem Len.some {v : AV} {S' : List Blk} {ks : List Nat} (h : S'.length = S.length) : Len S (some (v, S', ks)) := fun q e => by cases e; exact h
theorem Len.ite {c : Prop} [Decidable c] {r : Option (AV × List Blk × List Nat)} (h : Len S r) : Len S (if c then r else Option.none) := by
 split
 ·exact h
 ·exact .none
theorem Still.len {r : Option (AV × List Blk × List Nat)} (h : Still S r) : Len S r := fun q e => by rw [(h q e).1]
theorem opD_len {op : Op} : Len S (opD C S env slot keepK op) := by
 by_cases hc : cls op ≤ 1
 ·exact (cls_still hc).len
 cases op
 case alloc T =>
  simp only [opD]
  refine .ite ?_
  split
  ·split
   ·exact .some (by simp)
   ·exact .none
  ·exact .some (by simp)
 case box T x =>
  simp only [opD]
  split
  ·split
   ·exact .some (by simp)
   ·exact .none
  ·exact .ite (.some (by simp))
 case buildSlice T n ps =>
  simp only [opD]
  split
  ·refine .ite ?_
   split
   ·exact .some (by simp [kill_length])
   ·exact .none
  ·exact .none
 case makeSlice T x y =>
  simp only [opD]
  split
  ·refine .ite ?_
   split
   ·exact .ite (.some (by simp))
   ·exact .none
  ·exact .none
 case makeMap T r =>
  cases r <;> simp only [opD]
  ·split
   ·exact .some (by simp)
   ·exact .none
  ·exact .none
 case mapUpdate T x k y =>
  simp only [opD]
  unfold updD
  split
  ·split
   ·exact .ite (.some (by simp))
   ·exact .none
  ·exact .none
 case insert T x k y =>
  simp only [opD]
  unfold updD
  split
  ·split
   ·exact .ite (.some (by simp))
   ·exact .none
  ·exact .none
 case store T x y =>
  simp only [opD]
  split
  ·split
   ·exact .ite (.some (by simp))
   ·split
    ·exact .ite (.some (by simp))
    ·exact .none
   ·exact .none
  ·split
   ·refine .ite ?_
    split
    ·exact .ite (.some (by simp [kill_length]))
    ·exact .none
   ·exact .none
  ·exact .none
 case call c =>
  obtain ⟨callee, args, tys⟩ := c
  cases callee
  case builtin bb =>
   cases bb <;> simp only [opD] <;> try exact .none
   case len => simp [cls] at hc
   case max => simp [cls] at hc
   case min => simp [cls] at hc
   case clear =>
    split
    ·refine .ite ?_
     split
     ·exact .ite (.some (by simp))
     ·exact .none
    ·exact .none
   case append =>
    split
    ·refine .ite (.ite ?_)
     split
     ·split
      ·exact .none
      ·exact .ite (.some (by simp [kill_length]))
     ·exact .none
    ·exact .none
  all_goals (simp only [opD]; exact .none)
 all_goals first
  | (simp [cls] at hc; done)
  | (simp only [opD]; exact .none)
theorem setL_length : ∀ (Bs : List Blk) (S : List Blk) (slot : Nat), (setL S slot Bs).length = S.length
 | [], _, _ => rfl
 | B :: Bs, S, slot => by unfold setL; rw [setL_length Bs]; simp
theorem putAll_length : ∀ (ps : List (Nat × TypeId × Option Nat)) (o : List AV) (S : List Blk) (slot : Nat), (putAll C ps o S slot).2.1.length = S.length
 | [], _, _, _ => rfl
 | (m, T, none) :: ps, o, S, slot => by simp only [putAll]; rw [putAll_length ps, setL_length]
 | (m, T, some id) :: ps, o, S, slot => by simp only [putAll]; rw [putAll_length ps, setL_length]; simp
theorem callD_len (hu : SNat call) {n : FuncId} {args : List AV} : Len S (callD C call S slot n args keepK) := fun q h => by
 unfold callD at h
 split at h
 ·cases h
 ·split at h
  ·split at h
   ·cases h
   ·obtain ⟨_, h⟩ := ite_some h
    obtain ⟨hc, h⟩ := ite_some h
    simp only [Option.some.injEq] at h
    rw [← h]
    exact hc.1
  split at h
  ·obtain ⟨r, _, h⟩ := Option.bind_eq_some_iff.mp h
   obtain ⟨hc, h⟩ := ite_some h
   simp only [Option.some.injEq] at h
   rw [← h]
   exact hc
  split at h
  ·obtain ⟨_, h⟩ := ite_some h
   obtain ⟨v, S', ks, h1, _⟩ := hu h
   obtain ⟨hc, h1⟩ := ite_some h1
   simp only [Option.some.injEq] at h1
   rw [← h1]
   exact hc
  split at h
  ·cases h
  ·obtain ⟨_, h⟩ := ite_some h
   obtain ⟨r, _, h⟩ := Option.bind_eq_some_iff.mp h
   obtain ⟨_, h⟩ := ite_some h
   simp only [Option.some.injEq] at h
   rw [← h]
   dsimp only
   rw [putAll_length, kill_length]
theorem goD_len (hu : SNat call) : Len S (goD C call o slot env S (fun _ => keepK)) := by
 unfold goD
 split
 ·split
  ·split
   ·exact .some rfl
   ·exact .some rfl
  ·exact .none
 ·split
  ·exact .ite (callD_len hu)
  ·exact .none
 ·exact opD_len
theorem stepD_len (hu : SNat call) {all : List Oper} : Len S (stepD C call all o slot env S (fun _ => keepK)) := by
 unfold stepD
 split
 ·exact goD_len hu
 ·split
  ·split
   ·exact goD_len hu
   ·exact .some rfl
  ·exact .some rfl
  ·exact .none
theorem hideS_length (h : Option (List Nat)) (S : List Blk) : (hideS h S).length = S.length := by
 unfold hideS
 split
 ·simp
 ·rfl
 ·exact kill_length _ _
theorem backS_length {h : Option (List Nat)} {S S' : List Blk} (hl : S'.length = S.length) : (backS h S S').length = S.length := by
 unfold backS
 split
 ·rfl
 ·exact hl
 ·simp [hl]
theorem Chain.lens {L : List Oper} {pl : Plan} {b : Nat} {E : Nat → List AV} {St : Nat → List Blk} {V : Nat → AV} {KS : Nat → List Nat} (hu : SNat call) (h : Chain C call L L pl b E St V KS) : ∀ i, i ≤ L.length → (St i).length = (St 0).length := by
 intro i
 induction i with
 | zero => exact fun _ => rfl
 | succ i ih =>
  intro hi
  obtain ⟨o, ho⟩ := getElem?_of_lt (l := L) (j := i) (by omega)
  obtain ⟨S', h1, _, h3, h4⟩ := h.step i o ho
  have hl := stepD_len hu _ h1
  dsimp only at hl
  rw [hideS_length] at hl
  by_cases hk : KS i = []
  ·rw [h3 hk, backS_length hl, ih (by omega)]
  ·rw [(h4 hk).2, backS_length hl, ih (by omega)]
end
section
variable {C : Cfg} {call : CallF} {L : List Oper} {b : Nat} {E : Nat → List AV} {St : Nat → List Blk} {V : Nat → AV} {KS : Nat → List Nat} {env0 : List AV}
def maskE (l : List Nat) (env : List AV) : List AV := (List.range env.length).map fun t => if l.contains t = true then env.getD t .u else .u
theorem maskE_at {l : List Nat} {env : List AV} {t : Nat} : (maskE l env).getD t .u = if l.contains t = true then env.getD t .u else .u := by
 unfold maskE
 simp only [List.getD_eq_getElem?_getD, List.getElem?_map]
 by_cases h : t < env.length
 ·rw [List.getElem?_range h]; simp
 ·rw [List.getElem?_eq_none (by simp; omega), List.getElem?_eq_none (by omega)]
  simp
theorem Inv.maskR {F0 : Nat → Prop} {σ0 : Sig} {S0 : List Blk} {w0 : World} {ds : List Deferred} {D : Nat → Prop} {c : Nat} {T : List Blk} {F : Nat → Prop} {σ : Sig} {a : Act} {w : World} {pl : Plan} (hd : Draw C L) (hc : Chain C call L L pl b E St V KS) (h : Inv C L b E St KS env0 F0 σ0 S0 w0 ds D c T F σ a w)
  {i : Nat} {o : Oper} (hi : L[i]? = some o) (hnD : ¬ D i) (hedge : ∀ e ∈ o.after.toList, Region.binds .any e = true → D e.on) : EnvR C w F σ (maskE (o.looksAt L.toArray) (E i)) a.tmps := by
 have hanc := anc_in hd h.down i o hi hedge
 refine ⟨by simp [maskE, hc.envLen i (Nat.le_of_lt (getElem?_lt hi)), h.tm], fun t => ?_⟩
 rw [maskE_at]
 split
 ·rename_i ht
  refine h.envc i o hi hnD t (by simpa using ht) fun j oj h1 h2 h3 => ?_
  rcases hd.pair i j o oj h1 hi h2 with q | ⟨_, _, q⟩
  ·exact hanc j q
  ·exact absurd (by simpa using ht) ((looks_env q).2.2 t h3)
 ·exact .u
theorem hideS_at {l : List Nat} {S : List Blk} {id : Nat} : (hideS (some l) S).getD id .dead = if l.contains id = true then .dead else S.getD id .dead := by
 unfold hideS
 cases l with
 | nil => simp
 | cons x l => exact getD_kill _ _ _
theorem hideS_none {S : List Blk} {id : Nat} : (hideS none S).getD id .dead = .dead := by
 unfold hideS
 simp only [List.getD_eq_getElem?_getD, List.getElem?_map]
 cases S[id]? <;> rfl
theorem Chain.ks {pl : Plan} (hc : Chain C call L L (planOf C b env0 L) b E St V KS) {i : Nat} {o : Oper} (hi : L[i]? = some o) (hcl : clsO C o ≤ 2) : KS i = [] := by
 obtain ⟨S', _, _, _, h4⟩ := hc.step i o hi
 apply Classical.byContradiction
 intro hk
 obtain ⟨l, this⟩ := (h4 hk).1
 rw [planOf_at hi] at this
 split at this
 ·simp at this
 ·rw [if_neg (by omega)] at this
  split at this
  ·simp at this
  ·split at this <;> simp at this
theorem backS_at {l : List Nat} {S S' : List Blk} (hl : S'.length = S.length) {id : Nat} : (backS (some l) S S').getD id .dead = if l.contains id = true then S.getD id .dead else S'.getD id .dead := by
 cases l with
 | nil => simp [backS]
 | cons x l =>
  simp only [backS, List.getD_eq_getElem?_getD, List.getElem?_map, List.getElem?_zipIdx]
  by_cases h : id < S'.length
  ·rw [List.getElem?_eq_getElem h]; simp
  ·rw [List.getElem?_eq_none (l := S') (by omega), List.getElem?_eq_none (l := S) (by omega)]
   simp
theorem clsO_le3 (o : Oper) : clsO C o ≤ 3 := by
 unfold clsO
 split
 ·split
  ·split <;> omega
  ·omega
 ·split <;> omega
 ·unfold cls
  split <;> omega
theorem Chain.keep (hu : SNat call) (hc : Chain C call L L (planOf C b env0 L) b E St V KS) {i : Nat} {o : Oper} (hi : L[i]? = some o) (h3 : clsO C o = 3) {id : Nat} (hid : id ∈ turnHid C b env0 L i) : (St (i + 1)).getD id .dead = (St i).getD id .dead := by
 obtain ⟨S', h1, _, hst, h4⟩ := hc.step i o hi
 have hp : (planOf C b env0 L).getD i (some [], true) = (some (turnHid C b env0 L i), true) := by rw [planOf_at hi, if_neg (by omega), if_pos h3]
 have hl := stepD_len hu _ h1
 dsimp only at hl
 rw [hideS_length] at hl
 have hb : St (i + 1) = backS ((planOf C b env0 L).getD i (some [], true)).1 (St i) S' := by
  by_cases hk : KS i = []
  ·exact hst hk
  ·exact (h4 hk).2
 rw [hb, hp, backS_at hl, if_pos (by simpa using hid)]
theorem Chain.low (hc : Chain C call L L (planOf C b env0 L) b E St V KS) {i : Nat} {o : Oper} (hi : L[i]? = some o) (hcl : clsO C o ≤ 2) {id : Nat} (hid : ¬ inSlot L b i id) : (St (i + 1)).getD id .dead = (St i).getD id .dead := by
 obtain ⟨S', h1, _, h3, _⟩ := hc.step i o hi
 have hk := hc.ks (pl := []) hi hcl
 rw [hk] at h1
 obtain ⟨e1, e2, e3⟩ := stepD_eff hcl h1
 rw [h3 hk]
 rw [hideS_length] at e1
 unfold inSlot at hid
 rw [slotAt_succ hi] at hid
 have e4 := e3 id (by omega)
 generalize (planOf C b env0 L).getD i (some [], true) = q at e4 e2 ⊢
 obtain ⟨hh, bb⟩ := q
 cases hh with
 | none => rfl
 | some l =>
  rw [hideS_at] at e4
  cases l with
  | nil => simpa [backS] using e4
  | cons x l =>
   simp only [backS, List.getD_eq_getElem?_getD, List.getElem?_map, List.getElem?_zipIdx]
   simp only [List.getD_eq_getElem?_getD] at e4
   by_cases hl : id < S'.length
   ·rw [List.getElem?_eq_getElem hl] at e4 ⊢
    simp only [Option.map_some, Option.getD_some, Nat.zero_add] at e4 ⊢
    by_cases hcn : (x :: l).contains id = true
    ·rw [if_pos hcn]
    ·rw [if_neg hcn] at e4 ⊢
     exact e4
   ·rw [List.getElem?_eq_none (by omega), List.getElem?_eq_none (l := St i) (by omega)]
    rfl
end
section
variable {C : Cfg} {call : CallF} {L : List Oper} {b : Nat} {E : Nat → List AV} {St : Nat → List Blk} {V : Nat → AV} {KS : Nat → List Nat} {env0 : List AV}
variable {F0 : Nat → Prop} {σ0 : Sig} {S0 : List Blk} {w0 : World} {ds : List Deferred} {D : Nat → Prop} {c : Nat} {T : List Blk} {F : Nat → Prop} {σ : Sig} {a : Act} {w : World}
theorem Chain.between (hu : SNat call) (hc : Chain C call L L (planOf C b env0 L) b E St V KS) {id i : Nat} : ∀ k, i ≤ k → k ≤ L.length → (∀ m o, i ≤ m → m < k → L[m]? = some o → (clsO C o ≤ 2 ∧ ¬ inSlot L b m id) ∨ (clsO C o = 3 ∧ id ∈ turnHid C b env0 L m)) → (St k).getD id .dead = (St i).getD id .dead := by
 intro k hik
 induction hik with
 | refl => exact fun _ _ => rfl
 | step hik ih =>
  rename_i k
  intro hk h
  obtain ⟨o, ho⟩ := getElem?_of_lt (l := L) (j := k) (by omega)
  rcases h k o hik (by omega) ho with ⟨h1, h2⟩ | ⟨h1, h2⟩
  ·rw [hc.low ho h1 h2]
   exact ih (by omega) fun m o h3 h4 => h m o h3 (by omega)
  ·rw [hc.keep hu ho h1 h2]
   exact ih (by omega) fun m o h3 h4 => h m o h3 (by omega)
def Tied (C : Cfg) (L : List Oper) (i : Nat) : Prop := ∀ m q, L[m]? = some q → clsO C q = 3 → m ∈ anc L i ∨ i ∈ anc L m
theorem tied_two {i : Nat} {o : Oper} (hi : L[i]? = some o) (h1 : clsO C o = 2) (hal : ¬ looseB C (ancs L []) L i = true) : Tied C L i := fun m q hm hq => by
 rw [loose_iff hi] at hal
 apply Classical.byContradiction
 intro hn
 exact hal ⟨h1, m, q, hm, hq, freeP_iff.mpr ⟨fun r => hn (.inl r), fun r => hn (.inr r)⟩⟩
theorem tied_one {i : Nat} {o : Oper} (hi : L[i]? = some o) (h1 : clsO C o = 1) (hal : ¬ aloneB C (ancs L []) L i = true) : Tied C L i := fun m q hm hq => by
 rw [alone_iff hi] at hal
 apply Classical.byContradiction
 intro hn
 exact hal ⟨h1, m, q, hm, hq, freeP_iff.mpr ⟨fun r => hn (.inl r), fun r => hn (.inr r)⟩⟩
theorem Inv.quiet (hd : Draw C L) (h : Inv C L b E St KS env0 F0 σ0 S0 w0 ds D c T F σ a w) {i : Nat} {o : Oper} (hi : L[i]? = some o) (hnD : ¬ D i) (hedge : ∀ e ∈ o.after.toList, Region.binds .any e = true → D e.on) (hx : Tied C L i) (h3 : clsO C o ≠ 3) : i < c ∧ ∀ m q, i ≤ m → m < c → L[m]? = some q → clsO C q ≠ 3 := by
 have hanc := anc_in hd h.down i o hi hedge
 have hil := getElem?_lt hi
 constructor
 ·by_cases hcl : c < L.length
  ·obtain ⟨q1, oc, q2, q3⟩ := h.cut hcl
   rcases hx c oc q2 q3 with r | r
   ·exact absurd (hanc c r) q1
   ·exact anc_lt hd c oc q2 i r
  ·omega
 ·intro m q h1 h2 hm hq
  have hDm := h.pre m q h2 hm hq
  rcases hx m q hm hq with r | r
  ·have := anc_lt hd i o hi m r
   omega
  ·exact hnD (anc_in hd h.down m q hm (h.down m q hDm hm) i r)
theorem Inv.slotFut (hu : SNat call) (hd : Draw C L) (hc : Chain C call L L (planOf C b env0 L) b E St V KS) (h : Inv C L b E St KS env0 F0 σ0 S0 w0 ds D c T F σ a w) {i : Nat} {o : Oper} (hi : L[i]? = some o) (hnD : ¬ D i) (hedge : ∀ e ∈ o.after.toList, Region.binds .any e = true → D e.on) (h2 : clsO C o = 2) {id : Nat} (hid : inSlot L b i id) : (St i).getD id .dead = .dead := by
 have hanc := anc_in hd h.down i o hi hedge
 have hil := getElem?_lt hi
 rcases Nat.le_total i c with q | q
 ·exact h.fut i i id q (Nat.le_refl _) hil hid
 ·rw [hc.between hu (i := c) i q (by omega) fun m mo s1 s2 hm => ?_]
  ·exact h.fut c i id (Nat.le_refl _) q hil hid
  ·by_cases e : clsO C mo = 3
   ·refine .inr ⟨e, turnHid_loose hi h2 hm e (freeP_iff.mpr ⟨fun r => ?_, fun r => ?_⟩) hid⟩
    ·have hDm := hanc m r
     obtain ⟨q1, oc, q2, q3⟩ := h.cut (by omega)
     rcases Nat.eq_or_lt_of_le s1 with z | z
     ·subst z; exact q1 hDm
     ·rcases hd.pair m c mo oc z hm q2 with s | ⟨s, _, _⟩
      ·exact q1 (anc_in hd h.down m mo hm (h.down m mo hDm hm) c s)
      ·omega
    ·have := anc_lt hd m mo hm i r
     omega
   ·refine .inl ⟨by have := clsO_le3 (C := C) mo; omega, fun r => ?_⟩
    have := inSlot_one hid r
    omega
theorem Inv.sees (hu : SNat call) (hd : Draw C L) (hc : Chain C call L L (planOf C b env0 L) b E St V KS) (hS0 : St 0 = S0) (hb : S0.length ≤ b + (L.map fun o => slotsOf o.op).sum) (h : Inv C L b E St KS env0 F0 σ0 S0 w0 ds D c T F σ a w) {i : Nat} {o : Oper} (hi : L[i]? = some o) (hnD : ¬ D i) (hedge : ∀ e ∈ o.after.toList, Region.binds .any e = true → D e.on) (h3 : clsO C o ≤ 2) : Sub (hideS ((planOf C b env0 L).getD i (some [], true)).1 (St i)) T := by
 have hanc := anc_in hd h.down i o hi hedge
 have hil := getElem?_lt hi
 refine ⟨by rw [hideS_length, hc.lens hu i (by omega), hS0, h.len], fun id hl => ?_⟩
 rw [planOf_at hi] at hl ⊢
 by_cases h0 : clsO C o = 0
 ·rw [if_pos h0] at hl
  unfold live at hl
  exact absurd hideS_none hl
 ·rw [if_neg h0, if_neg (by omega)] at hl ⊢
  by_cases hal : aloneB C (ancs L []) L i = true
  ·rw [if_pos hal] at hl ⊢
   unfold live at hl
   dsimp only at hl ⊢
   rw [hideS_at] at hl ⊢
   by_cases hh : (seeHid b env0 L i).contains id = true
   ·rw [if_pos hh] at hl
    exact absurd rfl hl
   ·rw [if_neg hh] at hl ⊢
    have hlen : id < (St i).length := live_lt hl
    rw [hc.lens hu i (by omega), hS0] at hlen
    have hrd : id ∈ rdOf b env0 L i := by
     apply Classical.byContradiction
     intro hn
     refine hh ?_
     rw [List.contains_iff_mem]
     exact List.mem_filter.mpr ⟨List.mem_range.mpr (by omega), by simpa using hn⟩
    have hidb := rdOf_lt hrd
    have hns : ∀ m, ¬ inSlot L b m id := fun m hm => by
     unfold inSlot slotAt at hm
     omega
    rw [h.vis id c (Nat.le_refl _) h.cn (fun j _ hs => absurd hs (hns j)) fun m _ s1 s2 => by omega]
    have mid : ∀ m q, L[m]? = some q → clsO C q = 3 → m ∉ anc L i → i ∉ anc L m → id ∈ turnHid C b env0 L m := fun m q hm hq n1 n2 => turnHid_alone hil hal (freeP_iff.mpr ⟨n1, n2⟩) hrd
    have all : ∀ m q, L[m]? = some q → (clsO C q = 3 → m ∉ anc L i ∧ i ∉ anc L m) → (clsO C q ≤ 2 ∧ ¬ inSlot L b m id) ∨ (clsO C q = 3 ∧ id ∈ turnHid C b env0 L m) := fun m q hm hq => by
     by_cases e : clsO C q = 3
     ·exact .inr ⟨e, mid m q hm e (hq e).1 (hq e).2⟩
     ·exact .inl ⟨by have := clsO_le3 (C := C) q; omega, hns m⟩
    rcases Nat.le_total i c with hic | hic
    ·exact hc.between hu c hic h.cn fun m q h1 h2 hm => all m q hm fun e => by
      have hDm := h.pre m q h2 hm e
      refine ⟨fun r => ?_, fun r => hnD (anc_in hd h.down m q hm (h.down m q hDm hm) i r)⟩
      have := anc_lt hd i o hi m r
      omega
    ·refine (hc.between hu i hic (by omega) fun m q h1 h2 hm => all m q hm fun e => ?_).symm
     obtain ⟨q1, oc, q2, q3⟩ := h.cut (by omega)
     refine ⟨fun r => ?_, fun r => ?_⟩
     ·have hDm := hanc m r
      rcases Nat.eq_or_lt_of_le h1 with z | z
      ·subst z; exact q1 hDm
      ·rcases hd.pair m c q oc z hm q2 with s | ⟨s, _, _⟩
       ·exact q1 (anc_in hd h.down m q hm (h.down m q hDm hm) c s)
       ·omega
     ·have := anc_lt hd m q hm i r
      omega
  ·by_cases hlo : looseB C (ancs L []) L i = true
   ·have h2 : clsO C o = 2 := ((loose_iff hi).mp hlo).1
    rw [if_neg hal, if_pos hlo] at hl ⊢
    unfold live at hl
    dsimp only at hl
    rw [hideS_at] at hl
    by_cases hh : (owHid b L i).contains id = true
    ·rw [if_pos hh] at hl
     exact absurd rfl hl
    ·rw [if_neg hh] at hl
     have hlen : id < (St i).length := live_lt hl
     rw [hc.lens hu i (by omega), hS0] at hlen
     have hin : id ∈ ownSl L (slotL b L) i := by
      apply Classical.byContradiction
      intro hn
      refine hh ?_
      rw [List.contains_iff_mem]
      exact List.mem_filter.mpr ⟨List.mem_range.mpr (by omega), by simpa using hn⟩
     exact absurd (h.slotFut hu hd hc hi hnD hedge h2 (mem_ownSl.mp hin).2) hl
   ·rw [if_neg hal, if_neg hlo] at hl ⊢
    unfold live at hl
    dsimp only at hl ⊢
    rw [hideS_at] at hl ⊢
    by_cases hh : (hidOf (ancs L []) L (slotL b L) i).contains id = true
    ·rw [if_pos hh] at hl
     exact absurd rfl hl
    ·rw [if_neg hh] at hl ⊢
     have htied : Tied C L i := by
      rcases Nat.lt_or_ge (clsO C o) 2 with z | z
      ·exact tied_one hi (by omega) hal
      ·exact tied_two hi (by omega) hlo
     obtain ⟨hic, hq⟩ := h.quiet hd hi hnD hedge htied (by omega)
     have hns : ∀ m, i ≤ m → m < L.length → ¬ inSlot L b m id := fun m h1 h2 h4 => hl (h.fut i m id (by omega) h1 h2 h4)
     rw [h.vis id c (Nat.le_refl _) h.cn (fun j hj hs => ?_) fun m _ s1 s2 => by omega]
     ·exact hc.between hu c (by omega) h.cn fun m q h1 h2 hm => .inl ⟨by
       have := hq m q h1 h2 hm
       have := clsO_le3 (C := C) q
       omega, hns m h1 (getElem?_lt hm)⟩
     ·by_cases hji : j < i
      ·refine ⟨?_, by omega⟩
       apply Classical.byContradiction
       intro hnj
       refine hh ?_
       rw [List.contains_iff_mem]
       exact (mem_hidOf (by omega)).mpr ⟨j, hji, fun q => hnj (hanc j q), hs⟩
      ·exact absurd hs (hns j (by omega) hj)
end
section
variable {C : Cfg} {call : CallF} {L : List Oper} {b : Nat} {E : Nat → List AV} {St : Nat → List Blk} {V : Nat → AV} {KS : Nat → List Nat} {env0 : List AV}
variable {F0 : Nat → Prop} {σ0 : Sig} {S0 : List Blk} {w0 : World} {ds : List Deferred} {D : Nat → Prop} {c : Nat} {T : List Blk} {F : Nat → Prop} {σ : Sig} {a : Act} {w : World}
open Classical in
noncomputable def laid (T S S' : List Blk) : List Blk := (List.range T.length).map fun id => if live T id ∧ ¬ live S id then T.getD id .dead else S'.getD id .dead
open Classical in
theorem laid_at {T S S' : List Blk} (hl : S'.length = T.length) {id : Nat} : (laid T S S').getD id .dead = if live T id ∧ ¬ live S id then T.getD id .dead else S'.getD id .dead := by
 unfold laid
 simp only [List.getD_eq_getElem?_getD, List.getElem?_map]
 by_cases h : id < T.length
 ·rw [List.getElem?_range h]; simp
 ·rw [List.getElem?_eq_none (by simp; omega), List.getElem?_eq_none (l := T) (by omega), List.getElem?_eq_none (l := S') (by omega)]
  simp
theorem Inv.low {Q : Exit → Act → World → Prop} (hl : layB C = true) (hnm : namesB C = true) (hcall : Called C call) (hd : Draw C L) (hc : Chain C call L L (planOf C b env0 L) b E St V KS) (hS0 : St 0 = S0) (hb : S0.length ≤ b + (L.map fun o => slotsOf o.op).sum) (h : Inv C L b E St KS env0 F0 σ0 S0 w0 ds D c T F σ a w) {i : Nat} {o : Oper} (hi : L[i]? = some o) (hnD : ¬ D i) (hedge : ∀ e ∈ o.after.toList, Region.binds .any e = true → D e.on) (h3 : clsO C o ≤ 2) :
  wpOp C.P L.toArray Q i (fun a' w' => ∃ c' T' F' σ', Inv C L b E St KS env0 F0 σ0 S0 w0 ds (fun j => D j ∨ j = i) c' T' F' σ' a' w') a w := by
 have hil := getElem?_lt hi
 obtain ⟨S', h1, _, hst, _⟩ := hc.step i o hi
 have hk := hc.ks (pl := []) hi h3
 rw [hk] at h1
 have hsub := h.sees hcall.nat hd hc hS0 hb hi hnD hedge h3
 obtain ⟨f1, f2, f3⟩ := stepD_eff h3 h1
 generalize hSt : hideS ((planOf C b env0 L).getD i (some [], true)).1 (St i) = S at h1 hsub f1 f2 f3
 have h1' : stepD C call L.toArray.toList o (slotAt L b i) (maskE (o.looksAt L.toArray) (E i)) S (fun _ => keepK) = some (V i, S', []) := by
  rw [← stepD_congr (ops := L.toArray) (env := E i) fun t ht => by rw [maskE_at, if_pos (by simpa using ht)]]
  exact h1
 have hslot : ∀ id, inSlot L b i id → σ id = .no ∧ id < S0.length ∧ T.getD id .dead = .dead := fun id hid => ⟨(h.slo i id hil hnD hid).1, (h.slo i id hil hnD hid).2, h.hid id i hil hnD hid⟩
 have hsS : ∀ id, inSlot L b i id → S.getD id .dead = .dead := fun id hid => by
  apply Classical.byContradiction
  intro hlv
  have := hsub.2 id hlv
  rw [(hslot id hid).2.2] at this
  exact hlv this.symm
 obtain ⟨v, S1, ks, e1, _, hwp⟩ := stepD_ok (Q := Q) (i := i) (ops := L.toArray) hl hnm hcall (by simpa using hi) (h.sim.sub hsub) (h.maskR hd hc hi hnD hedge) (fun j q1 q2 => by
  have hin : inSlot L b i j := ⟨q1, by rw [slotAt_succ hi]; exact q2⟩
  exact ⟨by rw [hsub.1, h.len]; exact (hslot j hin).2.1, hsS j hin, (hslot j hin).1⟩) h1'
 simp only [Option.some.injEq, Prod.mk.injEq] at e1
 obtain ⟨rfl, rfl, rfl⟩ := e1
 refine hwp _ fun val w' ⟨F', σ', p1, p2, p3, p4, p5, p6, p7⟩ => ?_
 have hlT : S1.length = T.length := by rw [f1, hsub.1]
 obtain ⟨m1, m2⟩ := frame (S'' := laid T S S1) h.sim hsub p1 p2 p3 p6 (by simp [laid, hsub.1]) (fun id q1 q2 => by rw [laid_at hlT, if_pos ⟨q1, q2⟩]) (fun id q => by
  rw [laid_at hlT, if_neg]
  rintro ⟨r1, r2⟩
  rcases q with q | q
  ·exact r2 q
  ·exact q r1)
 have out : ∀ id, ¬ inSlot L b i id → (laid T S S1).getD id .dead = T.getD id .dead := fun id hid => by
  by_cases hn : live T id ∧ ¬ live S id
  ·rw [laid_at hlT, if_pos hn]
  ·rw [laid_at hlT, if_neg hn]
   rw [f3 id (by unfold inSlot at hid; rw [slotAt_succ hi] at hid; omega)]
   by_cases q : live S id
   ·exact (hsub.2 id q).symm
   ·rw [not_live q]
    have : ¬ live T id := fun r => hn ⟨r, q⟩
    rw [not_live this]
 have inn : ∀ id, inSlot L b i id → (laid T S S1).getD id .dead = S1.getD id .dead := fun id hid => by
  rw [laid_at hlT, if_neg]
  rintro ⟨r1, _⟩
  exact r1 (hslot id hid).2.2
 obtain ⟨v1, v2⟩ := h.envs hd hc hi hnD hedge p5 (p2.dat (h.sim.sub hsub)) p2.grow p3
 refine ⟨c, laid T S S1, F', σ', ⟨h.cn, fun hcl => ⟨?_, (h.cut hcl).2⟩, fun j q r1 r2 r3 => .inl (h.pre j q r1 r2 r3), m1, by simp [laid, h.len], fun id j r1 r2 r3 => ?_, fun id k r0 r1 r r' => ?_, h.fut, h.lenS, fun j id r1 r2 r3 => ?_, by rw [put_size]; exact h.tm, v1, v2, fun j r1 r2 r3 => ?_, fun j q r1 r2 e r3 r4 => ?_, fun j r => ?_, by rw [put_defers]; exact h.defs, h.stp.trans m2, fun id hid => by rw [p3 id (by rw [h.ext id hid]; exact hid), h.ext id hid]⟩⟩
 ·rintro (q | q)
  ·exact (h.cut hcl).1 q
  ·obtain ⟨_, oc, q2, q3⟩ := h.cut hcl
   rw [q, hi] at q2
   obtain rfl := Option.some.inj q2
   omega
 ·rw [out id fun r4 => r2 (.inr (inSlot_one r3 r4))]
  exact h.hid id j r1 (fun q => r2 (.inl q)) r3
 ·by_cases hin : inSlot L b i id
  ·have h0 : ¬ clsO C o ≤ 1 := fun q => by
    unfold inSlot at hin
    rw [slotAt_succ hi, cls0_slots q] at hin
    omega
   have hik := (r i hil hin).2
   rw [inn id hin, hc.between hcall.nat (i := i + 1) k hik r1 fun m q s1 s2 hm => ?_, hst hk]
   ·have hal : ¬ aloneB C (ancs L []) L i = true := fun r => by have := ((alone_iff hi).mp r).1; omega
    rw [planOf_at hi, if_neg (by omega), if_neg (by omega), if_neg hal] at hSt ⊢
    by_cases hlo : looseB C (ancs L []) L i = true
    ·rw [if_pos hlo] at hSt ⊢
     dsimp only at hSt ⊢
     rw [backS_at (by rw [f1, ← hSt, hideS_length]), if_neg]
     intro hcn
     rw [List.contains_iff_mem] at hcn
     have := (List.mem_filter.mp hcn).2
     rw [List.contains_iff_mem.mpr (mem_ownSl.mpr ⟨hil, hin⟩)] at this
     simp at this
    ·rw [if_neg hlo] at hSt ⊢
     dsimp only at hSt ⊢
     rw [backS_at (by rw [f1, ← hSt, hideS_length]), if_neg]
     intro hcn
     rw [List.contains_iff_mem] at hcn
     obtain ⟨j, r1, _, r3⟩ := (mem_hidOf (by omega)).mp hcn
     have := inSlot_one hin r3
     omega
   ·by_cases e : clsO C q = 3
    ·refine .inr ⟨e, ?_⟩
     rcases Nat.lt_or_ge m c with z | z
     ·have hDm := h.pre m q z hm e
      refine turnHid_loose hi (by omega) hm e (freeP_iff.mpr ⟨fun s => ?_, fun s => ?_⟩) hin
      ·have := anc_lt hd i o hi m s
       omega
      ·exact hnD (anc_in hd h.down m q hm (h.down m q hDm hm) i s)
     ·exact r' m q z s2 hm e
    ·exact .inl ⟨by have := clsO_le3 (C := C) q; omega, fun r4 => by have := inSlot_one hin r4; omega⟩
  ·rw [out id hin]
   exact h.vis id k r0 r1 (fun j s1 s2 => ⟨(r j s1 s2).1.resolve_right fun e => hin (e ▸ s2), (r j s1 s2).2⟩) r'
 ·have hne : ¬ inSlot L b i id := fun r4 => r2 (.inr (inSlot_one r3 r4))
  obtain ⟨s1, s2⟩ := h.slo j id r1 (fun q => r2 (.inl q)) r3
  refine ⟨(p7 id (by unfold inSlot at hne; rw [slotAt_succ hi] at hne; omega) ?_ s1).2, s2⟩
  apply Classical.byContradiction
  intro hlv
  have := hsub.2 id hlv
  rw [h.hid id j r1 (fun q => r2 (.inl q)) r3] at this
  exact hlv this.symm
 ·rcases r2 with r2 | r2
  ·exact (h.opn j r1 r2 r3).mono (p2.dat (h.sim.sub hsub)) p2.grow p3
  ·rw [r2] at r3; exact absurd hk r3
 ·rcases r1 with r1 | r1
  ·exact .inl (h.down j q r1 r2 e r3 r4)
  ·subst r1
   rw [hi] at r2
   obtain rfl := Option.some.inj r2
   exact .inl (hedge e r3 r4)
 ·rcases r with r | r
  ·exact h.dn j r
  ·rw [r]; exact hil
end
section
variable {C : Cfg} {call : CallF} {L : List Oper} {b : Nat} {E : Nat → List AV} {St : Nat → List Blk} {V : Nat → AV} {KS : Nat → List Nat} {env0 : List AV}
variable {F0 : Nat → Prop} {σ0 : Sig} {S0 : List Blk} {w0 : World} {ds : List Deferred} {D : Nat → Prop} {c : Nat} {T : List Blk} {F : Nat → Prop} {σ : Sig} {a : Act} {w : World}
theorem least_from {p : Nat → Prop} {n : Nat} (i : Nat) (hi : i ≤ n) : ∃ c, i ≤ c ∧ c ≤ n ∧ (c < n → p c) ∧ ∀ j, i ≤ j → j < c → ¬ p j := by
 generalize hk : n - i = k
 induction k generalizing i with
 | zero => exact ⟨n, hi, Nat.le_refl _, fun h => absurd h (Nat.lt_irrefl _), fun j h1 h2 => by omega⟩
 | succ k ih =>
  by_cases hp : p i
  ·exact ⟨i, Nat.le_refl _, hi, fun _ => hp, fun j h1 h2 => by omega⟩
  ·obtain ⟨c, h1, h2, h3, h4⟩ := ih (i + 1) (by omega) (by omega)
   refine ⟨c, by omega, h2, h3, fun j h5 h6 => ?_⟩
   rcases Nat.eq_or_lt_of_le h5 with e | e
   ·rw [← e]; exact hp
   ·exact h4 j e h6
theorem Inv.turn {Q : Exit → Act → World → Prop} (hl : layB C = true) (hnm : namesB C = true) (hcall : Called C call) (hd : Draw C L) (hc : Chain C call L L (planOf C b env0 L) b E St V KS) (hS0 : St 0 = S0) (h : Inv C L b E St KS env0 F0 σ0 S0 w0 ds D c T F σ a w) {i : Nat} {o : Oper} (hi : L[i]? = some o) (hnD : ¬ D i) (hedge : ∀ e ∈ o.after.toList, Region.binds .any e = true → D e.on) (h3 : clsO C o = 3) :
  wpOp C.P L.toArray Q i (fun a' w' => ∃ c' T' F' σ', Inv C L b E St KS env0 F0 σ0 S0 w0 ds (fun j => D j ∨ j = i) c' T' F' σ' a' w') a w := by
 have hil := getElem?_lt hi
 have hanc := anc_in hd h.down i o hi hedge
 have hci : c = i := by
  rcases Nat.lt_trichotomy i c with q | q | q
  ·exact absurd (h.pre i o q hi h3) hnD
  ·exact q.symm
  ·obtain ⟨q1, oc, q2, q3⟩ := h.cut (by omega)
   rcases hd.pair i c o oc q hi q2 with r | ⟨r, _, _⟩
   ·exact absurd (hanc c r) q1
   ·rcases r with r | r
    ·exact absurd h3 r
    ·omega
 subst hci
 -- what lies ahead of it is done, what lies behind it is not, but for what it leaves alone
 have slots2 : ∀ j oj id, L[j]? = some oj → inSlot L b j id → ¬ clsO C oj ≤ 1 := fun j oj id hoj hs q => by
  unfold inSlot at hs
  rw [slotAt_succ hoj, cls0_slots q] at hs
  omega
 have ahead : ∀ j id, j < c → inSlot L b j id → id ∉ turnHid C b env0 L c → D j := fun j id hj hs hl => by
  obtain ⟨oj, hoj⟩ := getElem?_of_lt (l := L) (j := j) (by omega)
  have s2 := slots2 j oj id hoj hs
  by_cases r : j ∈ anc L c
  ·exact hanc j r
  ·rcases hd.pair c j o oj hj hi hoj with r' | ⟨r', _, _⟩
   ·exact hanc j r'
   ·exact absurd (turnHid_loose hoj (by omega) hi h3 (freeP_iff.mpr ⟨fun z => by have := anc_lt hd j oj hoj c z; omega, r⟩) hs) hl
 have behind : ∀ j id, c < j → j < L.length → inSlot L b j id → id ∉ turnHid C b env0 L c → ¬ D j := fun j id hj hjl hs hl hD => by
  obtain ⟨oj, hoj⟩ := getElem?_of_lt (l := L) hjl
  have s2 := slots2 j oj id hoj hs
  by_cases r : c ∈ anc L j
  ·exact hnD (anc_in hd h.down j oj hoj (h.down j oj hD hoj) c r)
  ·rcases hd.pair j c oj o hj hoj hi with r' | ⟨_, r', _⟩
   ·exact r r'
   ·exact hl (turnHid_loose hoj (by omega) hi h3 (freeP_iff.mpr ⟨r, fun z => by have := anc_lt hd c o hi j z; omega⟩) hs)
 have ownNo : ∀ id, inSlot L b c id → id ∉ turnHid C b env0 L c := fun id hs hl => by
  rcases mem_turnHid hl with q | ⟨k, ok, q1, q2, _, q4⟩
  ·unfold inSlot slotAt at hs
   omega
  ·have := inSlot_one hs q4
   subst this
   rw [hi] at q1
   obtain rfl := Option.some.inj q1
   omega
 have hplan : (planOf C b env0 L).getD c (some [], true) = (some (turnHid C b env0 L c), true) := by
  rw [planOf_at hi, if_neg (by omega), if_pos h3]
 obtain ⟨S', h1, _, hst, hst2⟩ := hc.step c o hi
 rw [hplan] at h1 hst hst2
 dsimp only at h1
 generalize hlt : turnHid C b env0 L c = l at h1 hst hst2 ahead behind ownNo
 have hlS := stepD_len hcall.nat _ h1
 dsimp only at hlS
 rw [hideS_length] at hlS
 have hS' : ∀ id, (St (c + 1)).getD id .dead = if l.contains id = true then (St c).getD id .dead else S'.getD id .dead := fun id => by
  by_cases hk : KS c = []
  ·rw [hst hk, backS_at hlS]
  ·rw [(hst2 hk).2, backS_at hlS]
 have same : ∀ id, id ∉ l → T.getD id .dead = .dead ∨ T.getD id .dead = (St c).getD id .dead := fun id hl => by
  by_cases q : ∃ j, j < L.length ∧ ¬ D j ∧ inSlot L b j id
  ·obtain ⟨j, q1, q2, q3⟩ := q
   exact .inl (h.hid id j q1 q2 q3)
  ·refine .inr (h.vis id c (Nat.le_refl _) h.cn (fun j r1 r2 => ?_) fun m _ s1 s2 => by omega)
   have hD : D j := Classical.byContradiction fun r3 => q ⟨j, r1, r3, r2⟩
   refine ⟨hD, ?_⟩
   rcases Nat.lt_trichotomy j c with z | z | z
   ·exact z
   ·exact absurd (z ▸ hD) hnD
   ·exact absurd hD (behind j id z r1 r2 hl)
 have hsub2 : Sub (hideS (some l) (St c)) T := ⟨by rw [hideS_length, hc.lens hcall.nat c (by omega), hS0, h.len], fun id hlv => by
  unfold live at hlv
  rw [hideS_at] at hlv ⊢
  by_cases q : l.contains id = true
  ·rw [if_pos q] at hlv; exact absurd rfl hlv
  ·rw [if_neg q] at hlv ⊢
   refine h.vis id c (Nat.le_refl _) h.cn (fun j r1 r2 => ?_) fun m _ s1 s2 => by omega
   by_cases z : j < c
   ·exact ⟨ahead j id z r2 fun y => q (List.contains_iff_mem.mpr y), z⟩
   ·exact absurd (h.fut c j id (Nat.le_refl _) (by omega) r1 r2) hlv⟩
 have h1' : stepD C call L.toArray.toList o (slotAt L b c) (maskE (o.looksAt L.toArray) (E c)) (hideS (some l) (St c)) (fun _ => keepK) = some (V c, S', KS c) := by
  rw [← stepD_congr (ops := L.toArray) (env := E c) fun t ht => by rw [maskE_at, if_pos (by simpa using ht)]]
  exact h1
 obtain ⟨v, S1, ks, e1, _, hwp⟩ := stepD_ok (Q := Q) (i := c) (ops := L.toArray) hl hnm hcall (by simpa using hi) (h.sim.sub hsub2) (h.maskR hd hc hi hnD hedge) (fun j q1 q2 => by
  have hin : inSlot L b c j := ⟨q1, by rw [slotAt_succ hi]; exact q2⟩
  refine ⟨by rw [hsub2.1, h.len]; exact (h.slo c j hil hnD hin).2, ?_, (h.slo c j hil hnD hin).1⟩
  rw [hideS_at]
  split
  ·rfl
  ·exact h.fut c c j (Nat.le_refl _) (Nat.le_refl _) hil hin) h1'
 simp only [Option.some.injEq, Prod.mk.injEq] at e1
 obtain ⟨rfl, rfl, hks⟩ := e1
 refine hwp _ fun val w' ⟨F', σ', p1, p2, p3, p4, p5, p6, p7⟩ => ?_
 have hlT : S1.length = T.length := by rw [p6, hsub2.1]
 obtain ⟨m1', m2'⟩ := frame (S'' := laid T (hideS (some l) (St c)) S1) h.sim hsub2 p1 p2 p3 p6 (by simp [laid, hsub2.1]) (fun id q1 q2 => by rw [laid_at hlT, if_pos ⟨q1, q2⟩]) (fun id q => by
  rw [laid_at hlT, if_neg]
  rintro ⟨r1, r2⟩
  rcases q with q | q
  ·exact r2 q
  ·exact q r1)
 -- what it leaves as it is, is as it was, and nothing else is there
 obtain ⟨T2, hT2, hT2l⟩ : ∃ T2 : List Blk, (∀ id, T2.getD id .dead = if l.contains id = true then T.getD id .dead else (laid T (hideS (some l) (St c)) S1).getD id .dead) ∧ T2.length = T.length := by
  refine ⟨(List.range T.length).map fun id => if l.contains id = true then T.getD id .dead else (laid T (hideS (some l) (St c)) S1).getD id .dead, fun id => ?_, by simp⟩
  simp only [List.getD_eq_getElem?_getD, List.getElem?_map]
  by_cases q : id < T.length
  ·rw [List.getElem?_range q]; simp
  ·rw [List.getElem?_eq_none (by simp; omega), List.getElem?_eq_none (l := T) (by omega), List.getElem?_eq_none (l := laid T (hideS (some l) (St c)) S1) (by simp [laid]; omega)]
   simp
 have hsub3 : Sub T2 (laid T (hideS (some l) (St c)) S1) := ⟨by rw [hT2l]; simp [laid], fun id hlv => by
  unfold live at hlv
  rw [hT2] at hlv ⊢
  by_cases q : l.contains id = true
  ·rw [if_pos q] at hlv ⊢
   rw [laid_at hlT, if_pos ⟨hlv, fun z => by
    unfold live at z
    rw [hideS_at, if_pos q] at z
    exact z rfl⟩]
  ·rw [if_neg q]⟩
 have m1 := m1'.sub hsub3
 have m2 : Stp C F σ T w F' σ' T2 w' := ⟨m2'.os, m2'.tape, m2'.output, m2'.drawn, m2'.heap, m2'.keep, m2'.grow, m2'.new, fun id bb q1 q2 => m2'.own id bb (hsub3.live q1) q2⟩
 have hT2' : ∀ id, (T.getD id .dead = .dead ∨ T.getD id .dead = (St c).getD id .dead) → l.contains id = false → T2.getD id .dead = S1.getD id .dead := fun id hid hlc => by
  rw [hT2, if_neg (by rw [hlc]; simp), laid_at hlT, if_neg]
  rintro ⟨r1, r2⟩
  rcases hid with r | r
  ·exact r1 r
  ·refine r2 ?_
   unfold live at r1 ⊢
   rw [hideS_at, if_neg (by rw [hlc]; simp), ← r]
   exact r1
 obtain ⟨v1, v2⟩ := h.envs hd hc hi hnD hedge p5 (p2.dat (h.sim.sub hsub2)) p2.grow p3
 obtain ⟨c', k1, k2, k3, k4⟩ := least_from (p := fun m => ∃ q, L[m]? = some q ∧ clsO C q = 3) (n := L.length) (c + 1) (by omega)
 have later : ∀ j id, j < L.length → ¬ D j → j ≠ c → inSlot L b j id → S1.getD id .dead = .dead ∧ σ' id = .no ∧ id < S0.length := fun j id hjl hnDj hj hs => by
  have hne : ¬ inSlot L b c id := fun r => hj (inSlot_one hs r)
  obtain ⟨s1, s2⟩ := h.slo j id hjl hnDj hs
  obtain ⟨t1, t2⟩ := p7 id (by unfold inSlot at hne; rw [slotAt_succ hi] at hne; omega) (by
   rw [hideS_at]
   split
   ·rfl
   ·rename_i q
    rcases Nat.lt_or_ge j c with z | z
    ·exact absurd (ahead j id z hs fun y => q (List.contains_iff_mem.mpr y)) hnDj
    ·exact h.fut c j id (Nat.le_refl _) z hjl hs) s1
  exact ⟨t1, t2, s2⟩
 have betw : ∀ id k, c + 1 ≤ k → k ≤ c' → (∀ m, c + 1 ≤ m → m < k → ¬ inSlot L b m id) → (St k).getD id .dead = (St (c + 1)).getD id .dead := fun id k r1 r2 r3 => by
  rw [hc.between hcall.nat (i := c + 1) k r1 (by omega) fun m q s1 s2 hm => .inl ⟨by
   have := clsO_le3 (C := C) q
   have : clsO C q ≠ 3 := fun z => k4 m s1 (by omega) ⟨q, hm, z⟩
   omega, r3 m s1 s2⟩]
 refine ⟨c', T2, F', σ', ⟨k2, fun hcl => ⟨?_, k3 hcl⟩, fun j q r1 r2 r3 => ?_, m1, by rw [hT2l, h.len], fun id j r1 r2 r3 => ?_, fun id k r0 r1 r r' => ?_, fun k j id r1 r2 r3 r4 => ?_, fun k r => by rw [hc.lens hcall.nat k (by omega), hS0], fun j id r1 r2 r3 => ?_, by rw [put_size]; exact h.tm, v1, v2, fun j r1 r2 r3 => ?_, fun j q r1 r2 e r3 r4 => ?_, fun j r => ?_, by rw [put_defers]; exact h.defs, h.stp.trans m2, fun id hid => by rw [p3 id (by rw [h.ext id hid]; exact hid), h.ext id hid]⟩⟩
 ·rintro (q | q)
  ·obtain ⟨qo, q1, q2⟩ := k3 hcl
   rcases hd.pair c' c qo o (by omega) q1 hi with r | ⟨r, _, _⟩
   ·exact hnD (anc_in hd h.down c' qo q1 (h.down c' qo q q1) c r)
   ·omega
  ·omega
 ·rcases Nat.lt_trichotomy j c with q1 | q1 | q1
  ·exact .inl (h.pre j q q1 r2 r3)
  ·exact .inr q1
  ·exact absurd ⟨q, r2, r3⟩ (k4 j q1 r1)
 ·have q1 : j ≠ c := fun q => r2 (.inr q)
  have q2 : ¬ D j := fun q => r2 (.inl q)
  cases hlc : l.contains id with
  | true => rw [hT2 id, if_pos hlc]; exact h.hid id j r1 q2 r3
  | false =>
   rw [hT2' id (same id fun y => by rw [List.contains_iff_mem.mpr y] at hlc; cases hlc) hlc]
   exact (later j id r1 q2 q1 r3).1
 ·cases hlc : l.contains id with
  | true =>
   rw [hT2 id, if_pos hlc]
   have hml : id ∈ l := List.contains_iff_mem.mp hlc
   refine h.vis id k (by omega) r1 (fun j s1 s2 => ⟨(r j s1 s2).1.resolve_right fun e => ownNo id (e ▸ s2) hml, (r j s1 s2).2⟩) fun m q s1 s2 hm hq => ?_
   rcases Nat.lt_or_ge m c' with z | z
   ·rcases Nat.eq_or_lt_of_le s1 with y | y
    ·rw [← y, hlt]; exact hml
    ·exact absurd ⟨q, hm, hq⟩ (k4 m y z)
   ·exact r' m q z s2 hm hq
  | false =>
   have hnl : id ∉ l := fun y => by rw [List.contains_iff_mem.mpr y] at hlc; cases hlc
   rw [hT2' id (same id hnl) hlc, hc.between hcall.nat (i := c + 1) k (by omega) r1 fun m q s1 s2 hm => ?_]
   ·rw [hS' id, if_neg (by rw [hlc]; simp)]
   ·by_cases e : clsO C q = 3
    ·rcases Nat.lt_or_ge m c' with z | z
     ·exact absurd ⟨q, hm, e⟩ (k4 m s1 z)
     ·exact .inr ⟨e, r' m q z s2 hm e⟩
    ·refine .inl ⟨by have := clsO_le3 (C := C) q; omega, fun hs => ?_⟩
     rcases (r m (getElem?_lt hm) hs).1 with z | z
     ·exact behind m id s1 (getElem?_lt hm) hs hnl z
     ·omega
 ·by_cases q : k ≤ c
  ·exact h.fut k j id q r2 r3 r4
  ·rw [betw id k (by omega) r1 fun m s1 s2 hs => by have := inSlot_one hs r4; omega, hS' id]
   cases hlc : l.contains id with
   | true => rw [if_pos rfl]; exact h.fut c j id (Nat.le_refl _) (by omega) r3 r4
   | false =>
    rw [if_neg (by simp)]
    exact (later j id r3 (behind j id (by omega) r3 r4 fun y => by rw [List.contains_iff_mem.mpr y] at hlc; cases hlc) (by omega) r4).1
 ·exact (later j id r1 (fun q => r2 (.inl q)) (fun q => r2 (.inr q)) r3).2
 ·rcases r2 with r2 | r2
  ·exact (h.opn j r1 r2 r3).mono (p2.dat (h.sim.sub hsub2)) p2.grow p3
  ·subst r2
   rw [← hks, hplan, hlt]
   exact opened (h.sim.sub hsub2) p4 p2 p3
 ·rcases r1 with r1 | r1
  ·exact .inl (h.down j q r1 r2 e r3 r4)
  ·subst r1
   rw [hi] at r2
   obtain rfl := Option.some.inj r2
   exact .inl (hedge e r3 r4)
 ·rcases r with r | r
  ·exact h.dn j r
  ·rw [r]; exact hil
end
section
variable {C : Cfg} {call : CallF} {L : List Oper} {b : Nat} {E : Nat → List AV} {St : Nat → List Blk} {V : Nat → AV} {KS : Nat → List Nat} {env0 : List AV}
variable {F0 : Nat → Prop} {σ0 : Sig} {S0 : List Blk} {w0 : World} {ds : List Deferred} {D : Nat → Prop} {c : Nat} {T : List Blk} {F : Nat → Prop} {σ : Sig} {a : Act} {w : World}
theorem Inv.same {D' : Nat → Prop} (h : Inv C L b E St KS env0 F0 σ0 S0 w0 ds D c T F σ a w) (he : ∀ j, D j ↔ D' j) : Inv C L b E St KS env0 F0 σ0 S0 w0 ds D' c T F σ a w := by
 have : D = D' := funext fun j => propext (he j)
 rw [← this]; exact h
theorem all_done (hd : Draw C L) (h : ∀ i o, L[i]? = some o → (∀ e ∈ o.after.toList, Region.binds .any e = true → D e.on) → D i) : ∀ i, i < L.length → D i := by
 intro i
 induction i using Nat.strongRecOn with
 | ind i ih =>
  intro hi
  obtain ⟨o, ho⟩ := getElem?_of_lt hi
  exact h i o ho fun e he hb => ih e.on (hd.back i o e ho he hb) (by have := hd.back i o e ho he hb; omega)
def left (n : Nat) (listed : Array Bool) : Nat := ((List.range n).filter fun j => !listed.getD j false).length
theorem left_set {n i : Nat} {listed : Array Bool} (hs : listed.size = n) (hi : i < n) (hl : listed.getD i false = false) : left n (listed.setIfInBounds i true) < left n listed := by
 unfold left
 have hlt : i < listed.size := by omega
 have e : (List.range n).filter (fun j => !(listed.setIfInBounds i true).getD j false) = ((List.range n).filter fun j => !listed.getD j false).filter fun j => !(j == i) := by
  rw [List.filter_filter]
  apply List.filter_congr
  intro j _
  by_cases q : j = i
  ·subst q
   simp [hlt]
  ·simp only [Array.getD_eq_getD_getElem?, Array.getElem?_setIfInBounds]
   rw [if_neg fun r => q r.symm]
   simp [q]
 rw [e]
 exact List.length_filter_lt_length_iff_exists.mpr ⟨i, by rw [List.mem_filter]; exact ⟨List.mem_range.mpr hi, by simp [hl]⟩, by simp⟩
theorem Inv.any {Q : Exit → Act → World → Prop} (hl : layB C = true) (hnm : namesB C = true) (hcall : Called C call) (hd : Draw C L) (hc : Chain C call L L (planOf C b env0 L) b E St V KS) (hS0 : St 0 = S0) (hb : S0.length ≤ b + (L.map fun o => slotsOf o.op).sum)
  (hQ : ∀ c T F σ a w, Inv C L b E St KS env0 F0 σ0 S0 w0 ds (fun j => j < L.length) c T F σ a w → Q .normal a w) : ∀ (fuel : Nat) (listed : Array Bool) (a : Act) (w : World), listed.size = L.length → left L.length listed ≤ fuel → (∃ c T F σ, Inv C L b E St KS env0 F0 σ0 S0 w0 ds (fun j => listed.getD j false = true) c T F σ a w) → wpAny C.P .any L.toArray Q fuel listed a w := by
 have fin : ∀ (listed : Array Bool) (a : Act) (w : World), listed.size = L.length → Region.ready .any L.toArray listed = [] → (∃ c T F σ, Inv C L b E St KS env0 F0 σ0 S0 w0 ds (fun j => listed.getD j false = true) c T F σ a w) → Q .normal a w := by
  intro listed a w hsz hr ⟨c, T, F, σ, h⟩
  have hall : ∀ i, i < L.length → listed.getD i false = true := all_done hd fun i o ho he => by
   apply Classical.byContradiction
   intro hn
   have hil := getElem?_lt ho
   have : i ∈ Region.ready .any L.toArray listed := by
    rw [mem_ready]
    refine ⟨?_, o, by simpa using ho, fun e h1 h2 => he e (by simpa using h1) h2⟩
    have hlt : i < listed.size := by omega
    simp only [Array.getD_eq_getD_getElem?, Array.getElem?_eq_getElem hlt, Option.getD_some] at hn ⊢
    simpa using hn
   rw [hr] at this
   simp at this
  exact hQ c T F σ a w (h.same fun j => ⟨fun q => h.dn j q, hall j⟩)
 intro fuel
 induction fuel with
 | zero =>
  intro listed a w hsz hle hI
  have hr : Region.ready .any L.toArray listed = [] := by
   rw [List.eq_nil_iff_forall_not_mem]
   intro i hi
   rw [mem_ready] at hi
   obtain ⟨h0, o, ho, _⟩ := hi
   have hil : i < L.length := getElem?_lt (l := L) (by simpa using ho)
   have hlt : i < listed.size := by omega
   have hm : i ∈ (List.range L.length).filter fun j => !listed.getD j false := by
    rw [List.mem_filter]
    refine ⟨List.mem_range.mpr hil, ?_⟩
    simp only [Array.getD_eq_getD_getElem?, Array.getElem?_eq_getElem hlt, Option.getD_some] at h0 ⊢
    simp [h0]
   have := List.length_pos_of_mem hm
   unfold left at hle
   omega
  exact ⟨hr, fin listed a w hsz hr hI⟩
 | succ fuel ih =>
  intro listed a w hsz hle hI
  refine ⟨fun hr => fin listed a w hsz hr hI, fun i hi => ?_⟩
  obtain ⟨c, T, F, σ, h⟩ := hI
  rw [mem_ready] at hi
  obtain ⟨h0, o, ho, he⟩ := hi
  have hiL : L[i]? = some o := by simpa using ho
  have hil := getElem?_lt hiL
  have hlt : i < listed.size := by omega
  have hf : listed.getD i false = false := by
   simp only [Array.getD_eq_getD_getElem?, Array.getElem?_eq_getElem hlt, Option.getD_some] at h0 ⊢
   exact h0
  have next : ∀ a' w', (∃ c' T' F' σ', Inv C L b E St KS env0 F0 σ0 S0 w0 ds (fun j => listed.getD j false = true ∨ j = i) c' T' F' σ' a' w') → wpAny C.P .any L.toArray Q fuel (listed.setIfInBounds i true) a' w' := fun a' w' ⟨c', T', F', σ', h'⟩ => by
   refine ih _ a' w' (by simpa using hsz) (by have := left_set hsz hil hf; omega) ⟨c', T', F', σ', h'.same fun j => ?_⟩
   by_cases e : j = i
   ·subst e
    simp [hlt]
   ·simp only [Array.getD_eq_getD_getElem?, Array.getElem?_setIfInBounds]
    rw [if_neg fun q => e q.symm]
    simp [e]
  have hedge : ∀ e ∈ o.after.toList, Region.binds .any e = true → listed.getD e.on false = true := fun e h1 h2 => he e (by simpa using h1) h2
  by_cases h3 : clsO C o ≤ 2
  ·exact wpOp_mono next (h.low hl hnm hcall hd hc hS0 hb hiL (by simp [hf]) hedge h3)
  ·exact wpOp_mono next (h.turn hl hnm hcall hd hc hS0 hiL (by simp [hf]) hedge (by have := clsO_le3 (C := C) o; omega))
end
section
variable {C : Cfg} {call : CallF} {α : Type} {out : α}
theorem opsD_any {L : List Oper} {b : Nat} {Q : Exit → Act → World → Prop} {K : X → Option α} (hl : layB C = true) (hnm : namesB C = true) (hcall : Called C call) (hok : drawOk C L = true) {env : List AV} {S : List Blk} {a : Act} {w : World} {F : Nat → Prop} {σ : Sig} (hs : Sim C F σ S w) (he : EnvR C w F σ env a.tmps) (hb : S.length ≤ b + (L.map fun o => slotsOf o.op).sum) (hsl : ∀ j, b ≤ j → j < b + (L.map fun o => slotsOf o.op).sum → Slot σ S j)
  (hQ : ∀ a' w', RegEnd C K out F σ S w a.defers a' w' → Q .normal a' w') (h : opsD C call L K L (planOf C b env L) b env S [] = some out) : wpAny C.P .any L.toArray Q L.length (Array.replicate L.length false) a w := by
 obtain ⟨E, St, V, KS, e1, e2, hc, e4⟩ := opsD_chain hcall.nat L _ _ _ _ _ h
 have hd := draw_of hok
 generalize henv : env = env0 at hc
 subst e2
 rw [← e1] at he
 have slotsum : ∀ j, j ≤ L.length → slotAt L b j ≤ b + (L.map fun o => slotsOf o.op).sum := fun j hj => by
  have := slotAt_le (L := L) (b := b) hj
  unfold slotAt at this ⊢
  rw [List.take_length] at this
  exact this
 have hin : ∀ j id, j < L.length → inSlot L b j id → Slot σ (St 0) id := fun j id hj ⟨q1, q2⟩ => hsl id (by have := slotAt_le (L := L) (b := b) (Nat.zero_le j); simp [slotAt] at this q1; omega) (by have := slotsum (j + 1) (by omega); omega)
 obtain ⟨c, _, k2, k3, k4⟩ := least_from (p := fun m => ∃ q, L[m]? = some q ∧ clsO C q = 3) (n := L.length) 0 (by omega)
 have betw : ∀ id k, k ≤ c → (∀ m, m < k → ¬ inSlot L b m id) → (St k).getD id .dead = (St 0).getD id .dead := fun id k r1 r2 => hc.between hcall.nat (i := 0) k (by omega) (by omega) fun m q _ s2 hm => .inl ⟨by
  have := clsO_le3 (C := C) q
  have : clsO C q ≠ 3 := fun z => k4 m (by omega) (by omega) ⟨q, hm, z⟩
  omega, r2 m s2⟩
 have nl : ∀ j, ¬ (Array.replicate L.length false).getD j false = true := fun j => by
  simp only [Array.getD_eq_getD_getElem?, Array.getElem?_replicate]
  split <;> simp
 refine Inv.any (F0 := F) (σ0 := σ) (S0 := St 0) (w0 := w) (ds := a.defers) hl hnm hcall hd hc rfl hb (fun c T F' σ' a' w' hI => hQ a' w' ?_) L.length _ a w (by simp) (by unfold left; exact Nat.le_trans (List.length_filter_le _ _) (by simp)) ⟨c, St 0, F, σ, ⟨k2, fun hcl => ⟨nl c, k3 hcl⟩, fun j q r1 r2 r3 => absurd ⟨q, r2, r3⟩ (k4 j (by omega) r1), hs, rfl, fun id j r1 _ r3 => (hin j id r1 r3).dead, fun id k r0 r1 r r' => (hc.between hcall.nat (i := 0) k (by omega) r1 fun m q _ s2 hm => by
   by_cases e : clsO C q = 3
   ·rcases Nat.lt_or_ge m c with z | z
    ·exact absurd ⟨q, hm, e⟩ (k4 m (by omega) z)
    ·exact .inr ⟨e, r' m q z s2 hm e⟩
   ·exact .inl ⟨by have := clsO_le3 (C := C) q; omega, fun hs => nl m (r m (getElem?_lt hm) hs).1⟩).symm, fun k j id r1 r2 r3 r4 => ?_, fun k r => hc.lens hcall.nat k (by omega), fun j id r1 _ r3 => ⟨(hin j id r1 r3).no, (hin j id r1 r3).lt⟩, he.n, fun i o hi _ t _ hw => ?_, fun t hw => ?_, fun i _ r => absurd r (nl i), fun i o r => absurd r (nl i), fun i r => absurd r (nl i), rfl, .refl, fun _ _ => rfl⟩⟩
 ·have hcn : c = L.length := by
   rcases Nat.lt_or_ge c L.length with q | q
   ·exact absurd q (hI.cut q).1
   ·have := hI.cn; omega
  subst hcn
  have hT : T = St L.length := by
   have hlen : T.length = (St L.length).length := by rw [hI.len, hc.lens hcall.nat L.length (Nat.le_refl _)]
   apply List.ext_getElem hlen
   intro j h1 h2
   have := hI.vis j L.length (Nat.le_refl _) (Nat.le_refl _) (fun k r _ => ⟨r, r⟩) fun m _ s1 s2 => by omega
   rw [List.getD_eq_getElem?_getD, List.getD_eq_getElem?_getD, List.getElem?_eq_getElem h1, List.getElem?_eq_getElem h2] at this
   exact this
  have hE : EnvR C w' F' σ' (E L.length) a'.tmps := ⟨by rw [hc.envLen L.length (Nat.le_refl _), hI.tm], fun t => hI.enve t fun j oj r _ => getElem?_lt r⟩
  rw [henv] at e4
  have hO : OpenOk C F' σ' w' (openedL (planOf C b env0 L) St KS L.length) := fun q hq => by
   unfold openedL at hq
   obtain ⟨i, r1, r2⟩ := List.mem_filterMap.mp hq
   have hi := List.mem_range.mp r1
   by_cases hk : KS i = []
   ·rw [if_pos hk] at r2; cases r2
   ·rw [if_neg hk] at r2
    obtain rfl := Option.some.inj r2
    exact hI.opn i hi hi hk _ (by simp)
  refine ⟨_, St L.length, F', σ', e4, hI.defs, hT ▸ hI.sim, ?_, hT ▸ hI.stp, hI.ext, by rw [hc.lens hcall.nat L.length (Nat.le_refl _)]⟩
  rw [List.nil_append]
  unfold endEnv
  split
  ·exact hE
  ·exact hO.envs hE
 ·rw [betw id k r1 fun m hm hq => by have := inSlot_one hq r4; omega]
  exact (hin j id r3 r4).dead
 ·rw [hc.envSame (i := 0) i (by omega) (Nat.le_of_lt (getElem?_lt hi)) fun k q _ r2 r3 r4 => nl k (hw k q r2 r3 r4)]
  exact he.at_ t
 ·rw [hc.envSame (i := 0) L.length (by omega) (Nat.le_refl _) fun k q _ r2 r3 r4 => nl k (hw k q r3 r4)]
  exact he.at_ t
end
section
variable {C : Cfg} {F : Nat → Prop} {σ : Sig} {S : List Blk} {w : World} {α : Type} {out : α}
theorem getD_more (S : List Blk) (m i : Nat) : (S ++ List.replicate m Blk.dead).getD i Blk.dead = S.getD i Blk.dead := by
 rw [List.getD_eq_getElem?_getD, List.getD_eq_getElem?_getD, List.getElem?_append]
 split
 ·rfl
 ·rename_i h
  rw [List.getElem?_eq_none (by omega : S.length ≤ i), List.getElem?_replicate]
  split <;> rfl
theorem live_more {S : List Blk} {m i : Nat} : live (S ++ List.replicate m Blk.dead) i ↔ live S i := by
 unfold live
 rw [getD_more]
theorem Sim.room (hs : Sim C F σ S w) (m : Nat) : Sim C F σ (S ++ List.replicate m Blk.dead) w where
 blk := fun id => by rw [getD_more]; exact hs.blk id
 inj := fun id id' b h1 h2 => hs.inj id id' b (live_more.mp h1) (live_more.mp h2)
 out := fun id b h1 => hs.out id b (live_more.mp h1)
 top := fun id hid => hs.top id (by simp at hid; omega)
 fin := hs.fin
 tab := hs.tab
theorem Stp.room {F' : Nat → Prop} {σ' : Sig} {S' : List Blk} {w' : World} {m : Nat} (h : Stp C F σ (S ++ List.replicate m Blk.dead) w F' σ' S' w') : Stp C F σ S w F' σ' S' w' where
 os := h.os
 tape := h.tape
 output := h.output
 drawn := h.drawn
 heap := h.heap
 keep := fun b hb hn => h.keep b hb fun id hl => hn id (live_more.mp hl)
 grow := h.grow
 new := fun b hb => by
  rcases h.new b hb with q | q | ⟨id, q1, q2⟩
  ·exact .inl q
  ·exact .inr (.inl q)
  ·exact .inr (.inr ⟨id, live_more.mp q1, q2⟩)
 own := fun id b hl he => by
  rcases h.own id b hl he with q | ⟨id', q1, q2⟩
  ·exact .inl q
  ·exact .inr ⟨id', live_more.mp q1, q2⟩
theorem regD_ok {call : CallF} {K : X → Option α} {ops : Array Oper} {id : Nat} {draw : Bool} {x : X} {a : Act} (hl : layB C = true) (hnm : namesB C = true) (hm : C.P.follows .mixedOrders = true) (hcall : Called C call)
  (hs : Sim C F σ x.st w) (he : EnvR C w F σ x.env a.tmps) (h : regD C call K ops draw x = some out) :
  (Code.region id ops draw).wp C.P (fun e a' w' => e = .normal ∧ ∃ env' S' F' σ', K ⟨env', S'⟩ = some out ∧ a'.defers = a.defers ∧ Sim C F' σ' S' w' ∧ EnvR C w' F' σ' env' a'.tmps ∧ Stp C F σ x.st w F' σ' S' w' ∧ (∀ id, σ id ≠ .no → σ' id = σ id)) a w := by
 have hs1 := hs.room (ops.toList.map fun o => slotsOf o.op).sum
 have hsl : ∀ j, x.st.length ≤ j → j < x.st.length + (ops.toList.map fun o => slotsOf o.op).sum → Slot σ (x.st ++ List.replicate (ops.toList.map fun o => slotsOf o.op).sum Blk.dead) j := fun j h1 h2 => ⟨by simp; omega, by rw [getD_more, List.getD_eq_getElem?_getD, List.getElem?_eq_none h1]; rfl, hs.top j h1⟩
 unfold regD at h
 cases draw with
 | false =>
  simp only [Bool.false_eq_true, if_false] at h
  refine wp_region ?_
  rw [List.range_eq_range', show ops.size = ops.toList.length by simp]
  exact opsD_seq (ds := a.defers) hl hnm hcall (fun a' w' hq => by
   obtain ⟨env', S', F', σ', q1, q2, q3, q4, q5, q6, _⟩ := hq
   exact ⟨rfl, env', S', F', σ', q1, q2, q3, q4, q5.room, q6⟩) ops.toList 0 x.st.length x.env _ [] a w F σ rfl hs1 he hsl (fun q hq => by simp at hq) rfl .refl (fun _ _ => rfl) rfl h
 | true =>
  simp only [if_true] at h
  obtain ⟨hok, h⟩ := ite_some h
  obtain ⟨s1, t1⟩ := hs1.drew_ (w.drawn + 1) (Nat.le_succ _)
  refine wp_region_any hm ?_
  rw [show ops.size = ops.toList.length by simp]
  have he1 : EnvR C { w with drawn := w.drawn + 1 } F σ x.env a.tmps := he.mono (fun _ _ => rfl) (fun _ h => h) fun _ _ => rfl
  have := opsD_any (L := ops.toList) (b := x.st.length) (a := a) (K := K) (out := out) (w := { w with drawn := w.drawn + 1 }) (Q := fun e a' w' => e = .normal ∧ ∃ env' S' F' σ', K ⟨env', S'⟩ = some out ∧ a'.defers = a.defers ∧ Sim C F' σ' S' w' ∧ EnvR C w' F' σ' env' a'.tmps ∧ Stp C F σ x.st w F' σ' S' w' ∧ (∀ id, σ id ≠ .no → σ' id = σ id)) hl hnm hcall hok s1 he1 (by simp) hsl (fun a' w' hq => by
   obtain ⟨env', S', F', σ', q1, q2, q3, q4, q5, q6, _⟩ := hq
   exact ⟨rfl, env', S', F', σ', q1, q2, q3, q4, (t1.trans q5).room, q6⟩) h
  simpa using this
end
end Go.Proofs.YteklakapimggeaaGreatDoor.Den
