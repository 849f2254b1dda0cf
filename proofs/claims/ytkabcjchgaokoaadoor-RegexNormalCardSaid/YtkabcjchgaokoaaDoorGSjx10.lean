/- Proved here: what the functions below come to: walks printed by a program, over contracts of this claim. -/
import Derived.Test.YtkabcjchgaokoaaDoorGSjx0
import Derived.Test.YtkabcjchgaokoaaDoorGSjx4
import Derived.Test.YtkabcjchgaokoaaDoorGSjx6
import Derived.Test.YtkabcjchgaokoaaDoorGSjx8
import Derived.Test.YtkabcjchgaokoaaDoorGSjx9
namespace Go.Proofs.YtkabcjchgaokoaaDoor.PSj
open Go.RowKit Go.Proofs.YtkabcjchgaokoaaDoorW.PrintWords Go.Proofs.YtkabcjchgaokoaaDoorW.PrintLast Go.Proofs.YtkabcjchgaokoaaDoorW.PrintMore
attribute [local go_sem] max2_int min2_int max_two min_two max_three min_three max_four min_four   -- for this text's walks alone
set_option linter.unusedVariables false
set_option linter.unusedSimpArgs false

/-! ### regex_Show: function 6 -/
def catB (a b : ByteArray) : Option ByteArray := if a.size < 1000000000000 ∧ b.size < 1000000000000 then some (a ++ b) else none
theorem catB_some {a b r : ByteArray} (h : catB a b = some r) : r = a ++ b ∧ a.size < 1000000000000 ∧ b.size < 1000000000000 := by
  unfold catB at h
  by_cases c : a.size < 1000000000000 ∧ b.size < 1000000000000
  · rw [if_pos c] at h; exact ⟨(Option.some.inj h).symm, c⟩
  · rw [if_neg c] at h; cases h
/-! #### struct type 43 -/
structure S43 where
  f0 : ByteArray
  f1 : Int
def z43 : S43 := ⟨(⟨#[]⟩ : ByteArray), (0 : Int)⟩
def k43 : Kd S43 := Kd.iso (Kd.pair Kd.string (Kd.int .i64)) (fun x : S43 => (x.f0, x.f1))
theorem k43_open {w : World} {x : S43} {cs : List Value} (h : k43.K w x cs) : cs = [.string x.f0, .int .i64 x.f1] := by
  obtain ⟨_, _, rfl, rfl, rfl⟩ := h
  exact rfl
theorem k43_openM {w : World} {base : Nat} {ok : Nat → Prop} {x : S43} {cs : List Value} (h : k43.M w base ok x cs) : cs = [.string x.f0, .int .i64 x.f1] := by
  obtain ⟨_, _, rfl, rfl, rfl⟩ := h
  exact rfl
theorem k43_mk (w : World) (x : S43)  : k43.K w x [.string x.f0, .int .i64 x.f1] := ⟨[.string x.f0], [.int .i64 x.f1], rfl, rfl, rfl⟩
theorem k43_mkM (w : World) (base : Nat) (ok : Nat → Prop) (x : S43)  : k43.M w base ok x [.string x.f0, .int .i64 x.f1] := ⟨[.string x.f0], [.int .i64 x.f1], rfl, rfl, rfl⟩
def rd_T43 (xs : List S43) (i : Int) : S43 := xs.getD i.toNat z43
theorem at_T43 {w : World} {A : Option Addr} {n : Nat} {xs : List S43} (h : Kd.C k43 w A n xs) (i : Int) (h0 : 0 ≤ i) (h1 : i < n) : ∃ ad , A = some ad ∧ w.cell? (ad.add (i.toNat * 2)) = some (.string (rd_T43 xs i).f0) ∧ w.cell? ⟨(ad.add (i.toNat * 2)).block, (ad.add (i.toNat * 2)).off + 1, none⟩ = some (.int .i64 (rd_T43 xs i).f1) := by
  obtain ⟨ad, c, e, _, hK, hc0⟩ := Kd.C_get h z43 i h0 h1
  have hc : ∀ j u, c[j]? = some u → w.cell? (ad.add (i.toNat * 2 + j)) = some u := hc0
  obtain rfl := k43_open hK
  exact ⟨ad, e, hc 0 _ rfl, by rw [← add_field _ _ 1 (by omega)]; exact hc 1 _ rfl⟩
/-! #### a region that draws, whose loads are taken first though its last operation stores -/
section
variable {P : Program} {ops : Array Oper} {Q : Exit → Act → World → Prop} {md : Region.Mode} {S : World → Prop}
/-- S holds behind every operation but number z. -/
def AnyS (z : Nat) (P : Program) (md : Region.Mode) (ops : Array Oper) (Q : Exit → Act → World → Prop) (S : World → Prop) : Nat → Array Bool → Act → World → Prop
  | 0, listed, a, w => Region.ready md ops listed = [] ∧ Q .normal a w
  | f + 1, listed, a, w => (Region.ready md ops listed = [] → Q .normal a w) ∧
      ∀ i ∈ Region.ready md ops listed, wpOp P ops Q i (fun a' w' => (i ≠ z → S w') ∧ AnyS z P md ops Q S f (listed.setIfInBounds i true) a' w') a w
theorem anyS_any (z : Nat) : ∀ (f : Nat) (listed : Array Bool) (a : Act) (w : World), AnyS z P md ops Q S f listed a w → wpAny P md ops Q f listed a w
  | 0, _, _, _, h => h
  | f + 1, _, _, _, h => ⟨h.1, fun i hi => wpOp_mono (fun _ _ k => anyS_any z f _ _ _ k.2) (h.2 i hi)⟩
/-- Number z waits for number i. -/
def waitsB (md : Region.Mode) (ops : Array Oper) (z i : Nat) : Bool := match ops[z]? with
  | some o => o.after.any fun e => Region.binds md e && e.on == i
  | none => true
theorem getD_two {l : Array Bool} {i : Nat} (h0 : l.getD i true = false) (h1 : l.getD i false = true) : False := by
  rcases Nat.lt_or_ge i l.size with h | h
  · simp [h] at h0 h1
    rw [h0] at h1
    cases h1
  · simp [Array.getElem?_eq_none h] at h1
theorem anyS_first {z i : Nat} {oi : Oper} {v : Value} (hi : ops[i]? = some oi) (hsel : Region.noSelect ops = true) (hz : waitsB md ops z i = true) (hQ : ∀ c a w, Q (.panic c) (a.put oi.dst v) w → Q (.panic c) a w) :
    ∀ (f : Nat) (listed : Array Bool) (a : Act) (w : World),
      (∀ j oj, ops[j]? = some oj → j ≠ i → listed.getD j true = false → (∀ e ∈ oj.after, Region.binds md e = true → e.on ≠ i) → oi.apart ops oj = true) →
      i ∈ Region.ready md ops listed → YieldsIf P ops S oi v a → S w → AnyS z P md ops Q S f (listed.setIfInBounds i true) (a.put oi.dst v) w → AnyS z P md ops Q S (f + 1) listed a w := by
  intro f
  induction f with
  | zero =>
    intro listed a w _ hr hy hS H
    refine ⟨fun h => absurd hr (by rw [h]; simp), fun j hj => ?_⟩
    by_cases e : j = i
    · subst e
      exact hy.wpOp hi hS ⟨fun _ => hS, H⟩
    · exact absurd (ready_mono hj e) (by rw [H.1]; simp)
  | succ f ih =>
    intro listed a w hfree hr hy hS H
    refine ⟨fun h => absurd hr (by rw [h]; simp), fun j hj => ?_⟩
    by_cases e : j = i
    · subst e
      exact hy.wpOp hi hS ⟨fun _ => hS, H⟩
    · obtain ⟨hun, oj, hoj, hall⟩ := mem_ready.1 hj
      have hri := (mem_ready.1 hr).1
      have hnot : ∀ d ∈ oj.after, Region.binds md d = true → d.on ≠ i := fun d hd hb hon => getD_two hri (hon ▸ hall d hd hb)
      have hjz : j ≠ z := by
        rintro rfl
        unfold waitsB at hz
        rw [hoj] at hz
        obtain ⟨d, hd, hb⟩ := Array.any_eq_true'.mp hz
        simp only [Bool.and_eq_true, beq_iff_eq] at hb
        exact hnot d hd hb.1 hb.2
      have h2 := wpOp_putIf hoj (hfree j oj hoj e hun hnot) (fun cs b => Region.noSelect_spec hsel i oi cs b hi) (fun cs b => Region.noSelect_spec hsel j oj cs b hoj) hQ hy (H.2 j (ready_mono hj e))
      refine wpOp_mono (fun a' w' k => ?_) h2
      have hSw := k.2.1 hjz
      refine ⟨fun _ => hSw, ih (listed.setIfInBounds j true) a' w' (fun m om hm hmi hmun hno => hfree m om hm hmi ?_ hno) (ready_mono hr (Ne.symm e)) k.1 hSw ?_⟩
      · by_cases hjm : j = m
        · subst hjm; exact hun
        · rwa [getD_set_ne true hjm] at hmun
      · rw [Array.setIfInBounds_comm _ _ e]
        exact k.2.2
theorem anyS_take {z i : Nat} {oi : Oper} {v : Value} {f : Nat} {listed : Array Bool} {a : Act} {w : World} (hi : ops[i]? = some oi) (hs : Region.noSelect ops = true) (hz : waitsB md ops z i = true)
    (hf : Region.free md ops listed i = true) (hr : (Region.ready md ops listed).contains i = true) (hQ : ∀ c a w, Q (.panic c) (a.put oi.dst v) w → Q (.panic c) a w) (hy : YieldsIf P ops S oi v a) (hS : S w)
    (h : AnyS z P md ops Q S f (listed.setIfInBounds i true) (a.put oi.dst v) w) : AnyS z P md ops Q S (f + 1) listed a w :=
  anyS_first hi hs hz hQ f listed a w (Region.free_spec hi hf) (by simpa using hr) hy hS h
theorem anyS_cut {z : Nat} {f : Nat} {l : Array Bool} {a : Act} {X : World} (f' : Nat) (l' : Array Bool) (g : Act → Nat → Act) (R : Nat → World → Prop) (main : (∀ M Y, R M Y → AnyS z P md ops Q S f' l' (g a M) Y) → AnyS z P md ops Q S f l a X) (tail : ∀ M Y, R M Y → AnyS z P md ops Q S f' l' (g a M) Y) : AnyS z P md ops Q S f l a X := main tail
theorem anyS_at {z : Nat} {f : Nat} {l l' : Array Bool} {a a' : Act} {X : World} (hl : l = l') (ha : a = a') (h : AnyS z P md ops Q S f l' a' X) : AnyS z P md ops Q S f l a X := by rw [hl, ha]; exact h
def AllS (z : Nat) (P : Program) (md : Region.Mode) (ops : Array Oper) (Q : Exit → Act → World → Prop) (S : World → Prop) (f : Nat) (listed : Array Bool) (a : Act) (w : World) (rs : List Nat) : Prop :=
  ∀ i ∈ rs, wpOp P ops Q i (fun a' w' => (i ≠ z → S w') ∧ AnyS z P md ops Q S f (listed.setIfInBounds i true) a' w') a w
theorem anyS_ready {z : Nat} (rs : List Nat) {f : Nat} {listed : Array Bool} {a : Act} {w : World} (hr : Region.ready md ops listed = rs) (hne : rs ≠ []) (h : AllS z P md ops Q S f listed a w rs) : AnyS z P md ops Q S (f + 1) listed a w :=
  ⟨fun h0 => absurd (hr ▸ h0) hne, hr ▸ h⟩
theorem allS_nil {z f : Nat} {listed : Array Bool} {a : Act} {w : World} : AllS z P md ops Q S f listed a w [] := fun _ h => by cases h
theorem allS_cons {z f : Nat} {listed : Array Bool} {a : Act} {w : World} {i : Nat} {o : Oper} {rs : List Nat} (ho : ops[i]? = some o)
    (h : ∀ K' : Act → World → Prop, (∀ a w, S w → AnyS z P md ops Q S f (listed.setIfInBounds i true) a w → K' a w) → if Region.wanted o (yielded ops a.tmps) = true then Oper.wp P o a w K' Q else K' (a.put o.dst undef) w)
    (hs : AllS z P md ops Q S f listed a w rs) : AllS z P md ops Q S f listed a w (i :: rs) := fun j hj => by
  rcases List.mem_cons.1 hj with rfl | hj
  · exact wpOp_step ho fun K' hK => h K' fun a w hS hA => hK a w ⟨fun _ => hS, hA⟩
  · exact hs j hj
theorem allS_last {z f : Nat} {listed : Array Bool} {a : Act} {w : World} {o : Oper} (ho : ops[z]? = some o)
    (h : ∀ K' : Act → World → Prop, (∀ a w, AnyS z P md ops Q S f (listed.setIfInBounds z true) a w → K' a w) → if Region.wanted o (yielded ops a.tmps) = true then Oper.wp P o a w K' Q else K' (a.put o.dst undef) w) : AllS z P md ops Q S f listed a w [z] := fun j hj => by
  rcases List.mem_cons.1 hj with rfl | hj
  · exact wpOp_step ho fun K' hK => h K' fun a w hA => hK a w ⟨fun e => absurd rfl e, hA⟩
  · cases hj
theorem anyS_done {z : Nat} {listed : Array Bool} {a : Act} {w : World} (hr : Region.ready md ops listed = []) (h : Q .normal a w) : AnyS z P md ops Q S 0 listed a w := ⟨hr, h⟩
end
/-! #### what stays while the map of signs is made -/
def mapIn (X : World) (m : Nat) (o : Obj) : World := { X with heap := X.heap.setIfInBounds m o }
theorem mapIn_at {X : World} {m : Nat} {o o' : Obj} (h : X.heap[m]? = some o) : (mapIn X m o').heap[m]? = some o' := (MapKept.heap_set h).1
theorem mapIn_ne {X : World} {m k : Nat} {o o' : Obj} (h : X.heap[m]? = some o) (hk : k ≠ m) : (mapIn X m o').heap[k]? = X.heap[k]? := (MapKept.heap_set h).2 k hk
theorem ins9 (X : World) (m : Nat) (es : Array MapEntry) (c : Nat) (q : Int) (v : Value) (hb : X.heap[m]? = some (.map es c)) (hf : Instr.findNow (.int .i64) (.int .i64 q) es.toList 0 = some none) :
    (Instr.mapUpdate 45 (.map (some m)) (.int .i64 q) v).run Tryd.prog X = .ok () (mapIn X m (.map (es.push { key := .int .i64 q, val := v, born := c }) (c + 1))) := by
  simp [Instr.mapUpdate, run_underlying Tryd.underlying45, MapKept.run_getObj_map hb, MapKept.run_checkKey Tryd.underlying3 (show MapKept.IsKey (.int .i64) (.int .i64 q) from rfl), MapKept.run_findKey Tryd.underlying3 hf, MapKept.run_setObj_map _ hb, Result.andThen]
  rfl
theorem look9 (X : World) (m : Nat) (es : Array MapEntry) (c : Nat) (q : Int) (i : Nat) (v : Value) (hb : X.heap[m]? = some (.map es c)) (hf : Instr.findNow (.int .i64) (.int .i64 q) es.toList 0 = some (some (i, v))) :
    (Instr.lookup 45 (.map (some m)) (.int .i64 q) false).run Tryd.prog X = .ok v X := by
  simp [Instr.lookup, run_underlying Tryd.underlying45, MapKept.run_getObj_map hb, MapKept.run_checkKey Tryd.underlying3 (show MapKept.IsKey (.int .i64) (.int .i64 q) from rfl), MapKept.run_findKey Tryd.underlying3 hf, Result.andThen]
structure St9 (w : World) (g N cc p : Nat) (st : List S43) (b : S43) (o : Int) (X : World) : Prop where
  below : Below w.heap.size w X
  row : Kd.R k43 43 X w.heap.size (fun _ => True) (.slice (some ⟨g, 0, none⟩) N cc) st
  c0 : X.cell? ⟨g, (N - 1) * 2, none⟩ = some (.string b.f0)
  c1 : X.cell? ⟨g, (N - 1) * 2 + 1, none⟩ = some (.int .i64 b.f1)
  c2 : X.cell? ⟨p, 0, none⟩ = some (.int .i64 o)
theorem St9.s {w X : World} {g N cc p : Nat} {st : List S43} {b : S43} {o : Int} (h : St9 w g N cc p st b o X) : X.cell? ⟨g, (N - 1) * 2, none⟩ = some (.string b.f0) ∧ X.cell? ⟨g, (N - 1) * 2 + 1, none⟩ = some (.int .i64 b.f1) ∧ X.cell? ⟨p, 0, none⟩ = some (.int .i64 o) := ⟨h.c0, h.c1, h.c2⟩
theorem St9.call {w X X1 : World} {g N cc p : Nat} {st : List S43} {b : S43} {o : Int} (h : St9 w g N cc p st b o X) (hb : Below X.heap.size X X1) : St9 w g N cc p st b o X1 :=
  ⟨below_step h.below hb, Kd.R_below h.row hb, pw_cell_below hb h.c0, pw_cell_below hb h.c1, pw_cell_below hb h.c2⟩
theorem St9.make {w X : World} {g N cc p : Nat} {st : List S43} {b : S43} {o : Int} (h : St9 w g N cc p st b o X) : St9 w g N cc p st b o (X.alloc (.map #[] 0)) :=
  h.call (below_alloc (Below.refl _ _) _)
theorem cell_blk {X : World} {g q : Nat} {v : Value} (h : X.cell? ⟨g, q, none⟩ = some v) : ∃ cs t gr, X.heap[g]? = some (.cells cs t gr) := by
  unfold World.cell? at h
  simp only at h
  cases hg : X.heap[g]? with
  | none => rw [hg] at h; simp at h
  | some o =>
    cases o with
    | cells cs t gr => exact ⟨cs, t, gr, rfl⟩
    | _ => rw [hg] at h; simp at h
theorem cell_same {X Y : World} {g q : Nat} {v : Value} (h : X.cell? ⟨g, q, none⟩ = some v) (hh : Y.heap[g]? = X.heap[g]?) : Y.cell? ⟨g, q, none⟩ = some v := by
  unfold World.cell? at h ⊢
  simp only at h ⊢
  rw [hh]
  exact h
theorem cell_mapIn {X : World} {m g q : Nat} {v : Value} {es : Array MapEntry} {c : Nat} {o : Obj} (h : X.cell? ⟨g, q, none⟩ = some v) (hm : X.heap[m]? = some (.map es c)) : (mapIn X m o).cell? ⟨g, q, none⟩ = some v := by
  obtain ⟨cs, t, gr, hg⟩ := cell_blk h
  refine cell_same h (mapIn_ne hm ?_)
  rintro rfl
  rw [hg] at hm
  cases hm
theorem St9.ins {w X : World} {g N cc p m : Nat} {st : List S43} {b : S43} {o : Int} {es : Array MapEntry} {c : Nat} (ob : Obj) (h : St9 w g N cc p st b o X) (hm : X.heap[m]? = some (.map es c)) (hw : w.heap.size ≤ m) : St9 w g N cc p st b o (mapIn X m ob) := by
  refine ⟨?_, ?_, cell_mapIn h.c0 hm, cell_mapIn h.c1 hm, cell_mapIn h.c2 hm⟩
  · have hb := h.below
    exact ⟨hb.os, hb.tape, hb.output, by show _ ≤ (X.heap.setIfInBounds m ob).size; rw [Array.size_setIfInBounds]; exact hb.size, fun k hk => (mapIn_ne hm (by omega)).trans (hb.block k hk)⟩
  · refine Kd.R_mono (Kd.R_move (Kd.R_bound h.row) (fun k hk => mapIn_ne hm ?_)) (fun _ _ => trivial)
    obtain ⟨_, _, _, q, _, cells, hc⟩ := hk
    rintro rfl
    rw [hc] at hm
    cases hm
theorem St9.store {w X : World} {g N cc p : Nat} {st : List S43} {b : S43} {o : Int} (h : St9 w g N cc p st b o X) (hg : w.heap.size ≤ g) (hN : 0 < N) (s : ByteArray) (pw : Int) :
    Kd.R k43 43 ((X.setCell ⟨g, (N - 1) * 2, none⟩ (.string s)).setCell ⟨g, (N - 1) * 2 + 1, none⟩ (.int .i64 pw)) w.heap.size (fun _ => True) (.slice (some ⟨g, 0, none⟩) N cc) (st.set (N - 1) (⟨s, pw⟩ : S43)) := by
  obtain ⟨c, hcl, hM, hcc, _⟩ := Kd.R_elem h.row z43 ((N - 1 : Nat) : Int) (by omega) (by omega)
  have := (Kd.R_seg h.row ((N - 1 : Nat) : Int) (by omega) (by omega) (c := c) (seg := [.string s, .int .i64 pw]) (j := 0) (x' := (⟨s, pw⟩ : S43)) (okp := fun k => True ∧ k ≠ g) hcl hcc (Nat.le_refl 2) (by
    have e : (c.take 0 ++ [Value.string s, .int .i64 pw] ++ c.drop (0 + [Value.string s, .int .i64 pw].length)) = [.string s, .int .i64 pw] := by
      have h2 : c.length = 2 := hcl
      simp [List.drop_of_length_le, h2]
    rw [e]
    exact ⟨[_], [_], rfl, rfl, rfl⟩) (fun k hk => hk)).1
  exact this
theorem St9.fr {w X : World} {g N cc p : Nat} {st : List S43} {b : S43} {o : Int} (h : St9 w g N cc p st b o X) (hN : 0 < N) : X.frozen? ⟨g, (N - 1) * 2, none⟩ = false ∧ X.frozen? ⟨g, (N - 1) * 2 + 1, none⟩ = false := by
  obtain ⟨c, _, _, _, hf⟩ := Kd.R_elem h.row z43 ((N - 1 : Nat) : Int) (by omega) (by omega)
  exact ⟨hf 0, hf 1⟩
theorem look9s (X : World) (m : Nat) (es : Array MapEntry) (c : Nat) (q : Int) (v : Value) (hb : X.heap[m]? = some (.map es c)) (hf : ∃ i, Instr.findNow (.int .i64) (.int .i64 q) es.toList 0 = some (some (i, v))) :
    (Instr.lookup 45 (.map (some m)) (.int .i64 q) false).run Tryd.prog X = .ok v X := by
  obtain ⟨i, hf⟩ := hf
  exact look9 X m es c q i v hb hf
abbrev O9_0 : Oper := { dst := some 21, op := Go.Op.move (Go.Operand.tmp 4), type := 35, pos := "regex.go:318", after := #[], guard := none }
abbrev O9_1 : Oper := { dst := some 22, op := Go.Op.move (Go.Operand.tmp 7), type := 3, pos := "regex.go:318", after := #[], guard := none }
abbrev O9_2 : Oper := { dst := some 23, op := Go.Op.binOp Go.BinOp.sub 3 (Go.Operand.tmp 22) (Go.Operand.const (Go.Value.int Go.IntKind.i64 1)) 3, type := 3, pos := "regex.go:318", after := #[{ on := 1, ground := Go.Ground.data }], guard := none }
abbrev O9_3 : Oper := { dst := some 24, op := Go.Op.move (Go.Operand.tmp 4), type := 35, pos := "regex.go:318", after := #[], guard := none }
abbrev O9_4 : Oper := { dst := some 25, op := Go.Op.move (Go.Operand.tmp 7), type := 3, pos := "regex.go:318", after := #[], guard := none }
abbrev O9_5 : Oper := { dst := some 26, op := Go.Op.binOp Go.BinOp.sub 3 (Go.Operand.tmp 25) (Go.Operand.const (Go.Value.int Go.IntKind.i64 1)) 3, type := 3, pos := "regex.go:318", after := #[{ on := 4, ground := Go.Ground.data }], guard := none }
abbrev O9_6 : Oper := { dst := some 27, op := Go.Op.indexAddr 35 (Go.Operand.tmp 24) (Go.Operand.tmp 26), type := 0, pos := "regex.go:318", after := #[{ on := 3, ground := Go.Ground.data }, { on := 5, ground := Go.Ground.data }], guard := none }
abbrev O9_7 : Oper := { dst := some 28, op := Go.Op.load 43 (Go.Operand.tmp 27), type := 43, pos := "regex.go:318", after := #[{ on := 6, ground := Go.Ground.data }], guard := none }
abbrev O9_8 : Oper := { dst := some 29, op := Go.Op.call { callee := Go.Callee.value (Go.Operand.func 15), args := #[Go.Operand.tmp 28, Go.Operand.const (Go.Value.int Go.IntKind.i64 3)], argTypes := #[43, 3] }, type := 9, pos := "regex.go:318", after := #[{ on := 7, ground := Go.Ground.data }], guard := none }
abbrev O9_9 : Oper := { dst := some 30, op := Go.Op.makeMap 45 none, type := 45, pos := "regex.go:318", after := #[], guard := none }
abbrev O9_10 : Oper := { dst := none, op := Go.Op.insert 45 (Go.Operand.tmp 30) (Go.Operand.const (Go.Value.int Go.IntKind.i64 5)) (Go.Operand.const (Go.Value.string { data := #[42] })), type := 0, pos := "regex.go:318", after := #[{ on := 9, ground := Go.Ground.data }], guard := none }
abbrev O9_11 : Oper := { dst := none, op := Go.Op.insert 45 (Go.Operand.tmp 30) (Go.Operand.const (Go.Value.int Go.IntKind.i64 6)) (Go.Operand.const (Go.Value.string { data := #[43] })), type := 0, pos := "regex.go:318", after := #[{ on := 9, ground := Go.Ground.data }], guard := none }
abbrev O9_12 : Oper := { dst := none, op := Go.Op.insert 45 (Go.Operand.tmp 30) (Go.Operand.const (Go.Value.int Go.IntKind.i64 7)) (Go.Operand.const (Go.Value.string { data := #[63] })), type := 0, pos := "regex.go:318", after := #[{ on := 9, ground := Go.Ground.data }], guard := none }
abbrev O9_13 : Oper := { dst := some 31, op := Go.Op.move (Go.Operand.tmp 30), type := 45, pos := "regex.go:318", after := #[{ on := 9, ground := Go.Ground.data }, { on := 10, ground := Go.Ground.data }, { on := 11, ground := Go.Ground.data }, { on := 12, ground := Go.Ground.data }], guard := none }
abbrev O9_14 : Oper := { dst := some 32, op := Go.Op.fieldAddr 40 (Go.Operand.tmp 6) 0, type := 0, pos := "regex.go:318", after := #[], guard := none }
abbrev O9_15 : Oper := { dst := some 33, op := Go.Op.load 3 (Go.Operand.tmp 32), type := 3, pos := "regex.go:318", after := #[{ on := 14, ground := Go.Ground.data }], guard := none }
abbrev O9_16 : Oper := { dst := some 34, op := Go.Op.lookup 45 (Go.Operand.tmp 31) (Go.Operand.tmp 33) false, type := 9, pos := "regex.go:318", after := #[{ on := 13, ground := Go.Ground.data }, { on := 15, ground := Go.Ground.data }], guard := none }
abbrev O9_17 : Oper := { dst := some 35, op := Go.Op.binOp Go.BinOp.add 9 (Go.Operand.tmp 29) (Go.Operand.tmp 34) 9, type := 9, pos := "regex.go:318", after := #[{ on := 8, ground := Go.Ground.data }, { on := 16, ground := Go.Ground.data }], guard := none }
abbrev O9_18 : Oper := { dst := some 36, op := Go.Op.build 43 #[(0, Go.Operand.tmp 35), (1, Go.Operand.const (Go.Value.int Go.IntKind.i64 3))], type := 43, pos := "regex.go:318", after := #[{ on := 17, ground := Go.Ground.data }], guard := none }
abbrev O9_19 : Oper := { dst := some 37, op := Go.Op.indexAddr 35 (Go.Operand.tmp 21) (Go.Operand.tmp 23), type := 0, pos := "regex.go:318", after := #[{ on := 0, ground := Go.Ground.data }, { on := 2, ground := Go.Ground.data }, { on := 0, ground := Go.Ground.phase }, { on := 1, ground := Go.Ground.phase }, { on := 2, ground := Go.Ground.phase }, { on := 3, ground := Go.Ground.phase }, { on := 4, ground := Go.Ground.phase }, { on := 5, ground := Go.Ground.phase }, { on := 6, ground := Go.Ground.phase }, { on := 7, ground := Go.Ground.phase }, { on := 8, ground := Go.Ground.phase }, { on := 9, ground := Go.Ground.phase }, { on := 10, ground := Go.Ground.phase }, { on := 11, ground := Go.Ground.phase }, { on := 12, ground := Go.Ground.phase }, { on := 13, ground := Go.Ground.phase }, { on := 14, ground := Go.Ground.phase }, { on := 15, ground := Go.Ground.phase }, { on := 16, ground := Go.Ground.phase }, { on := 17, ground := Go.Ground.phase }, { on := 18, ground := Go.Ground.phase }], guard := none }
abbrev O9_20 : Oper := { dst := none, op := Go.Op.store 43 (Go.Operand.tmp 37) (Go.Operand.tmp 36), type := 0, pos := "regex.go:318", after := #[{ on := 19, ground := Go.Ground.data }, { on := 18, ground := Go.Ground.data }, { on := 8, ground := Go.Ground.chain }, { on := 0, ground := Go.Ground.phase }, { on := 1, ground := Go.Ground.phase }, { on := 2, ground := Go.Ground.phase }, { on := 3, ground := Go.Ground.phase }, { on := 4, ground := Go.Ground.phase }, { on := 5, ground := Go.Ground.phase }, { on := 6, ground := Go.Ground.phase }, { on := 7, ground := Go.Ground.phase }, { on := 8, ground := Go.Ground.phase }, { on := 9, ground := Go.Ground.phase }, { on := 10, ground := Go.Ground.phase }, { on := 11, ground := Go.Ground.phase }, { on := 12, ground := Go.Ground.phase }, { on := 13, ground := Go.Ground.phase }, { on := 14, ground := Go.Ground.phase }, { on := 15, ground := Go.Ground.phase }, { on := 16, ground := Go.Ground.phase }, { on := 17, ground := Go.Ground.phase }, { on := 18, ground := Go.Ground.phase }], guard := none }
attribute [local go_sem] O9_0 O9_1 O9_2 O9_3 O9_4 O9_5 O9_6 O9_7 O9_8 O9_9 O9_10 O9_11 O9_12 O9_13 O9_14 O9_15 O9_16 O9_17 O9_18 O9_19 O9_20
def regex_Show.sym (o : Int) : ByteArray := if o = 5 then ⟨#[42]⟩ else if o = 6 then ⟨#[43]⟩ else ⟨#[63]⟩
def regex_Show.stp (k : Nat) (st : List S43) (c : S40) : Option (List S43) :=
  if c.f0 = 1 then (regex_set.f k c.f1.f0 c.f1.f1 c.f1.f2 c.f1.f3).bind fun s => some (st ++ [(⟨s, 3⟩ : S43)])
  else if c.f0 = 2 then some (st ++ [(⟨⟨#[40, 41]⟩, 3⟩ : S43)])
  else if c.f0 = 3 then (if 2 ≤ st.length then (regex_shown_in.f (st.getD (st.length - 2) z43).f0 (st.getD (st.length - 2) z43).f1 2).bind fun x => (regex_shown_in.f (st.getD (st.length - 1) z43).f0 (st.getD (st.length - 1) z43).f1 3).bind fun y => (catB x y).bind fun s => some (st.take (st.length - 2) ++ [(⟨s, 2⟩ : S43)]) else none)
  else if c.f0 = 4 then (if 2 ≤ st.length then (regex_shown_in.f (st.getD (st.length - 2) z43).f0 (st.getD (st.length - 2) z43).f1 1).bind fun x => (catB x ⟨#[124]⟩).bind fun x2 => (regex_shown_in.f (st.getD (st.length - 1) z43).f0 (st.getD (st.length - 1) z43).f1 2).bind fun y => (catB x2 y).bind fun s => some (st.take (st.length - 2) ++ [(⟨s, 1⟩ : S43)]) else none)
  else if 5 ≤ c.f0 ∧ c.f0 ≤ 7 then (if 1 ≤ st.length then (regex_shown_in.f (st.getD (st.length - 1) z43).f0 (st.getD (st.length - 1) z43).f1 3).bind fun x => (catB x (regex_Show.sym c.f0)).bind fun s => some (st.set (st.length - 1) (⟨s, 3⟩ : S43)) else none)
  else none
def regex_Show.l0 : Nat → List S40 → List S43 → Int → Option (ByteArray × Int)
  | 0, _, _, _ => none
  | k + 1, l, st, i => if i < (l.length : Int) then (if 0 ≤ i ∧ st.length < 1000000 then (regex_Show.stp k st (rd_T40 l i)).bind fun st' => regex_Show.l0 k l st' (i + 1) else none) else (if 0 < st.length then some ((st.getD 0 z43).f0, 0) else none)
def regex_Show.f (k : Nat) (l : List S40) : Option (ByteArray × Int) := (regex_Right.f k l).bind fun t => if t = true then regex_Show.l0 k l [] 0 else some (⟨#[]⟩, 1)
theorem regex_Show.stp_mono (k : Nat) (st : List S43) (c : S40) : LeO (regex_Show.stp k st c) (regex_Show.stp (k + 1) st c) := by
  unfold regex_Show.stp
  repeat' first
  | (with_reducible exact regex_set.mono _ _ _ _ _)
  | (with_reducible exact LeO.refl _)
  | (with_reducible refine LeO.ite ?_ ?_)
  | (with_reducible refine LeO.bind ?_ (fun _ => ?_))
theorem regex_Show.mono_l : ∀ k, (∀ y0 y1 y2, LeO (regex_Show.l0 k y0 y1 y2) (regex_Show.l0 (k + 1) y0 y1 y2))
  | 0 => fun _ _ _ r h => by rw [regex_Show.l0] at h; cases h
  | k + 1 => by
    have ih0 := regex_Show.mono_l k
    intro y0 y1 y2
    rw [regex_Show.l0, regex_Show.l0]
    repeat' first
    | (with_reducible exact ih0 _ _ _)
    | (with_reducible exact regex_Show.stp_mono _ _ _)
    | (with_reducible exact LeO.refl _)
    | (with_reducible refine LeO.ite ?_ ?_)
    | (with_reducible refine LeO.bind ?_ (fun _ => ?_))
theorem regex_Show.mono : ∀ l k, LeO (regex_Show.f k l) (regex_Show.f (k + 1) l) := by
  intro l k
  have ih0 := regex_Show.mono_l k
  unfold regex_Show.f
  repeat' first
  | (with_reducible exact ih0 _ _ _)
  | (with_reducible exact regex_Right.mono _ _)
  | (with_reducible exact LeO.refl _)
  | (with_reducible refine LeO.ite ?_ ?_)
  | (with_reducible refine LeO.bind ?_ (fun _ => ?_))
theorem info43 : (Tryd.prog.info? 43).map (fun i => (i.zero, i.size, i.bytes)) = some (some (.agg #[.string ⟨#[]⟩, .int .i64 0]), 2, 24) := by kernel_rfl
theorem regex_Show.form {w : World} {base : Nat} {ok : Nat → Prop} {A : Option Addr} {n c : Nat} {xs : List S43} (h : Kd.R k43 43 w base ok (.slice A n c) xs) (hp : 0 < xs.length) :
    ∃ g, A = some ⟨g, 0, none⟩ ∧ base ≤ g ∧ (∃ cells, w.heap[g]? = some (.cells cells 43 (0, 0))) ∧ ∀ j x, xs[j]? = some x → w.cell? ⟨g, j * 2, none⟩ = some (.string x.f0) ∧ w.cell? ⟨g, j * 2 + 1, none⟩ = some (.int .i64 x.f1) := by
  obtain ⟨inner, ho⟩ := Kd.R_own h
  obtain ⟨A', c', he, _, hC⟩ := Kd.R_reads h
  injection he with e1 e2 e3
  subst e1 e2 e3
  obtain ⟨ad, ha, hcell⟩ := hC.2.2 hp
  rcases ho.2 with ⟨h1, _⟩ | ⟨g, cap, cur, h1, hg, hh, _⟩
  · injection h1 with e1 e2 e3
    omega
  · injection h1 with e1 e2 e3
    subst e1
    cases ha
    refine ⟨g, rfl, hg, ⟨cur, hh⟩, fun j x hj => ?_⟩
    obtain ⟨cs, _, hcs, hc⟩ := hcell j x hj
    obtain rfl := k43_open hcs
    have h0 := hc 0 (.string x.f0) rfl
    have h1 := hc 1 (.int .i64 x.f1) rfl
    have esz : k43.sz = 2 := rfl
    rw [esz] at h0 h1
    rw [add_plain] at h0 h1
    have k1 : ∀ (q i : Nat), (⟨g, q, none⟩ : Addr).add i = ⟨g, q + i, none⟩ := fun q i => by unfold Addr.add; split <;> simp_all
    exact ⟨by simpa [k1, Addr.add] using h0, by simpa [k1, Addr.add] using h1⟩
theorem show_drew_alloc (W : World) (o : Obj) : (W.alloc o).drew = W.drew.alloc o := rfl
set_option maxHeartbeats 16000000 in
set_option maxRecDepth 100000 in
theorem regex_Show.calls (k : Nat) (A0 : Option Addr) (c0 : Nat) (l0 : List S40) (r1 : ByteArray) (r2 : Int) (w : World) (hT : TabD w) (hr0 : Kd.C k40 w A0 l0.length l0) (hc0 : l0.length ≤ c0) (h : regex_Show.f k l0 = some (r1, r2)) :
    Calls Tryd.prog 6 #[.slice A0 l0.length c0] w fun e w' => e = .returned (.tuple #[.string r1, .int .i64 r2]) ∧ Below w.heap.size w w' := by
  unfold regex_Show.f at h
  obtain ⟨t, ht, h⟩ := Option.bind_eq_some_iff.mp h
  have HX := Aside0.mk ht
  have HT := Aside0.mk hT
  have HC := Aside0.mk hr0
  have HC0 := Aside0.mk hc0
  have HL := Aside0.mk h
  have hlen : l0.length ≤ 9223372036854775807 := by have := hr0.2.1; omega
  clear ht hr0 hc0 h hT
  cases t with
  | false =>
    have h := HL.out
    rw [if_neg (by decide)] at h
    simp only [Option.some.injEq, Prod.mk.injEq] at h
    obtain ⟨rfl, rfl⟩ := h
    go_enter Tryd.func6, Tryd.ntmps6
    go_wp2_with fail
    (go_at_call 13; (with_reducible refine (regex_Right.calls k _ _ l0 false _ HC.out HC0.out HX.out).mono ?_); rintro e' w' ⟨rfl, hb⟩; have HB := Aside0.mk hb; clear hb)
    go_wp2_with fail
    refine bodyPost_ret (v := .tuple #[.string ⟨#[]⟩, .int .i64 1]) (by simp [results, Tryd.results6, go_sem]) rfl ⟨rfl, HB.out⟩
  | true =>
    have h := HL.out
    rw [if_pos rfl] at h
    have HL2 := Aside0.mk h
    clear h HL
    go_enter Tryd.func6, Tryd.ntmps6
    go_wp2_with fail
    (go_at_call 13; (with_reducible refine (regex_Right.calls k _ _ l0 true _ HC.out HC0.out HX.out).mono ?_); rintro e' w' ⟨rfl, hb⟩; have HB := Aside0.mk hb; clear hb)
    go_wp2_with fail
    go_loopg [4, 13] k (fun kq v4 v13 w' => ∃ (u4 : Value) (st : List S43) (i : Int), v4 = u4 ∧ v13 = .int .i64 i ∧ Aside0 (regex_Show.l0 kq l0 st i = some (r1, r2)) ∧ Aside0 (Kd.R k43 43 w' w.heap.size (fun _ => True) u4 st) ∧ Aside0 (Below w.heap.size w w'))
    case atStart => exact ⟨_, [], 0, rfl, rfl, HL2, ⟨Kd.R_nil _ _ _ _ _⟩, HB⟩
    case round =>
      obtain ⟨u4, st, i, rfl, rfl, HA, HR, HB⟩ := hrel
      cases gk with
      | zero => exact absurd HA.out (by simp [regex_Show.l0])
      | succ kk =>
        have h0 := HA.out
        clear HA
        rw [regex_Show.l0] at h0
        obtain ⟨A, cc, rfl⟩ := Kd.R_slice HR.out
        by_cases d0 : i < (l0.length : Int)
        · rw [if_pos d0] at h0
          by_cases d1 : 0 ≤ i ∧ st.length < 1000000
          · rw [if_pos d1] at h0
            obtain ⟨st', hs, h0⟩ := Option.bind_eq_some_iff.mp h0
            have HN := Aside0.mk h0
            obtain ⟨d2, d3⟩ := d1
            obtain ⟨ad, ead, x0, x1, x2, x3, x4⟩ := at_T40 (Kd.C_below HC.out HB.out) i d2 d0
            cases ead
            have e0 : decide (i < (l0.length : Int)) = true := decide_eq_true d0
            have p := eq_true d2
            have q := eq_true d0
            have st3 : (st.length : Int) < 1000000 := by omega
            unfold regex_Show.stp at hs
            clear h0
            by_cases o1 : (rd_T40 l0 i).f0 = 1
            · rw [if_pos o1] at hs
              obtain ⟨s, hset, hs⟩ := Option.bind_eq_some_iff.mp hs
              obtain rfl := Option.some.inj hs
              have HS := Aside0.mk hset
              have g1 : ((rd_T40 l0 i).f0 == 1) = true := beq_iff_eq.mpr o1
              clear hs hset
              go_wp2_with (first | (go_at_call 14; (with_reducible refine (regex_set.calls kk _ _ _ _ s _ ?hTab HS.out).mono ?_); (case hTab => exact (HT.out.of (by repeat (first | (with_reducible first | exact HB.out | apply below_alloc | apply pw_below_drewN | apply below_drew1) | exact HB.out)))); rintro e' w1 ⟨rfl, hb⟩; have n0_ := Aside0.mk (below_step (by repeat (first | (with_reducible first | exact HB.out | apply below_alloc | apply pw_below_drewN | apply below_drew1) | exact HB.out)) hb); have n2_ := Aside0.mk (Kd.R_below (by (with_reducible repeat (first | apply Kd.R_alloc | apply Kd.R_drewN | apply Kd.R_drew)); exact HR.out) hb); clear HB HR hb; have HB := n0_; have HR := n2_; clear n0_ n2_) | ((with_reducible refine gate_builtin (b := .append) (xs := #[.tmp 40, .tmp 45]) rfl ?_); at_builtin; refine Kd.R_append k43 (w0 := w) w.heap.size rfl (.tmp 40) (.tmp 45) 35 43 (.agg #[.string ⟨#[]⟩, .int .i64 0]) 24 rfl Tryd.underlying35 info43 rfl (by decide) (by decide) (.slice A st.length cc) st (⟨s, 3⟩ : S43) [.string s, .int .i64 3] (fun _ => True) (fun _ => False) rfl (by first | (go_simp; done) | (go_simp; rfl)) ?aP (fun _ hk => hk.elim) ?aF ?aO ?aB ?aS ?aL ?_; (case aP => exact ⟨[_], [_], rfl, rfl, rfl⟩); (case aF => exact (fun _ _ => trivial)); (case aO => exact (by (with_reducible repeat (first | apply Kd.R_alloc | apply Kd.R_drewN | apply Kd.R_drew)); exact HR.out)); (case aB => exact (by repeat (first | (with_reducible first | exact HB.out | apply below_alloc | apply pw_below_drewN | apply below_drew1) | exact HB.out))); (case aS => exact (below_size (by repeat (first | (with_reducible first | exact HB.out | apply below_alloc | apply pw_below_drewN | apply below_drew1) | exact HB.out)))); (case aL => omega); intro v1 w1 ho hb hg hat; have n0_ := Aside0.mk ho; have n1_ := Aside0.mk hb; clear HR HB ho hb hg hat; have HR := n0_; have HB := n1_; clear n0_ n1_))
              go_roundg kk
              case measure => omega
              case rel => exact ⟨_, (st ++ [(⟨s, 3⟩ : S43)]), i + 1, rfl, (by first | rfl | (simp; done)), HN, ⟨(by (with_reducible repeat (first | apply Kd.R_alloc | apply Kd.R_drewN | apply Kd.R_drew)); exact HR.out)⟩, ⟨(by repeat (first | (with_reducible first | exact HB.out | apply below_alloc | apply pw_below_drewN | apply below_drew1) | exact HB.out))⟩⟩
            · rw [if_neg o1] at hs
              have g1 : ((rd_T40 l0 i).f0 == 1) = false := beq_eq_false_iff_ne.mpr o1
              by_cases o2 : (rd_T40 l0 i).f0 = 2
              · rw [if_pos o2] at hs
                obtain rfl := Option.some.inj hs
                have g2 : ((rd_T40 l0 i).f0 == 2) = true := beq_iff_eq.mpr o2
                clear hs
                go_wp2_with (first | ((with_reducible refine gate_builtin (b := .append) (xs := #[.tmp 49, .tmp 51]) rfl ?_); at_builtin; refine Kd.R_append k43 (w0 := w) w.heap.size rfl (.tmp 49) (.tmp 51) 35 43 (.agg #[.string ⟨#[]⟩, .int .i64 0]) 24 rfl Tryd.underlying35 info43 rfl (by decide) (by decide) (.slice A st.length cc) st (⟨⟨#[40, 41]⟩, 3⟩ : S43) [.string ⟨#[40, 41]⟩, .int .i64 3] (fun _ => True) (fun _ => False) rfl (by first | (go_simp; done) | (go_simp; rfl)) ?aP (fun _ hk => hk.elim) ?aF ?aO ?aB ?aS ?aL ?_; (case aP => exact ⟨[_], [_], rfl, rfl, rfl⟩); (case aF => exact (fun _ _ => trivial)); (case aO => exact (by (with_reducible repeat (first | apply Kd.R_alloc | apply Kd.R_drewN | apply Kd.R_drew)); exact HR.out)); (case aB => exact (by repeat (first | (with_reducible first | exact HB.out | apply below_alloc | apply pw_below_drewN | apply below_drew1) | exact HB.out))); (case aS => exact (below_size (by repeat (first | (with_reducible first | exact HB.out | apply below_alloc | apply pw_below_drewN | apply below_drew1) | exact HB.out)))); (case aL => omega); intro v1 w1 ho hb hg hat; have n0_ := Aside0.mk ho; have n1_ := Aside0.mk hb; clear HR HB ho hb hg hat; have HR := n0_; have HB := n1_; clear n0_ n1_))
                go_roundg kk
                case measure => omega
                case rel => exact ⟨_, (st ++ [(⟨⟨#[40, 41]⟩, 3⟩ : S43)]), i + 1, rfl, (by first | rfl | (simp; done)), HN, ⟨(by (with_reducible repeat (first | apply Kd.R_alloc | apply Kd.R_drewN | apply Kd.R_drew)); exact HR.out)⟩, ⟨(by repeat (first | (with_reducible first | exact HB.out | apply below_alloc | apply pw_below_drewN | apply below_drew1) | exact HB.out))⟩⟩
              · rw [if_neg o2] at hs
                have g2 : ((rd_T40 l0 i).f0 == 2) = false := beq_eq_false_iff_ne.mpr o2
                by_cases o3 : (rd_T40 l0 i).f0 = 3
                · rw [if_pos o3] at hs
                  by_cases m2 : 2 ≤ st.length
                  · rw [if_pos m2] at hs
                    obtain ⟨_, hcc, _⟩ := Kd.R_reads' HR.out
                    obtain ⟨g, rfl, hg, ⟨cells, hblk⟩, hcell⟩ := regex_Show.form HR.out (by omega)
                    obtain ⟨a, ha⟩ : ∃ a, st[st.length - 2]? = some a := ⟨_, List.getElem?_eq_getElem (by omega)⟩
                    obtain ⟨b, hb⟩ : ∃ b, st[st.length - 1]? = some b := ⟨_, List.getElem?_eq_getElem (by omega)⟩
                    have hlt := blk_lt hblk
                    have CA0 : ∀ c t, (wr.alloc (.cells c t)).drew.cell? ⟨g, (st.length - 2) * 2, none⟩ = some (.string a.f0) := fun c t => (World.cell?_alloc_lt _ _ _ hlt).trans (hcell _ _ ha).1
                    have CA1 : ∀ c t, (wr.alloc (.cells c t)).drew.cell? ⟨g, (st.length - 2) * 2 + 1, none⟩ = some (.int .i64 a.f1) := fun c t => (World.cell?_alloc_lt _ _ _ hlt).trans (hcell _ _ ha).2
                    have CB0 : ∀ c t, (wr.alloc (.cells c t)).drew.cell? ⟨g, (st.length - 1) * 2, none⟩ = some (.string b.f0) := fun c t => (World.cell?_alloc_lt _ _ _ hlt).trans (hcell _ _ hb).1
                    have CB1 : ∀ c t, (wr.alloc (.cells c t)).drew.cell? ⟨g, (st.length - 1) * 2 + 1, none⟩ = some (.int .i64 b.f1) := fun c t => (World.cell?_alloc_lt _ _ _ hlt).trans (hcell _ _ hb).2
                    have HRT := Aside0.mk (Kd.R_take (m := st.length - 2) HR.out (by omega))
                    have HTL := Aside0.mk (show (st.take (st.length - 2)).length ≤ 1000000 by rw [List.length_take]; omega)
                    rw [show st.getD (st.length - 2) z43 = a by rw [List.getD_eq_getElem?_getD, ha]; rfl, show st.getD (st.length - 1) z43 = b by rw [List.getD_eq_getElem?_getD, hb]; rfl] at hs
                    obtain ⟨x, hx, hs⟩ := Option.bind_eq_some_iff.mp hs
                    have HXX := Aside0.mk hx
                    obtain ⟨y, hy, hs⟩ := Option.bind_eq_some_iff.mp hs
                    have HYY := Aside0.mk hy
                    obtain ⟨s, hcat, hs⟩ := Option.bind_eq_some_iff.mp hs
                    obtain ⟨rfl, q2, q3⟩ := catB_some hcat
                    obtain rfl := Option.some.inj hs
                    have y1 : (9223372036854775807 < x.size + y.size) = False := eq_false (by omega)
                    clear hs hblk hcell hg hlt ha hb hx hy hcat
                    have g3 : ((rd_T40 l0 i).f0 == 3) = true := beq_iff_eq.mpr o3
                    have HN2 := HN.out
                    clear HN
                    generalize hN : st.length = N at *
                    clear hN
                    have HN := Aside0.mk HN2
                    clear HN2
                    have hw2 : IntKind.i64.wrap ((N : Int) - 2) = (N : Int) - 2 := IntWalk.i64_in _ (by (try clear hw2); omega)
                    have hw1 : IntKind.i64.wrap ((N : Int) - 1) = (N : Int) - 1 := IntWalk.i64_in _ (by (try clear hw2); omega)
                    have z1 : ((0 : Int) ≤ (N : Int) - 2) = True := eq_true (by clear hw1 hw2; omega)
                    have z8 : ((2 : Int) ≤ (N : Int)) = True := eq_true (by clear hw1 hw2; omega)
                    have z9 : ((1 : Int) ≤ (N : Int)) = True := eq_true (by clear hw1 hw2; omega)
                    have z2 : ((N : Int) - 2 ≤ (cc : Int)) = True := eq_true (by clear hw1 hw2; omega)
                    have z3 : ((N : Int) - 2 < (N : Int)) = True := eq_true (by clear hw1 hw2; omega)
                    have z4 : ((0 : Int) ≤ (N : Int) - 1) = True := eq_true (by clear hw1 hw2; omega)
                    have z5 : ((N : Int) - 1 < (N : Int)) = True := eq_true (by clear hw1 hw2; omega)
                    have z6 : ((N : Int) - 2).toNat = N - 2 := by clear hw1 hw2; omega
                    have z7 : ((N : Int) - 1).toNat = N - 1 := by clear hw1 hw2; omega
                    repeat (first | go_values | go_skip | go_guarded | go_step | go_upon | go_back)
                    first | (go_region_law (first
                      | ((try rw [show_drew_alloc]); (refine Kd.R_append_step k43 (w0 := w) w.heap.size (by first | rfl | (go_simp; done) | (simp; done)) (.tmp 58) (.tmp 73) 35 43 (.agg #[.string ⟨#[]⟩, .int .i64 0]) 24 (by rfl) Tryd.underlying35 info43 rfl (by decide) (by decide) (.slice (some ⟨g, 0, none⟩) (N - 2) cc) (st.take (N - 2)) (⟨x ++ y, 2⟩ : S43) [.string (x ++ y), .int .i64 2] (fun _ => True) (fun _ => False) (by first | rfl | (go_simp; done)) (by first | rfl | (go_simp; done)) ?aP (fun _ hk => hk.elim) ?aF ?aO ?aB ?aS ?aL ?_); (case aP => exact ⟨[_], [_], rfl, rfl, rfl⟩); (case aF => exact (fun _ _ => trivial)); (case aO => exact (by (with_reducible repeat (first | apply Kd.R_alloc | apply Kd.R_drewN | apply Kd.R_drew)); exact HRT.out)); (case aB => exact (by repeat (first | (with_reducible first | exact HB.out | apply below_alloc | apply pw_below_drewN | apply below_drew1) | exact HB.out))); (case aS => exact (below_size (by repeat (first | (with_reducible first | exact HB.out | apply below_alloc | apply pw_below_drewN | apply below_drew1) | exact HB.out)))); (case aL => (have hz := HTL.out; clear hw1 hw2; omega)); intro v1 w1 ho hb hg hat; have n0_ := Aside0.mk ho; have n1_ := Aside0.mk hb; clear HR HB ho hb hg hat; have HR := n0_; have HB := n1_; clear n0_ n1_)
                      | (go_simp; go_wp2_with (first
                        | (go_at_call_of 15 (Value.int IntKind.i64 2); (with_reducible refine (regex_shown_in.calls _ _ _ x _ HXX.out).mono ?_); rintro e' w1 ⟨rfl, hb⟩; have cb0 := pw_cell_below hb (CB0 _ _); have cb1 := pw_cell_below hb (CB1 _ _); have n0_ := Aside0.mk (below_step (by repeat (first | (with_reducible first | exact HB.out | apply below_alloc | apply pw_below_drewN | apply below_drew1) | exact HB.out)) hb); have n2_ := Aside0.mk (Kd.R_below (by (with_reducible repeat (first | apply Kd.R_alloc | apply Kd.R_drewN | apply Kd.R_drew)); exact HRT.out) hb); clear HB HRT; have HB := n0_; have HRT := n2_; clear n0_ n2_)
                        | (go_at_call_of 15 (Value.int IntKind.i64 3); (with_reducible refine (regex_shown_in.calls _ _ _ y _ HYY.out).mono ?_); rintro e' w1 ⟨rfl, hb⟩; have n0_ := Aside0.mk (below_step (by repeat (first | (with_reducible first | exact HB.out | apply below_alloc | apply pw_below_drewN | apply below_drew1) | exact HB.out)) hb); have n2_ := Aside0.mk (Kd.R_below (by (with_reducible repeat (first | apply Kd.R_alloc | apply Kd.R_drewN | apply Kd.R_drew)); exact HRT.out) hb); clear HB HRT; have HB := n0_; have HRT := n2_; clear n0_ n2_))))) | fail "no law"
                    all_goals (go_wp2_with fail)
                    all_goals go_roundg kk
                    all_goals (first | omega | exact ⟨_, st.take (N - 2) ++ [(⟨x ++ y, 2⟩ : S43)], i + 1, rfl, (by first | rfl | (simp; done)), HN, ⟨(by (with_reducible repeat (first | apply Kd.R_alloc | apply Kd.R_drewN | apply Kd.R_drew)); exact HR.out)⟩, ⟨(by repeat (first | (with_reducible first | exact HB.out | apply below_alloc | apply pw_below_drewN | apply below_drew1) | exact HB.out))⟩⟩)
                  · rw [if_neg m2] at hs; cases hs
                · rw [if_neg o3] at hs
                  have g3 : ((rd_T40 l0 i).f0 == 3) = false := beq_eq_false_iff_ne.mpr o3
                  by_cases o4 : (rd_T40 l0 i).f0 = 4
                  · rw [if_pos o4] at hs
                    by_cases m2 : 2 ≤ st.length
                    · rw [if_pos m2] at hs
                      obtain ⟨_, hcc, _⟩ := Kd.R_reads' HR.out
                      obtain ⟨g, rfl, hg, ⟨cells, hblk⟩, hcell⟩ := regex_Show.form HR.out (by omega)
                      obtain ⟨a, ha⟩ : ∃ a, st[st.length - 2]? = some a := ⟨_, List.getElem?_eq_getElem (by omega)⟩
                      obtain ⟨b, hb⟩ : ∃ b, st[st.length - 1]? = some b := ⟨_, List.getElem?_eq_getElem (by omega)⟩
                      have hlt := blk_lt hblk
                      have CA0 : ∀ c t, (wr.alloc (.cells c t)).drew.cell? ⟨g, (st.length - 2) * 2, none⟩ = some (.string a.f0) := fun c t => (World.cell?_alloc_lt _ _ _ hlt).trans (hcell _ _ ha).1
                      have CA1 : ∀ c t, (wr.alloc (.cells c t)).drew.cell? ⟨g, (st.length - 2) * 2 + 1, none⟩ = some (.int .i64 a.f1) := fun c t => (World.cell?_alloc_lt _ _ _ hlt).trans (hcell _ _ ha).2
                      have CB0 : ∀ c t, (wr.alloc (.cells c t)).drew.cell? ⟨g, (st.length - 1) * 2, none⟩ = some (.string b.f0) := fun c t => (World.cell?_alloc_lt _ _ _ hlt).trans (hcell _ _ hb).1
                      have CB1 : ∀ c t, (wr.alloc (.cells c t)).drew.cell? ⟨g, (st.length - 1) * 2 + 1, none⟩ = some (.int .i64 b.f1) := fun c t => (World.cell?_alloc_lt _ _ _ hlt).trans (hcell _ _ hb).2
                      have HRT := Aside0.mk (Kd.R_take (m := st.length - 2) HR.out (by omega))
                      have HTL := Aside0.mk (show (st.take (st.length - 2)).length ≤ 1000000 by rw [List.length_take]; omega)
                      rw [show st.getD (st.length - 2) z43 = a by rw [List.getD_eq_getElem?_getD, ha]; rfl, show st.getD (st.length - 1) z43 = b by rw [List.getD_eq_getElem?_getD, hb]; rfl] at hs
                      obtain ⟨x, hx, hs⟩ := Option.bind_eq_some_iff.mp hs
                      have HXX := Aside0.mk hx
                      obtain ⟨xb, hxb, hs⟩ := Option.bind_eq_some_iff.mp hs
                      obtain ⟨rfl, q1, _⟩ := catB_some hxb
                      obtain ⟨y, hy, hs⟩ := Option.bind_eq_some_iff.mp hs
                      have HYY := Aside0.mk hy
                      obtain ⟨s, hcat, hs⟩ := Option.bind_eq_some_iff.mp hs
                      obtain ⟨rfl, q2, q3⟩ := catB_some hcat
                      obtain rfl := Option.some.inj hs
                      have zb : (⟨#[124]⟩ : ByteArray).size = 1 := rfl
                      have y0 : (9223372036854775807 < x.size + 1) = False := eq_false (by omega)
                      have y1 : (9223372036854775807 < (x ++ (⟨#[124]⟩ : ByteArray)).size + y.size) = False := eq_false (by omega)
                      have y2 : (9223372036854775807 < x.size + 1 + y.size) = False := eq_false (by rw [ByteArray.size_append, zb] at q2; omega)
                      clear hxb
                      clear hs hblk hcell hg hlt ha hb hx hy hcat
                      have g4 : ((rd_T40 l0 i).f0 == 4) = true := beq_iff_eq.mpr o4
                      have HN2 := HN.out
                      clear HN
                      generalize hN : st.length = N at *
                      clear hN
                      have HN := Aside0.mk HN2
                      clear HN2
                      have hw2 : IntKind.i64.wrap ((N : Int) - 2) = (N : Int) - 2 := IntWalk.i64_in _ (by (try clear hw2); omega)
                      have hw1 : IntKind.i64.wrap ((N : Int) - 1) = (N : Int) - 1 := IntWalk.i64_in _ (by (try clear hw2); omega)
                      have z1 : ((0 : Int) ≤ (N : Int) - 2) = True := eq_true (by clear hw1 hw2; omega)
                      have z8 : ((2 : Int) ≤ (N : Int)) = True := eq_true (by clear hw1 hw2; omega)
                      have z9 : ((1 : Int) ≤ (N : Int)) = True := eq_true (by clear hw1 hw2; omega)
                      have z2 : ((N : Int) - 2 ≤ (cc : Int)) = True := eq_true (by clear hw1 hw2; omega)
                      have z3 : ((N : Int) - 2 < (N : Int)) = True := eq_true (by clear hw1 hw2; omega)
                      have z4 : ((0 : Int) ≤ (N : Int) - 1) = True := eq_true (by clear hw1 hw2; omega)
                      have z5 : ((N : Int) - 1 < (N : Int)) = True := eq_true (by clear hw1 hw2; omega)
                      have z6 : ((N : Int) - 2).toNat = N - 2 := by clear hw1 hw2; omega
                      have z7 : ((N : Int) - 1).toNat = N - 1 := by clear hw1 hw2; omega
                      repeat (first | go_values | go_skip | go_guarded | go_step | go_upon | go_back)
                      first | (go_region_law (first
                        | ((try rw [show_drew_alloc]); (refine Kd.R_append_step k43 (w0 := w) w.heap.size (by first | rfl | (go_simp; done) | (simp; done)) (.tmp 80) (.tmp 96) 35 43 (.agg #[.string ⟨#[]⟩, .int .i64 0]) 24 (by rfl) Tryd.underlying35 info43 rfl (by decide) (by decide) (.slice (some ⟨g, 0, none⟩) (N - 2) cc) (st.take (N - 2)) (⟨x ++ (⟨#[124]⟩ : ByteArray) ++ y, 1⟩ : S43) [.string (x ++ (⟨#[124]⟩ : ByteArray) ++ y), .int .i64 1] (fun _ => True) (fun _ => False) (by first | rfl | (go_simp; done)) (by first | rfl | (go_simp; done)) ?aP (fun _ hk => hk.elim) ?aF ?aO ?aB ?aS ?aL ?_); (case aP => exact ⟨[_], [_], rfl, rfl, rfl⟩); (case aF => exact (fun _ _ => trivial)); (case aO => exact (by (with_reducible repeat (first | apply Kd.R_alloc | apply Kd.R_drewN | apply Kd.R_drew)); exact HRT.out)); (case aB => exact (by repeat (first | (with_reducible first | exact HB.out | apply below_alloc | apply pw_below_drewN | apply below_drew1) | exact HB.out))); (case aS => exact (below_size (by repeat (first | (with_reducible first | exact HB.out | apply below_alloc | apply pw_below_drewN | apply below_drew1) | exact HB.out)))); (case aL => (have hz := HTL.out; clear hw1 hw2; omega)); intro v1 w1 ho hb hg hat; have n0_ := Aside0.mk ho; have n1_ := Aside0.mk hb; clear HR HB ho hb hg hat; have HR := n0_; have HB := n1_; clear n0_ n1_)
                        | (go_simp; go_wp2_with (first
                          | (go_at_call_of 15 (Value.int IntKind.i64 1); (with_reducible refine (regex_shown_in.calls _ _ _ x _ HXX.out).mono ?_); rintro e' w1 ⟨rfl, hb⟩; have cb0 := pw_cell_below hb (CB0 _ _); have cb1 := pw_cell_below hb (CB1 _ _); have n0_ := Aside0.mk (below_step (by repeat (first | (with_reducible first | exact HB.out | apply below_alloc | apply pw_below_drewN | apply below_drew1) | exact HB.out)) hb); have n2_ := Aside0.mk (Kd.R_below (by (with_reducible repeat (first | apply Kd.R_alloc | apply Kd.R_drewN | apply Kd.R_drew)); exact HRT.out) hb); clear HB HRT; have HB := n0_; have HRT := n2_; clear n0_ n2_)
                          | (go_at_call_of 15 (Value.int IntKind.i64 2); (with_reducible refine (regex_shown_in.calls _ _ _ y _ HYY.out).mono ?_); rintro e' w1 ⟨rfl, hb⟩; have n0_ := Aside0.mk (below_step (by repeat (first | (with_reducible first | exact HB.out | apply below_alloc | apply pw_below_drewN | apply below_drew1) | exact HB.out)) hb); have n2_ := Aside0.mk (Kd.R_below (by (with_reducible repeat (first | apply Kd.R_alloc | apply Kd.R_drewN | apply Kd.R_drew)); exact HRT.out) hb); clear HB HRT; have HB := n0_; have HRT := n2_; clear n0_ n2_))))) | fail "no law"
                      all_goals (go_wp2_with fail)
                      all_goals go_roundg kk
                      all_goals (first | omega | exact ⟨_, st.take (N - 2) ++ [(⟨x ++ (⟨#[124]⟩ : ByteArray) ++ y, 1⟩ : S43)], i + 1, rfl, (by first | rfl | (simp; done)), HN, ⟨(by (with_reducible repeat (first | apply Kd.R_alloc | apply Kd.R_drewN | apply Kd.R_drew)); exact HR.out)⟩, ⟨(by repeat (first | (with_reducible first | exact HB.out | apply below_alloc | apply pw_below_drewN | apply below_drew1) | exact HB.out))⟩⟩)
                    · rw [if_neg m2] at hs; cases hs
                  · rw [if_neg o4] at hs
                    have g4 : ((rd_T40 l0 i).f0 == 4) = false := beq_eq_false_iff_ne.mpr o4
                    by_cases o57 : 5 ≤ (rd_T40 l0 i).f0 ∧ (rd_T40 l0 i).f0 ≤ 7
                    · rw [if_pos o57] at hs
                      by_cases m1 : 1 ≤ st.length
                      · rw [if_pos m1] at hs
                        obtain ⟨g, rfl, hg, ⟨cells, hblk⟩, hcell⟩ := regex_Show.form HR.out (by omega)
                        obtain ⟨b, hb⟩ : ∃ b, st[st.length - 1]? = some b := ⟨_, List.getElem?_eq_getElem (by omega)⟩
                        have hlt := blk_lt hblk
                        rw [show st.getD (st.length - 1) z43 = b by rw [List.getD_eq_getElem?_getD, hb]; rfl] at hs
                        obtain ⟨x, hx, hs⟩ := Option.bind_eq_some_iff.mp hs
                        have HXX := Aside0.mk hx
                        obtain ⟨s, hcat, hs⟩ := Option.bind_eq_some_iff.mp hs
                        obtain ⟨rfl, q2, q3⟩ := catB_some hcat
                        obtain rfl := Option.some.inj hs
                        have CB0 : ∀ c t, (wr.alloc (.cells c t)).drew.cell? ⟨g, (st.length - 1) * 2, none⟩ = some (.string b.f0) := fun c t => (World.cell?_alloc_lt _ _ _ hlt).trans (hcell _ _ hb).1; have CB1 : ∀ c t, (wr.alloc (.cells c t)).drew.cell? ⟨g, (st.length - 1) * 2 + 1, none⟩ = some (.int .i64 b.f1) := fun c t => (World.cell?_alloc_lt _ _ _ hlt).trans (hcell _ _ hb).2; have GG := Aside0.mk hg; clear hs hblk hcell hg hlt hb hx hcat; have HN2 := HN.out; clear HN; generalize hN : st.length = N at *; clear hN; have HN := Aside0.mk HN2; clear HN2; have hw1 : IntKind.i64.wrap ((N : Int) - 1) = (N : Int) - 1 := IntWalk.i64_in _ (by omega); have z9 : ((1 : Int) ≤ (N : Int)) = True := eq_true (by clear hw1; omega); have z4 : ((0 : Int) ≤ (N : Int) - 1) = True := eq_true (by clear hw1; omega); have z5 : ((N : Int) - 1 < (N : Int)) = True := eq_true (by clear hw1; omega)
                        have z7 : ((N : Int) - 1).toNat = N - 1 := by clear hw1; omega
                        have ho : (rd_T40 l0 i).f0 = 5 ∨ (rd_T40 l0 i).f0 = 6 ∨ (rd_T40 l0 i).f0 = 7 := by clear hw1; omega
                        have zs : (regex_Show.sym (rd_T40 l0 i).f0).size = 1 := by unfold regex_Show.sym; rcases ho with h | h | h <;> rw [h] <;> rfl
                        generalize hsy : regex_Show.sym (rd_T40 l0 i).f0 = SY at HN q3 zs; have y1 : (9223372036854775807 < x.size + 1) = False := eq_false (by omega)
                        go_upto_block 1 with fail
                        go_cut [4, 6, 7] from 15 to 97 (fun v4 v6 v7 wc => v4 = .slice (some ⟨g, 0, none⟩) N cc ∧ Aside0 (Kd.R k43 43 wc w.heap.size (fun _ => True) (.slice (some ⟨g, 0, none⟩) N cc) (st.set (N - 1) (⟨x ++ SY, 3⟩ : S43))) ∧ Aside0 (Below w.heap.size w wc))
                        case first =>
                          go_upto_region 9 with fail
                          have hmm := @run_makeMap Tryd.prog; have HS9 : Aside0 (St9 w g N cc wr.heap.size st b ((rd_T40 l0 i).f0) (wr.alloc (.cells #[.int .i64 (rd_T40 l0 i).f0, .int .u64 (rd_T40 l0 i).f1.f0, .int .u64 (rd_T40 l0 i).f1.f1, .int .u64 (rd_T40 l0 i).f1.f2, .int .u64 (rd_T40 l0 i).f1.f3] 40)).drew) := ⟨⟨(by repeat (first | (with_reducible first | exact HB.out | apply below_alloc | apply pw_below_drewN | apply below_drew1) | exact HB.out)), (by (with_reducible repeat (first | apply Kd.R_alloc | apply Kd.R_drewN | apply Kd.R_drew)); exact HR.out), CB0 _ _, CB1 _ _, by go_simp⟩⟩; refine wp_region_noPanic ?_; refine wp_region_any (by kernel_rfl) (anyS_any 20 _ _ _ _ (S := (fun w' => w'.cell? ⟨g, (N - 1) * 2, none⟩ = some (.string b.f0) ∧ w'.cell? ⟨g, (N - 1) * 2 + 1, none⟩ = some (.int .i64 b.f1) ∧ w'.cell? ⟨wr.heap.size, 0, none⟩ = some (.int .i64 (rd_T40 l0 i).f0))) ?_)
                          change AnyS 20 _ _ _ _ _ _ _ _ (wr.alloc (.cells #[.int .i64 (rd_T40 l0 i).f0, .int .u64 (rd_T40 l0 i).f1.f0, .int .u64 (rd_T40 l0 i).f1.f1, .int .u64 (rd_T40 l0 i).f1.f2, .int .u64 (rd_T40 l0 i).f1.f3] 40)).drew
                          generalize hX0 : (wr.alloc (.cells #[.int .i64 (rd_T40 l0 i).f0, .int .u64 (rd_T40 l0 i).f1.f0, .int .u64 (rd_T40 l0 i).f1.f1, .int .u64 (rd_T40 l0 i).f1.f2, .int .u64 (rd_T40 l0 i).f1.f3] 40)).drew = X0_ at HS9 ⊢; clear hX0 HR HB CB0 CB1; refine anyS_take (i := 0) (oi := O9_0) (v := ?vvq1_) rfl (by kernel_rfl) (by kernel_rfl) (by kernel_rfl) (by kernel_rfl) (fun _ _ _ h => h) (Or.inl ⟨by rfl, ?yyq1_⟩) ?ssq1_ ?rrq1_
                          case yyq1_ => intro w9 _; go_simp; try (with_reducible rfl)
                          case ssq1_ => exact HS9.out.s
                          refine anyS_take (i := 1) (oi := O9_1) (v := ?vvq2_) rfl (by kernel_rfl) (by kernel_rfl) (by kernel_rfl) (by kernel_rfl) (fun _ _ _ h => h) (Or.inl ⟨by rfl, ?yyq2_⟩) ?ssq2_ ?rrq2_
                          case yyq2_ => intro w9 _; go_simp; try (with_reducible rfl)
                          case ssq2_ => exact HS9.out.s
                          refine anyS_take (i := 2) (oi := O9_2) (v := ?vvq3_) rfl (by kernel_rfl) (by kernel_rfl) (by kernel_rfl) (by kernel_rfl) (fun _ _ _ h => h) (Or.inl ⟨by rfl, ?yyq3_⟩) ?ssq3_ ?rrq3_
                          case yyq3_ => intro w9 _; go_simp; try (with_reducible rfl)
                          case ssq3_ => exact HS9.out.s
                          refine anyS_take (i := 3) (oi := O9_3) (v := ?vvq4_) rfl (by kernel_rfl) (by kernel_rfl) (by kernel_rfl) (by kernel_rfl) (fun _ _ _ h => h) (Or.inl ⟨by rfl, ?yyq4_⟩) ?ssq4_ ?rrq4_
                          case yyq4_ => intro w9 _; go_simp; try (with_reducible rfl)
                          case ssq4_ => exact HS9.out.s
                          refine anyS_take (i := 4) (oi := O9_4) (v := ?vvq5_) rfl (by kernel_rfl) (by kernel_rfl) (by kernel_rfl) (by kernel_rfl) (fun _ _ _ h => h) (Or.inl ⟨by rfl, ?yyq5_⟩) ?ssq5_ ?rrq5_
                          case yyq5_ => intro w9 _; go_simp; try (with_reducible rfl)
                          case ssq5_ => exact HS9.out.s
                          refine anyS_take (i := 5) (oi := O9_5) (v := ?vvq6_) rfl (by kernel_rfl) (by kernel_rfl) (by kernel_rfl) (by kernel_rfl) (fun _ _ _ h => h) (Or.inl ⟨by rfl, ?yyq6_⟩) ?ssq6_ ?rrq6_
                          case yyq6_ => intro w9 _; go_simp; try (with_reducible rfl)
                          case ssq6_ => exact HS9.out.s
                          refine anyS_take (i := 6) (oi := O9_6) (v := ?vvq7_) rfl (by kernel_rfl) (by kernel_rfl) (by kernel_rfl) (by kernel_rfl) (fun _ _ _ h => h) (Or.inl ⟨by rfl, ?yyq7_⟩) ?ssq7_ ?rrq7_
                          case yyq7_ => intro w9 _; go_simp; try (with_reducible rfl)
                          case ssq7_ => exact HS9.out.s
                          refine anyS_take (i := 14) (oi := O9_14) (v := ?vvq8_) rfl (by kernel_rfl) (by kernel_rfl) (by kernel_rfl) (by kernel_rfl) (fun _ _ _ h => h) (Or.inl ⟨by rfl, ?yyq8_⟩) ?ssq8_ ?rrq8_
                          case yyq8_ => intro w9 _; go_simp; try (with_reducible rfl)
                          case ssq8_ => exact HS9.out.s
                          refine anyS_take (i := 7) (oi := O9_7) (v := ?vvq9_) rfl (by kernel_rfl) (by kernel_rfl) (by kernel_rfl) (by kernel_rfl) (fun _ _ _ h => h) (Or.inl ⟨by rfl, ?yyq9_⟩) ?ssq9_ ?rrq9_
                          case yyq9_ => (intro w9 hs9; obtain ⟨b0_, b1_, b2_⟩ := hs9; go_simp; try (with_reducible rfl))
                          case ssq9_ => exact HS9.out.s
                          refine anyS_take (i := 15) (oi := O9_15) (v := ?vvq10_) rfl (by kernel_rfl) (by kernel_rfl) (by kernel_rfl) (by kernel_rfl) (fun _ _ _ h => h) (Or.inl ⟨by rfl, ?yyq10_⟩) ?ssq10_ ?rrq10_
                          case yyq10_ => (intro w9 hs9; obtain ⟨b0_, b1_, b2_⟩ := hs9; go_simp; try (with_reducible rfl))
                          case ssq10_ => exact HS9.out.s
                          refine anyS_cut 4 #[true, true, true, true, true, true, true, true, true, true, true, true, true, true, true, true, true, false, false, false, false] (fun a9 M9 => (((a9.put O9_8.dst (.string x)).put O9_9.dst (.map (some M9))).put O9_13.dst (.map (some M9))).put O9_16.dst (.string SY)) (fun _ X9 => Aside0 (St9 w g N cc wr.heap.size st b ((rd_T40 l0 i).f0) X9)) (fun tail9 => ?main9) ?tail9
                          case main9 =>
                           refine anyS_ready [8, 9] (by kernel_rfl) (by simp) (allS_cons (o := O9_8) rfl (fun K9 hK9 => ?pq11_) (allS_cons (o := O9_9) rfl (fun K9 hK9 => ?pq12_) allS_nil))
                           case pq11_ =>
                            go_simp
                            go_wp2_with (first | (go_at_call 15; (with_reducible refine (regex_shown_in.calls _ _ _ x _ HXX.out).mono ?_); rintro e' w1 ⟨rfl, hb⟩))
                            have HS9n := Aside0.mk (HS9.out.call hb); clear HS9; have HS9 := HS9n; clear HS9n hb; refine hK9 _ _ HS9.out.s ?_; clear hK9 K9; refine anyS_ready [9] (by kernel_rfl) (by simp) (allS_cons (o := O9_9) rfl (fun K9 hK9 => ?pq14_) allS_nil)
                            case pq14_ =>
                             go_simp; have HM : Aside0 ((w1.alloc (.map #[] 0)).heap[w1.heap.size]? = some (.map #[] 0)) := ⟨blk_new _ _⟩; have HW : Aside0 (w.heap.size ≤ w1.heap.size) := ⟨HS9.out.below.size⟩; have HS9n := Aside0.mk HS9.out.make; clear HS9; have HS9 := HS9n; clear HS9n; refine hK9 _ _ HS9.out.s ?_; clear hK9 K9; generalize hm9 : w1.heap.size = M9 at HM HW ⊢; generalize hX9 : w1.alloc (.map #[] 0) = X9 at HM HS9 ⊢; clear hm9 hX9; refine anyS_ready [10, 11, 12] (by kernel_rfl) (by simp) (allS_cons (o := O9_10) rfl (fun K9 hK9 => ?pq16_) (allS_cons (o := O9_11) rfl (fun K9 hK9 => ?pq17_) (allS_cons (o := O9_12) rfl (fun K9 hK9 => ?pq18_) allS_nil)))
                             case pq16_ =>
                              have hI9 := ins9 X9 M9 (#[] : Array MapEntry) 0 5 (.string ⟨#[42]⟩) HM.out rfl; go_simp; have HMn := Aside0.mk (mapIn_at (o' := Obj.map (#[{ key := .int .i64 5, val := .string ⟨#[42]⟩, born := 0 }] : Array MapEntry) 1) HM.out); have HS9n := Aside0.mk (HS9.out.ins (Obj.map (#[{ key := .int .i64 5, val := .string ⟨#[42]⟩, born := 0 }] : Array MapEntry) 1) HM.out HW.out); clear HS9 HM hI9; have HS9 := HS9n; have HM := HMn; clear HS9n HMn; refine hK9 _ _ HS9.out.s ?_; clear hK9 K9; generalize hY9 : mapIn X9 M9 _ = Y1 at HM HS9 ⊢; clear hY9; refine anyS_ready [11, 12] (by kernel_rfl) (by simp) (allS_cons (o := O9_11) rfl (fun K9 hK9 => ?pq20_) (allS_cons (o := O9_12) rfl (fun K9 hK9 => ?pq21_) allS_nil))
                              case pq20_ =>
                               have hI9 := ins9 Y1 M9 (#[{ key := .int .i64 5, val := .string ⟨#[42]⟩, born := 0 }] : Array MapEntry) 1 6 (.string ⟨#[43]⟩) HM.out rfl; go_simp; have HMn := Aside0.mk (mapIn_at (o' := Obj.map (#[{ key := .int .i64 5, val := .string ⟨#[42]⟩, born := 0 }, { key := .int .i64 6, val := .string ⟨#[43]⟩, born := 1 }] : Array MapEntry) 2) HM.out); have HS9n := Aside0.mk (HS9.out.ins (Obj.map (#[{ key := .int .i64 5, val := .string ⟨#[42]⟩, born := 0 }, { key := .int .i64 6, val := .string ⟨#[43]⟩, born := 1 }] : Array MapEntry) 2) HM.out HW.out); clear HS9 HM hI9; have HS9 := HS9n; have HM := HMn; clear HS9n HMn; refine hK9 _ _ HS9.out.s ?_; clear hK9 K9; generalize hY9 : mapIn Y1 M9 _ = Y2 at HM HS9 ⊢; clear hY9; refine anyS_ready [12] (by kernel_rfl) (by simp) (allS_cons (o := O9_12) rfl (fun K9 hK9 => ?pq23_) allS_nil)
                               case pq23_ =>
                                have hI9 := ins9 Y2 M9 (#[{ key := .int .i64 5, val := .string ⟨#[42]⟩, born := 0 }, { key := .int .i64 6, val := .string ⟨#[43]⟩, born := 1 }] : Array MapEntry) 2 7 (.string ⟨#[63]⟩) HM.out rfl; go_simp; have HMn := Aside0.mk (mapIn_at (o' := Obj.map (#[{ key := .int .i64 5, val := .string ⟨#[42]⟩, born := 0 }, { key := .int .i64 6, val := .string ⟨#[43]⟩, born := 1 }, { key := .int .i64 7, val := .string ⟨#[63]⟩, born := 2 }] : Array MapEntry) 3) HM.out); have HS9n := Aside0.mk (HS9.out.ins (Obj.map (#[{ key := .int .i64 5, val := .string ⟨#[42]⟩, born := 0 }, { key := .int .i64 6, val := .string ⟨#[43]⟩, born := 1 }, { key := .int .i64 7, val := .string ⟨#[63]⟩, born := 2 }] : Array MapEntry) 3) HM.out HW.out); clear HS9 HM hI9; have HS9 := HS9n; have HM := HMn; clear HS9n HMn; refine hK9 _ _ HS9.out.s ?_; clear hK9 K9; generalize hY9 : mapIn Y2 M9 _ = Y3 at HM HS9 ⊢
                                clear hY9; refine anyS_take (i := 13) (oi := O9_13) (v := ?vvq25_) rfl (by kernel_rfl) (by kernel_rfl) (by kernel_rfl) (by kernel_rfl) (fun _ _ _ h => h) (Or.inl ⟨by rfl, ?yyq25_⟩) ?ssq25_ ?rrq25_
                                case yyq25_ => intro w9 _; go_simp; try (with_reducible rfl)
                                case ssq25_ => exact HS9.out.s
                                refine anyS_ready [16] (by kernel_rfl) (by simp) (allS_cons (o := O9_16) rfl (fun K9 hK9 => ?pq26_) allS_nil)
                                case pq26_ =>
                                 have hI9 := look9s Y3 M9 (#[{ key := .int .i64 5, val := .string ⟨#[42]⟩, born := 0 }, { key := .int .i64 6, val := .string ⟨#[43]⟩, born := 1 }, { key := .int .i64 7, val := .string ⟨#[63]⟩, born := 2 }] : Array MapEntry) 3 (rd_T40 l0 i).f0 (.string SY) HM.out (by rw [← hsy]; unfold regex_Show.sym; rcases ho with h | h | h <;> rw [h] <;> exact ⟨_, rfl⟩); go_simp; refine hK9 _ _ HS9.out.s ?_; clear hK9 K9 hI9; exact anyS_at (by kernel_rfl) (by kernel_rfl) (tail9 M9 Y3 HS9)
                              case pq21_ =>
                               have hI9 := ins9 Y1 M9 (#[{ key := .int .i64 5, val := .string ⟨#[42]⟩, born := 0 }] : Array MapEntry) 1 7 (.string ⟨#[63]⟩) HM.out rfl; go_simp; have HMn := Aside0.mk (mapIn_at (o' := Obj.map (#[{ key := .int .i64 5, val := .string ⟨#[42]⟩, born := 0 }, { key := .int .i64 7, val := .string ⟨#[63]⟩, born := 1 }] : Array MapEntry) 2) HM.out); have HS9n := Aside0.mk (HS9.out.ins (Obj.map (#[{ key := .int .i64 5, val := .string ⟨#[42]⟩, born := 0 }, { key := .int .i64 7, val := .string ⟨#[63]⟩, born := 1 }] : Array MapEntry) 2) HM.out HW.out); clear HS9 HM hI9; have HS9 := HS9n; have HM := HMn; clear HS9n HMn; refine hK9 _ _ HS9.out.s ?_; clear hK9 K9; generalize hY9 : mapIn Y1 M9 _ = Y2 at HM HS9 ⊢; clear hY9; refine anyS_ready [11] (by kernel_rfl) (by simp) (allS_cons (o := O9_11) rfl (fun K9 hK9 => ?pq29_) allS_nil)
                               case pq29_ =>
                                have hI9 := ins9 Y2 M9 (#[{ key := .int .i64 5, val := .string ⟨#[42]⟩, born := 0 }, { key := .int .i64 7, val := .string ⟨#[63]⟩, born := 1 }] : Array MapEntry) 2 6 (.string ⟨#[43]⟩) HM.out rfl; go_simp; have HMn := Aside0.mk (mapIn_at (o' := Obj.map (#[{ key := .int .i64 5, val := .string ⟨#[42]⟩, born := 0 }, { key := .int .i64 7, val := .string ⟨#[63]⟩, born := 1 }, { key := .int .i64 6, val := .string ⟨#[43]⟩, born := 2 }] : Array MapEntry) 3) HM.out); have HS9n := Aside0.mk (HS9.out.ins (Obj.map (#[{ key := .int .i64 5, val := .string ⟨#[42]⟩, born := 0 }, { key := .int .i64 7, val := .string ⟨#[63]⟩, born := 1 }, { key := .int .i64 6, val := .string ⟨#[43]⟩, born := 2 }] : Array MapEntry) 3) HM.out HW.out); clear HS9 HM hI9; have HS9 := HS9n; have HM := HMn; clear HS9n HMn; refine hK9 _ _ HS9.out.s ?_; clear hK9 K9; generalize hY9 : mapIn Y2 M9 _ = Y3 at HM HS9 ⊢
                                clear hY9; refine anyS_take (i := 13) (oi := O9_13) (v := ?vvq31_) rfl (by kernel_rfl) (by kernel_rfl) (by kernel_rfl) (by kernel_rfl) (fun _ _ _ h => h) (Or.inl ⟨by rfl, ?yyq31_⟩) ?ssq31_ ?rrq31_
                                case yyq31_ => intro w9 _; go_simp; try (with_reducible rfl)
                                case ssq31_ => exact HS9.out.s
                                refine anyS_ready [16] (by kernel_rfl) (by simp) (allS_cons (o := O9_16) rfl (fun K9 hK9 => ?pq32_) allS_nil)
                                case pq32_ =>
                                 have hI9 := look9s Y3 M9 (#[{ key := .int .i64 5, val := .string ⟨#[42]⟩, born := 0 }, { key := .int .i64 7, val := .string ⟨#[63]⟩, born := 1 }, { key := .int .i64 6, val := .string ⟨#[43]⟩, born := 2 }] : Array MapEntry) 3 (rd_T40 l0 i).f0 (.string SY) HM.out (by rw [← hsy]; unfold regex_Show.sym; rcases ho with h | h | h <;> rw [h] <;> exact ⟨_, rfl⟩); go_simp; refine hK9 _ _ HS9.out.s ?_; clear hK9 K9 hI9; exact anyS_at (by kernel_rfl) (by kernel_rfl) (tail9 M9 Y3 HS9)
                             case pq17_ =>
                              have hI9 := ins9 X9 M9 (#[] : Array MapEntry) 0 6 (.string ⟨#[43]⟩) HM.out rfl; go_simp; have HMn := Aside0.mk (mapIn_at (o' := Obj.map (#[{ key := .int .i64 6, val := .string ⟨#[43]⟩, born := 0 }] : Array MapEntry) 1) HM.out); have HS9n := Aside0.mk (HS9.out.ins (Obj.map (#[{ key := .int .i64 6, val := .string ⟨#[43]⟩, born := 0 }] : Array MapEntry) 1) HM.out HW.out); clear HS9 HM hI9; have HS9 := HS9n; have HM := HMn; clear HS9n HMn; refine hK9 _ _ HS9.out.s ?_; clear hK9 K9; generalize hY9 : mapIn X9 M9 _ = Y1 at HM HS9 ⊢; clear hY9; refine anyS_ready [10, 12] (by kernel_rfl) (by simp) (allS_cons (o := O9_10) rfl (fun K9 hK9 => ?pq35_) (allS_cons (o := O9_12) rfl (fun K9 hK9 => ?pq36_) allS_nil))
                              case pq35_ =>
                               have hI9 := ins9 Y1 M9 (#[{ key := .int .i64 6, val := .string ⟨#[43]⟩, born := 0 }] : Array MapEntry) 1 5 (.string ⟨#[42]⟩) HM.out rfl; go_simp; have HMn := Aside0.mk (mapIn_at (o' := Obj.map (#[{ key := .int .i64 6, val := .string ⟨#[43]⟩, born := 0 }, { key := .int .i64 5, val := .string ⟨#[42]⟩, born := 1 }] : Array MapEntry) 2) HM.out); have HS9n := Aside0.mk (HS9.out.ins (Obj.map (#[{ key := .int .i64 6, val := .string ⟨#[43]⟩, born := 0 }, { key := .int .i64 5, val := .string ⟨#[42]⟩, born := 1 }] : Array MapEntry) 2) HM.out HW.out); clear HS9 HM hI9; have HS9 := HS9n; have HM := HMn; clear HS9n HMn; refine hK9 _ _ HS9.out.s ?_; clear hK9 K9; generalize hY9 : mapIn Y1 M9 _ = Y2 at HM HS9 ⊢; clear hY9; refine anyS_ready [12] (by kernel_rfl) (by simp) (allS_cons (o := O9_12) rfl (fun K9 hK9 => ?pq38_) allS_nil)
                               case pq38_ =>
                                have hI9 := ins9 Y2 M9 (#[{ key := .int .i64 6, val := .string ⟨#[43]⟩, born := 0 }, { key := .int .i64 5, val := .string ⟨#[42]⟩, born := 1 }] : Array MapEntry) 2 7 (.string ⟨#[63]⟩) HM.out rfl; go_simp; have HMn := Aside0.mk (mapIn_at (o' := Obj.map (#[{ key := .int .i64 6, val := .string ⟨#[43]⟩, born := 0 }, { key := .int .i64 5, val := .string ⟨#[42]⟩, born := 1 }, { key := .int .i64 7, val := .string ⟨#[63]⟩, born := 2 }] : Array MapEntry) 3) HM.out); have HS9n := Aside0.mk (HS9.out.ins (Obj.map (#[{ key := .int .i64 6, val := .string ⟨#[43]⟩, born := 0 }, { key := .int .i64 5, val := .string ⟨#[42]⟩, born := 1 }, { key := .int .i64 7, val := .string ⟨#[63]⟩, born := 2 }] : Array MapEntry) 3) HM.out HW.out); clear HS9 HM hI9; have HS9 := HS9n; have HM := HMn; clear HS9n HMn; refine hK9 _ _ HS9.out.s ?_; clear hK9 K9; generalize hY9 : mapIn Y2 M9 _ = Y3 at HM HS9 ⊢
                                clear hY9; refine anyS_take (i := 13) (oi := O9_13) (v := ?vvq40_) rfl (by kernel_rfl) (by kernel_rfl) (by kernel_rfl) (by kernel_rfl) (fun _ _ _ h => h) (Or.inl ⟨by rfl, ?yyq40_⟩) ?ssq40_ ?rrq40_
                                case yyq40_ => intro w9 _; go_simp; try (with_reducible rfl)
                                case ssq40_ => exact HS9.out.s
                                refine anyS_ready [16] (by kernel_rfl) (by simp) (allS_cons (o := O9_16) rfl (fun K9 hK9 => ?pq41_) allS_nil)
                                case pq41_ =>
                                 have hI9 := look9s Y3 M9 (#[{ key := .int .i64 6, val := .string ⟨#[43]⟩, born := 0 }, { key := .int .i64 5, val := .string ⟨#[42]⟩, born := 1 }, { key := .int .i64 7, val := .string ⟨#[63]⟩, born := 2 }] : Array MapEntry) 3 (rd_T40 l0 i).f0 (.string SY) HM.out (by rw [← hsy]; unfold regex_Show.sym; rcases ho with h | h | h <;> rw [h] <;> exact ⟨_, rfl⟩); go_simp; refine hK9 _ _ HS9.out.s ?_; clear hK9 K9 hI9; exact anyS_at (by kernel_rfl) (by kernel_rfl) (tail9 M9 Y3 HS9)
                              case pq36_ =>
                               have hI9 := ins9 Y1 M9 (#[{ key := .int .i64 6, val := .string ⟨#[43]⟩, born := 0 }] : Array MapEntry) 1 7 (.string ⟨#[63]⟩) HM.out rfl; go_simp; have HMn := Aside0.mk (mapIn_at (o' := Obj.map (#[{ key := .int .i64 6, val := .string ⟨#[43]⟩, born := 0 }, { key := .int .i64 7, val := .string ⟨#[63]⟩, born := 1 }] : Array MapEntry) 2) HM.out); have HS9n := Aside0.mk (HS9.out.ins (Obj.map (#[{ key := .int .i64 6, val := .string ⟨#[43]⟩, born := 0 }, { key := .int .i64 7, val := .string ⟨#[63]⟩, born := 1 }] : Array MapEntry) 2) HM.out HW.out); clear HS9 HM hI9; have HS9 := HS9n; have HM := HMn; clear HS9n HMn; refine hK9 _ _ HS9.out.s ?_; clear hK9 K9; generalize hY9 : mapIn Y1 M9 _ = Y2 at HM HS9 ⊢; clear hY9; refine anyS_ready [10] (by kernel_rfl) (by simp) (allS_cons (o := O9_10) rfl (fun K9 hK9 => ?pq44_) allS_nil)
                               case pq44_ =>
                                have hI9 := ins9 Y2 M9 (#[{ key := .int .i64 6, val := .string ⟨#[43]⟩, born := 0 }, { key := .int .i64 7, val := .string ⟨#[63]⟩, born := 1 }] : Array MapEntry) 2 5 (.string ⟨#[42]⟩) HM.out rfl; go_simp; have HMn := Aside0.mk (mapIn_at (o' := Obj.map (#[{ key := .int .i64 6, val := .string ⟨#[43]⟩, born := 0 }, { key := .int .i64 7, val := .string ⟨#[63]⟩, born := 1 }, { key := .int .i64 5, val := .string ⟨#[42]⟩, born := 2 }] : Array MapEntry) 3) HM.out); have HS9n := Aside0.mk (HS9.out.ins (Obj.map (#[{ key := .int .i64 6, val := .string ⟨#[43]⟩, born := 0 }, { key := .int .i64 7, val := .string ⟨#[63]⟩, born := 1 }, { key := .int .i64 5, val := .string ⟨#[42]⟩, born := 2 }] : Array MapEntry) 3) HM.out HW.out); clear HS9 HM hI9; have HS9 := HS9n; have HM := HMn; clear HS9n HMn; refine hK9 _ _ HS9.out.s ?_; clear hK9 K9; generalize hY9 : mapIn Y2 M9 _ = Y3 at HM HS9 ⊢
                                clear hY9; refine anyS_take (i := 13) (oi := O9_13) (v := ?vvq46_) rfl (by kernel_rfl) (by kernel_rfl) (by kernel_rfl) (by kernel_rfl) (fun _ _ _ h => h) (Or.inl ⟨by rfl, ?yyq46_⟩) ?ssq46_ ?rrq46_
                                case yyq46_ => intro w9 _; go_simp; try (with_reducible rfl)
                                case ssq46_ => exact HS9.out.s
                                refine anyS_ready [16] (by kernel_rfl) (by simp) (allS_cons (o := O9_16) rfl (fun K9 hK9 => ?pq47_) allS_nil)
                                case pq47_ =>
                                 have hI9 := look9s Y3 M9 (#[{ key := .int .i64 6, val := .string ⟨#[43]⟩, born := 0 }, { key := .int .i64 7, val := .string ⟨#[63]⟩, born := 1 }, { key := .int .i64 5, val := .string ⟨#[42]⟩, born := 2 }] : Array MapEntry) 3 (rd_T40 l0 i).f0 (.string SY) HM.out (by rw [← hsy]; unfold regex_Show.sym; rcases ho with h | h | h <;> rw [h] <;> exact ⟨_, rfl⟩); go_simp; refine hK9 _ _ HS9.out.s ?_; clear hK9 K9 hI9; exact anyS_at (by kernel_rfl) (by kernel_rfl) (tail9 M9 Y3 HS9)
                             case pq18_ =>
                              have hI9 := ins9 X9 M9 (#[] : Array MapEntry) 0 7 (.string ⟨#[63]⟩) HM.out rfl; go_simp; have HMn := Aside0.mk (mapIn_at (o' := Obj.map (#[{ key := .int .i64 7, val := .string ⟨#[63]⟩, born := 0 }] : Array MapEntry) 1) HM.out); have HS9n := Aside0.mk (HS9.out.ins (Obj.map (#[{ key := .int .i64 7, val := .string ⟨#[63]⟩, born := 0 }] : Array MapEntry) 1) HM.out HW.out); clear HS9 HM hI9; have HS9 := HS9n; have HM := HMn; clear HS9n HMn; refine hK9 _ _ HS9.out.s ?_; clear hK9 K9; generalize hY9 : mapIn X9 M9 _ = Y1 at HM HS9 ⊢; clear hY9; refine anyS_ready [10, 11] (by kernel_rfl) (by simp) (allS_cons (o := O9_10) rfl (fun K9 hK9 => ?pq50_) (allS_cons (o := O9_11) rfl (fun K9 hK9 => ?pq51_) allS_nil))
                              case pq50_ =>
                               have hI9 := ins9 Y1 M9 (#[{ key := .int .i64 7, val := .string ⟨#[63]⟩, born := 0 }] : Array MapEntry) 1 5 (.string ⟨#[42]⟩) HM.out rfl; go_simp; have HMn := Aside0.mk (mapIn_at (o' := Obj.map (#[{ key := .int .i64 7, val := .string ⟨#[63]⟩, born := 0 }, { key := .int .i64 5, val := .string ⟨#[42]⟩, born := 1 }] : Array MapEntry) 2) HM.out); have HS9n := Aside0.mk (HS9.out.ins (Obj.map (#[{ key := .int .i64 7, val := .string ⟨#[63]⟩, born := 0 }, { key := .int .i64 5, val := .string ⟨#[42]⟩, born := 1 }] : Array MapEntry) 2) HM.out HW.out); clear HS9 HM hI9; have HS9 := HS9n; have HM := HMn; clear HS9n HMn; refine hK9 _ _ HS9.out.s ?_; clear hK9 K9; generalize hY9 : mapIn Y1 M9 _ = Y2 at HM HS9 ⊢; clear hY9; refine anyS_ready [11] (by kernel_rfl) (by simp) (allS_cons (o := O9_11) rfl (fun K9 hK9 => ?pq53_) allS_nil)
                               case pq53_ =>
                                have hI9 := ins9 Y2 M9 (#[{ key := .int .i64 7, val := .string ⟨#[63]⟩, born := 0 }, { key := .int .i64 5, val := .string ⟨#[42]⟩, born := 1 }] : Array MapEntry) 2 6 (.string ⟨#[43]⟩) HM.out rfl; go_simp; have HMn := Aside0.mk (mapIn_at (o' := Obj.map (#[{ key := .int .i64 7, val := .string ⟨#[63]⟩, born := 0 }, { key := .int .i64 5, val := .string ⟨#[42]⟩, born := 1 }, { key := .int .i64 6, val := .string ⟨#[43]⟩, born := 2 }] : Array MapEntry) 3) HM.out); have HS9n := Aside0.mk (HS9.out.ins (Obj.map (#[{ key := .int .i64 7, val := .string ⟨#[63]⟩, born := 0 }, { key := .int .i64 5, val := .string ⟨#[42]⟩, born := 1 }, { key := .int .i64 6, val := .string ⟨#[43]⟩, born := 2 }] : Array MapEntry) 3) HM.out HW.out); clear HS9 HM hI9; have HS9 := HS9n; have HM := HMn; clear HS9n HMn; refine hK9 _ _ HS9.out.s ?_; clear hK9 K9; generalize hY9 : mapIn Y2 M9 _ = Y3 at HM HS9 ⊢
                                clear hY9; refine anyS_take (i := 13) (oi := O9_13) (v := ?vvq55_) rfl (by kernel_rfl) (by kernel_rfl) (by kernel_rfl) (by kernel_rfl) (fun _ _ _ h => h) (Or.inl ⟨by rfl, ?yyq55_⟩) ?ssq55_ ?rrq55_
                                case yyq55_ => intro w9 _; go_simp; try (with_reducible rfl)
                                case ssq55_ => exact HS9.out.s
                                refine anyS_ready [16] (by kernel_rfl) (by simp) (allS_cons (o := O9_16) rfl (fun K9 hK9 => ?pq56_) allS_nil)
                                case pq56_ =>
                                 have hI9 := look9s Y3 M9 (#[{ key := .int .i64 7, val := .string ⟨#[63]⟩, born := 0 }, { key := .int .i64 5, val := .string ⟨#[42]⟩, born := 1 }, { key := .int .i64 6, val := .string ⟨#[43]⟩, born := 2 }] : Array MapEntry) 3 (rd_T40 l0 i).f0 (.string SY) HM.out (by rw [← hsy]; unfold regex_Show.sym; rcases ho with h | h | h <;> rw [h] <;> exact ⟨_, rfl⟩); go_simp; refine hK9 _ _ HS9.out.s ?_; clear hK9 K9 hI9; exact anyS_at (by kernel_rfl) (by kernel_rfl) (tail9 M9 Y3 HS9)
                              case pq51_ =>
                               have hI9 := ins9 Y1 M9 (#[{ key := .int .i64 7, val := .string ⟨#[63]⟩, born := 0 }] : Array MapEntry) 1 6 (.string ⟨#[43]⟩) HM.out rfl; go_simp; have HMn := Aside0.mk (mapIn_at (o' := Obj.map (#[{ key := .int .i64 7, val := .string ⟨#[63]⟩, born := 0 }, { key := .int .i64 6, val := .string ⟨#[43]⟩, born := 1 }] : Array MapEntry) 2) HM.out); have HS9n := Aside0.mk (HS9.out.ins (Obj.map (#[{ key := .int .i64 7, val := .string ⟨#[63]⟩, born := 0 }, { key := .int .i64 6, val := .string ⟨#[43]⟩, born := 1 }] : Array MapEntry) 2) HM.out HW.out); clear HS9 HM hI9; have HS9 := HS9n; have HM := HMn; clear HS9n HMn; refine hK9 _ _ HS9.out.s ?_; clear hK9 K9; generalize hY9 : mapIn Y1 M9 _ = Y2 at HM HS9 ⊢; clear hY9; refine anyS_ready [10] (by kernel_rfl) (by simp) (allS_cons (o := O9_10) rfl (fun K9 hK9 => ?pq59_) allS_nil)
                               case pq59_ =>
                                have hI9 := ins9 Y2 M9 (#[{ key := .int .i64 7, val := .string ⟨#[63]⟩, born := 0 }, { key := .int .i64 6, val := .string ⟨#[43]⟩, born := 1 }] : Array MapEntry) 2 5 (.string ⟨#[42]⟩) HM.out rfl; go_simp; have HMn := Aside0.mk (mapIn_at (o' := Obj.map (#[{ key := .int .i64 7, val := .string ⟨#[63]⟩, born := 0 }, { key := .int .i64 6, val := .string ⟨#[43]⟩, born := 1 }, { key := .int .i64 5, val := .string ⟨#[42]⟩, born := 2 }] : Array MapEntry) 3) HM.out); have HS9n := Aside0.mk (HS9.out.ins (Obj.map (#[{ key := .int .i64 7, val := .string ⟨#[63]⟩, born := 0 }, { key := .int .i64 6, val := .string ⟨#[43]⟩, born := 1 }, { key := .int .i64 5, val := .string ⟨#[42]⟩, born := 2 }] : Array MapEntry) 3) HM.out HW.out); clear HS9 HM hI9; have HS9 := HS9n; have HM := HMn; clear HS9n HMn; refine hK9 _ _ HS9.out.s ?_; clear hK9 K9; generalize hY9 : mapIn Y2 M9 _ = Y3 at HM HS9 ⊢
                                clear hY9; refine anyS_take (i := 13) (oi := O9_13) (v := ?vvq61_) rfl (by kernel_rfl) (by kernel_rfl) (by kernel_rfl) (by kernel_rfl) (fun _ _ _ h => h) (Or.inl ⟨by rfl, ?yyq61_⟩) ?ssq61_ ?rrq61_
                                case yyq61_ => intro w9 _; go_simp; try (with_reducible rfl)
                                case ssq61_ => exact HS9.out.s
                                refine anyS_ready [16] (by kernel_rfl) (by simp) (allS_cons (o := O9_16) rfl (fun K9 hK9 => ?pq62_) allS_nil)
                                case pq62_ =>
                                 have hI9 := look9s Y3 M9 (#[{ key := .int .i64 7, val := .string ⟨#[63]⟩, born := 0 }, { key := .int .i64 6, val := .string ⟨#[43]⟩, born := 1 }, { key := .int .i64 5, val := .string ⟨#[42]⟩, born := 2 }] : Array MapEntry) 3 (rd_T40 l0 i).f0 (.string SY) HM.out (by rw [← hsy]; unfold regex_Show.sym; rcases ho with h | h | h <;> rw [h] <;> exact ⟨_, rfl⟩); go_simp; refine hK9 _ _ HS9.out.s ?_; clear hK9 K9 hI9; exact anyS_at (by kernel_rfl) (by kernel_rfl) (tail9 M9 Y3 HS9)
                           case pq12_ =>
                            go_simp; have HM : Aside0 ((X0_.alloc (.map #[] 0)).heap[X0_.heap.size]? = some (.map #[] 0)) := ⟨blk_new _ _⟩; have HW : Aside0 (w.heap.size ≤ X0_.heap.size) := ⟨HS9.out.below.size⟩; have HS9n := Aside0.mk HS9.out.make; clear HS9; have HS9 := HS9n; clear HS9n; refine hK9 _ _ HS9.out.s ?_; clear hK9 K9; generalize hm9 : X0_.heap.size = M9 at HM HW ⊢; generalize hX9 : X0_.alloc (.map #[] 0) = X9 at HM HS9 ⊢; clear hm9 hX9; refine anyS_ready [8, 10, 11, 12] (by kernel_rfl) (by simp) (allS_cons (o := O9_8) rfl (fun K9 hK9 => ?pq65_) (allS_cons (o := O9_10) rfl (fun K9 hK9 => ?pq66_) (allS_cons (o := O9_11) rfl (fun K9 hK9 => ?pq67_) (allS_cons (o := O9_12) rfl (fun K9 hK9 => ?pq68_) allS_nil))))
                            case pq65_ =>
                             go_simp
                             go_wp2_with (first | (go_at_call 15; (with_reducible refine (regex_shown_in.calls _ _ _ x _ HXX.out).mono ?_); rintro e' w1 ⟨rfl, hb⟩))
                             have HS9n := Aside0.mk (HS9.out.call hb); have HMn := Aside0.mk (blk_below HM.out hb); clear HM; have HM := HMn; clear HMn; clear HS9; have HS9 := HS9n; clear HS9n hb; refine hK9 _ _ HS9.out.s ?_; clear hK9 K9; refine anyS_ready [10, 11, 12] (by kernel_rfl) (by simp) (allS_cons (o := O9_10) rfl (fun K9 hK9 => ?pq70_) (allS_cons (o := O9_11) rfl (fun K9 hK9 => ?pq71_) (allS_cons (o := O9_12) rfl (fun K9 hK9 => ?pq72_) allS_nil)))
                             case pq70_ =>
                              have hI9 := ins9 w1 M9 (#[] : Array MapEntry) 0 5 (.string ⟨#[42]⟩) HM.out rfl; go_simp; have HMn := Aside0.mk (mapIn_at (o' := Obj.map (#[{ key := .int .i64 5, val := .string ⟨#[42]⟩, born := 0 }] : Array MapEntry) 1) HM.out); have HS9n := Aside0.mk (HS9.out.ins (Obj.map (#[{ key := .int .i64 5, val := .string ⟨#[42]⟩, born := 0 }] : Array MapEntry) 1) HM.out HW.out); clear HS9 HM hI9; have HS9 := HS9n; have HM := HMn; clear HS9n HMn; refine hK9 _ _ HS9.out.s ?_; clear hK9 K9; generalize hY9 : mapIn w1 M9 _ = Y1 at HM HS9 ⊢; clear hY9; refine anyS_ready [11, 12] (by kernel_rfl) (by simp) (allS_cons (o := O9_11) rfl (fun K9 hK9 => ?pq74_) (allS_cons (o := O9_12) rfl (fun K9 hK9 => ?pq75_) allS_nil))
                              case pq74_ =>
                               have hI9 := ins9 Y1 M9 (#[{ key := .int .i64 5, val := .string ⟨#[42]⟩, born := 0 }] : Array MapEntry) 1 6 (.string ⟨#[43]⟩) HM.out rfl; go_simp; have HMn := Aside0.mk (mapIn_at (o' := Obj.map (#[{ key := .int .i64 5, val := .string ⟨#[42]⟩, born := 0 }, { key := .int .i64 6, val := .string ⟨#[43]⟩, born := 1 }] : Array MapEntry) 2) HM.out); have HS9n := Aside0.mk (HS9.out.ins (Obj.map (#[{ key := .int .i64 5, val := .string ⟨#[42]⟩, born := 0 }, { key := .int .i64 6, val := .string ⟨#[43]⟩, born := 1 }] : Array MapEntry) 2) HM.out HW.out); clear HS9 HM hI9; have HS9 := HS9n; have HM := HMn; clear HS9n HMn; refine hK9 _ _ HS9.out.s ?_; clear hK9 K9; generalize hY9 : mapIn Y1 M9 _ = Y2 at HM HS9 ⊢; clear hY9; refine anyS_ready [12] (by kernel_rfl) (by simp) (allS_cons (o := O9_12) rfl (fun K9 hK9 => ?pq77_) allS_nil)
                               case pq77_ =>
                                have hI9 := ins9 Y2 M9 (#[{ key := .int .i64 5, val := .string ⟨#[42]⟩, born := 0 }, { key := .int .i64 6, val := .string ⟨#[43]⟩, born := 1 }] : Array MapEntry) 2 7 (.string ⟨#[63]⟩) HM.out rfl; go_simp; have HMn := Aside0.mk (mapIn_at (o' := Obj.map (#[{ key := .int .i64 5, val := .string ⟨#[42]⟩, born := 0 }, { key := .int .i64 6, val := .string ⟨#[43]⟩, born := 1 }, { key := .int .i64 7, val := .string ⟨#[63]⟩, born := 2 }] : Array MapEntry) 3) HM.out); have HS9n := Aside0.mk (HS9.out.ins (Obj.map (#[{ key := .int .i64 5, val := .string ⟨#[42]⟩, born := 0 }, { key := .int .i64 6, val := .string ⟨#[43]⟩, born := 1 }, { key := .int .i64 7, val := .string ⟨#[63]⟩, born := 2 }] : Array MapEntry) 3) HM.out HW.out); clear HS9 HM hI9; have HS9 := HS9n; have HM := HMn; clear HS9n HMn; refine hK9 _ _ HS9.out.s ?_; clear hK9 K9; generalize hY9 : mapIn Y2 M9 _ = Y3 at HM HS9 ⊢
                                clear hY9; refine anyS_take (i := 13) (oi := O9_13) (v := ?vvq79_) rfl (by kernel_rfl) (by kernel_rfl) (by kernel_rfl) (by kernel_rfl) (fun _ _ _ h => h) (Or.inl ⟨by rfl, ?yyq79_⟩) ?ssq79_ ?rrq79_
                                case yyq79_ => intro w9 _; go_simp; try (with_reducible rfl)
                                case ssq79_ => exact HS9.out.s
                                refine anyS_ready [16] (by kernel_rfl) (by simp) (allS_cons (o := O9_16) rfl (fun K9 hK9 => ?pq80_) allS_nil)
                                case pq80_ =>
                                 have hI9 := look9s Y3 M9 (#[{ key := .int .i64 5, val := .string ⟨#[42]⟩, born := 0 }, { key := .int .i64 6, val := .string ⟨#[43]⟩, born := 1 }, { key := .int .i64 7, val := .string ⟨#[63]⟩, born := 2 }] : Array MapEntry) 3 (rd_T40 l0 i).f0 (.string SY) HM.out (by rw [← hsy]; unfold regex_Show.sym; rcases ho with h | h | h <;> rw [h] <;> exact ⟨_, rfl⟩); go_simp; refine hK9 _ _ HS9.out.s ?_; clear hK9 K9 hI9; exact anyS_at (by kernel_rfl) (by kernel_rfl) (tail9 M9 Y3 HS9)
                              case pq75_ =>
                               have hI9 := ins9 Y1 M9 (#[{ key := .int .i64 5, val := .string ⟨#[42]⟩, born := 0 }] : Array MapEntry) 1 7 (.string ⟨#[63]⟩) HM.out rfl; go_simp; have HMn := Aside0.mk (mapIn_at (o' := Obj.map (#[{ key := .int .i64 5, val := .string ⟨#[42]⟩, born := 0 }, { key := .int .i64 7, val := .string ⟨#[63]⟩, born := 1 }] : Array MapEntry) 2) HM.out); have HS9n := Aside0.mk (HS9.out.ins (Obj.map (#[{ key := .int .i64 5, val := .string ⟨#[42]⟩, born := 0 }, { key := .int .i64 7, val := .string ⟨#[63]⟩, born := 1 }] : Array MapEntry) 2) HM.out HW.out); clear HS9 HM hI9; have HS9 := HS9n; have HM := HMn; clear HS9n HMn; refine hK9 _ _ HS9.out.s ?_; clear hK9 K9; generalize hY9 : mapIn Y1 M9 _ = Y2 at HM HS9 ⊢; clear hY9; refine anyS_ready [11] (by kernel_rfl) (by simp) (allS_cons (o := O9_11) rfl (fun K9 hK9 => ?pq83_) allS_nil)
                               case pq83_ =>
                                have hI9 := ins9 Y2 M9 (#[{ key := .int .i64 5, val := .string ⟨#[42]⟩, born := 0 }, { key := .int .i64 7, val := .string ⟨#[63]⟩, born := 1 }] : Array MapEntry) 2 6 (.string ⟨#[43]⟩) HM.out rfl; go_simp; have HMn := Aside0.mk (mapIn_at (o' := Obj.map (#[{ key := .int .i64 5, val := .string ⟨#[42]⟩, born := 0 }, { key := .int .i64 7, val := .string ⟨#[63]⟩, born := 1 }, { key := .int .i64 6, val := .string ⟨#[43]⟩, born := 2 }] : Array MapEntry) 3) HM.out); have HS9n := Aside0.mk (HS9.out.ins (Obj.map (#[{ key := .int .i64 5, val := .string ⟨#[42]⟩, born := 0 }, { key := .int .i64 7, val := .string ⟨#[63]⟩, born := 1 }, { key := .int .i64 6, val := .string ⟨#[43]⟩, born := 2 }] : Array MapEntry) 3) HM.out HW.out); clear HS9 HM hI9; have HS9 := HS9n; have HM := HMn; clear HS9n HMn; refine hK9 _ _ HS9.out.s ?_; clear hK9 K9; generalize hY9 : mapIn Y2 M9 _ = Y3 at HM HS9 ⊢
                                clear hY9; refine anyS_take (i := 13) (oi := O9_13) (v := ?vvq85_) rfl (by kernel_rfl) (by kernel_rfl) (by kernel_rfl) (by kernel_rfl) (fun _ _ _ h => h) (Or.inl ⟨by rfl, ?yyq85_⟩) ?ssq85_ ?rrq85_
                                case yyq85_ => intro w9 _; go_simp; try (with_reducible rfl)
                                case ssq85_ => exact HS9.out.s
                                refine anyS_ready [16] (by kernel_rfl) (by simp) (allS_cons (o := O9_16) rfl (fun K9 hK9 => ?pq86_) allS_nil)
                                case pq86_ =>
                                 have hI9 := look9s Y3 M9 (#[{ key := .int .i64 5, val := .string ⟨#[42]⟩, born := 0 }, { key := .int .i64 7, val := .string ⟨#[63]⟩, born := 1 }, { key := .int .i64 6, val := .string ⟨#[43]⟩, born := 2 }] : Array MapEntry) 3 (rd_T40 l0 i).f0 (.string SY) HM.out (by rw [← hsy]; unfold regex_Show.sym; rcases ho with h | h | h <;> rw [h] <;> exact ⟨_, rfl⟩); go_simp; refine hK9 _ _ HS9.out.s ?_; clear hK9 K9 hI9; exact anyS_at (by kernel_rfl) (by kernel_rfl) (tail9 M9 Y3 HS9)
                             case pq71_ =>
                              have hI9 := ins9 w1 M9 (#[] : Array MapEntry) 0 6 (.string ⟨#[43]⟩) HM.out rfl; go_simp; have HMn := Aside0.mk (mapIn_at (o' := Obj.map (#[{ key := .int .i64 6, val := .string ⟨#[43]⟩, born := 0 }] : Array MapEntry) 1) HM.out); have HS9n := Aside0.mk (HS9.out.ins (Obj.map (#[{ key := .int .i64 6, val := .string ⟨#[43]⟩, born := 0 }] : Array MapEntry) 1) HM.out HW.out); clear HS9 HM hI9; have HS9 := HS9n; have HM := HMn; clear HS9n HMn; refine hK9 _ _ HS9.out.s ?_; clear hK9 K9; generalize hY9 : mapIn w1 M9 _ = Y1 at HM HS9 ⊢; clear hY9; refine anyS_ready [10, 12] (by kernel_rfl) (by simp) (allS_cons (o := O9_10) rfl (fun K9 hK9 => ?pq89_) (allS_cons (o := O9_12) rfl (fun K9 hK9 => ?pq90_) allS_nil))
                              case pq89_ =>
                               have hI9 := ins9 Y1 M9 (#[{ key := .int .i64 6, val := .string ⟨#[43]⟩, born := 0 }] : Array MapEntry) 1 5 (.string ⟨#[42]⟩) HM.out rfl; go_simp; have HMn := Aside0.mk (mapIn_at (o' := Obj.map (#[{ key := .int .i64 6, val := .string ⟨#[43]⟩, born := 0 }, { key := .int .i64 5, val := .string ⟨#[42]⟩, born := 1 }] : Array MapEntry) 2) HM.out); have HS9n := Aside0.mk (HS9.out.ins (Obj.map (#[{ key := .int .i64 6, val := .string ⟨#[43]⟩, born := 0 }, { key := .int .i64 5, val := .string ⟨#[42]⟩, born := 1 }] : Array MapEntry) 2) HM.out HW.out); clear HS9 HM hI9; have HS9 := HS9n; have HM := HMn; clear HS9n HMn; refine hK9 _ _ HS9.out.s ?_; clear hK9 K9; generalize hY9 : mapIn Y1 M9 _ = Y2 at HM HS9 ⊢; clear hY9; refine anyS_ready [12] (by kernel_rfl) (by simp) (allS_cons (o := O9_12) rfl (fun K9 hK9 => ?pq92_) allS_nil)
                               case pq92_ =>
                                have hI9 := ins9 Y2 M9 (#[{ key := .int .i64 6, val := .string ⟨#[43]⟩, born := 0 }, { key := .int .i64 5, val := .string ⟨#[42]⟩, born := 1 }] : Array MapEntry) 2 7 (.string ⟨#[63]⟩) HM.out rfl; go_simp; have HMn := Aside0.mk (mapIn_at (o' := Obj.map (#[{ key := .int .i64 6, val := .string ⟨#[43]⟩, born := 0 }, { key := .int .i64 5, val := .string ⟨#[42]⟩, born := 1 }, { key := .int .i64 7, val := .string ⟨#[63]⟩, born := 2 }] : Array MapEntry) 3) HM.out); have HS9n := Aside0.mk (HS9.out.ins (Obj.map (#[{ key := .int .i64 6, val := .string ⟨#[43]⟩, born := 0 }, { key := .int .i64 5, val := .string ⟨#[42]⟩, born := 1 }, { key := .int .i64 7, val := .string ⟨#[63]⟩, born := 2 }] : Array MapEntry) 3) HM.out HW.out); clear HS9 HM hI9; have HS9 := HS9n; have HM := HMn; clear HS9n HMn; refine hK9 _ _ HS9.out.s ?_; clear hK9 K9; generalize hY9 : mapIn Y2 M9 _ = Y3 at HM HS9 ⊢
                                clear hY9; refine anyS_take (i := 13) (oi := O9_13) (v := ?vvq94_) rfl (by kernel_rfl) (by kernel_rfl) (by kernel_rfl) (by kernel_rfl) (fun _ _ _ h => h) (Or.inl ⟨by rfl, ?yyq94_⟩) ?ssq94_ ?rrq94_
                                case yyq94_ => intro w9 _; go_simp; try (with_reducible rfl)
                                case ssq94_ => exact HS9.out.s
                                refine anyS_ready [16] (by kernel_rfl) (by simp) (allS_cons (o := O9_16) rfl (fun K9 hK9 => ?pq95_) allS_nil)
                                case pq95_ =>
                                 have hI9 := look9s Y3 M9 (#[{ key := .int .i64 6, val := .string ⟨#[43]⟩, born := 0 }, { key := .int .i64 5, val := .string ⟨#[42]⟩, born := 1 }, { key := .int .i64 7, val := .string ⟨#[63]⟩, born := 2 }] : Array MapEntry) 3 (rd_T40 l0 i).f0 (.string SY) HM.out (by rw [← hsy]; unfold regex_Show.sym; rcases ho with h | h | h <;> rw [h] <;> exact ⟨_, rfl⟩); go_simp; refine hK9 _ _ HS9.out.s ?_; clear hK9 K9 hI9; exact anyS_at (by kernel_rfl) (by kernel_rfl) (tail9 M9 Y3 HS9)
                              case pq90_ =>
                               have hI9 := ins9 Y1 M9 (#[{ key := .int .i64 6, val := .string ⟨#[43]⟩, born := 0 }] : Array MapEntry) 1 7 (.string ⟨#[63]⟩) HM.out rfl; go_simp; have HMn := Aside0.mk (mapIn_at (o' := Obj.map (#[{ key := .int .i64 6, val := .string ⟨#[43]⟩, born := 0 }, { key := .int .i64 7, val := .string ⟨#[63]⟩, born := 1 }] : Array MapEntry) 2) HM.out); have HS9n := Aside0.mk (HS9.out.ins (Obj.map (#[{ key := .int .i64 6, val := .string ⟨#[43]⟩, born := 0 }, { key := .int .i64 7, val := .string ⟨#[63]⟩, born := 1 }] : Array MapEntry) 2) HM.out HW.out); clear HS9 HM hI9; have HS9 := HS9n; have HM := HMn; clear HS9n HMn; refine hK9 _ _ HS9.out.s ?_; clear hK9 K9; generalize hY9 : mapIn Y1 M9 _ = Y2 at HM HS9 ⊢; clear hY9; refine anyS_ready [10] (by kernel_rfl) (by simp) (allS_cons (o := O9_10) rfl (fun K9 hK9 => ?pq98_) allS_nil)
                               case pq98_ =>
                                have hI9 := ins9 Y2 M9 (#[{ key := .int .i64 6, val := .string ⟨#[43]⟩, born := 0 }, { key := .int .i64 7, val := .string ⟨#[63]⟩, born := 1 }] : Array MapEntry) 2 5 (.string ⟨#[42]⟩) HM.out rfl; go_simp; have HMn := Aside0.mk (mapIn_at (o' := Obj.map (#[{ key := .int .i64 6, val := .string ⟨#[43]⟩, born := 0 }, { key := .int .i64 7, val := .string ⟨#[63]⟩, born := 1 }, { key := .int .i64 5, val := .string ⟨#[42]⟩, born := 2 }] : Array MapEntry) 3) HM.out); have HS9n := Aside0.mk (HS9.out.ins (Obj.map (#[{ key := .int .i64 6, val := .string ⟨#[43]⟩, born := 0 }, { key := .int .i64 7, val := .string ⟨#[63]⟩, born := 1 }, { key := .int .i64 5, val := .string ⟨#[42]⟩, born := 2 }] : Array MapEntry) 3) HM.out HW.out); clear HS9 HM hI9; have HS9 := HS9n; have HM := HMn; clear HS9n HMn; refine hK9 _ _ HS9.out.s ?_; clear hK9 K9; generalize hY9 : mapIn Y2 M9 _ = Y3 at HM HS9 ⊢
                                clear hY9; refine anyS_take (i := 13) (oi := O9_13) (v := ?vvq100_) rfl (by kernel_rfl) (by kernel_rfl) (by kernel_rfl) (by kernel_rfl) (fun _ _ _ h => h) (Or.inl ⟨by rfl, ?yyq100_⟩) ?ssq100_ ?rrq100_
                                case yyq100_ => intro w9 _; go_simp; try (with_reducible rfl)
                                case ssq100_ => exact HS9.out.s
                                refine anyS_ready [16] (by kernel_rfl) (by simp) (allS_cons (o := O9_16) rfl (fun K9 hK9 => ?pq101_) allS_nil)
                                case pq101_ =>
                                 have hI9 := look9s Y3 M9 (#[{ key := .int .i64 6, val := .string ⟨#[43]⟩, born := 0 }, { key := .int .i64 7, val := .string ⟨#[63]⟩, born := 1 }, { key := .int .i64 5, val := .string ⟨#[42]⟩, born := 2 }] : Array MapEntry) 3 (rd_T40 l0 i).f0 (.string SY) HM.out (by rw [← hsy]; unfold regex_Show.sym; rcases ho with h | h | h <;> rw [h] <;> exact ⟨_, rfl⟩); go_simp; refine hK9 _ _ HS9.out.s ?_; clear hK9 K9 hI9; exact anyS_at (by kernel_rfl) (by kernel_rfl) (tail9 M9 Y3 HS9)
                             case pq72_ =>
                              have hI9 := ins9 w1 M9 (#[] : Array MapEntry) 0 7 (.string ⟨#[63]⟩) HM.out rfl; go_simp; have HMn := Aside0.mk (mapIn_at (o' := Obj.map (#[{ key := .int .i64 7, val := .string ⟨#[63]⟩, born := 0 }] : Array MapEntry) 1) HM.out); have HS9n := Aside0.mk (HS9.out.ins (Obj.map (#[{ key := .int .i64 7, val := .string ⟨#[63]⟩, born := 0 }] : Array MapEntry) 1) HM.out HW.out); clear HS9 HM hI9; have HS9 := HS9n; have HM := HMn; clear HS9n HMn; refine hK9 _ _ HS9.out.s ?_; clear hK9 K9; generalize hY9 : mapIn w1 M9 _ = Y1 at HM HS9 ⊢; clear hY9; refine anyS_ready [10, 11] (by kernel_rfl) (by simp) (allS_cons (o := O9_10) rfl (fun K9 hK9 => ?pq104_) (allS_cons (o := O9_11) rfl (fun K9 hK9 => ?pq105_) allS_nil))
                              case pq104_ =>
                               have hI9 := ins9 Y1 M9 (#[{ key := .int .i64 7, val := .string ⟨#[63]⟩, born := 0 }] : Array MapEntry) 1 5 (.string ⟨#[42]⟩) HM.out rfl; go_simp; have HMn := Aside0.mk (mapIn_at (o' := Obj.map (#[{ key := .int .i64 7, val := .string ⟨#[63]⟩, born := 0 }, { key := .int .i64 5, val := .string ⟨#[42]⟩, born := 1 }] : Array MapEntry) 2) HM.out); have HS9n := Aside0.mk (HS9.out.ins (Obj.map (#[{ key := .int .i64 7, val := .string ⟨#[63]⟩, born := 0 }, { key := .int .i64 5, val := .string ⟨#[42]⟩, born := 1 }] : Array MapEntry) 2) HM.out HW.out); clear HS9 HM hI9; have HS9 := HS9n; have HM := HMn; clear HS9n HMn; refine hK9 _ _ HS9.out.s ?_; clear hK9 K9; generalize hY9 : mapIn Y1 M9 _ = Y2 at HM HS9 ⊢; clear hY9; refine anyS_ready [11] (by kernel_rfl) (by simp) (allS_cons (o := O9_11) rfl (fun K9 hK9 => ?pq107_) allS_nil)
                               case pq107_ =>
                                have hI9 := ins9 Y2 M9 (#[{ key := .int .i64 7, val := .string ⟨#[63]⟩, born := 0 }, { key := .int .i64 5, val := .string ⟨#[42]⟩, born := 1 }] : Array MapEntry) 2 6 (.string ⟨#[43]⟩) HM.out rfl; go_simp; have HMn := Aside0.mk (mapIn_at (o' := Obj.map (#[{ key := .int .i64 7, val := .string ⟨#[63]⟩, born := 0 }, { key := .int .i64 5, val := .string ⟨#[42]⟩, born := 1 }, { key := .int .i64 6, val := .string ⟨#[43]⟩, born := 2 }] : Array MapEntry) 3) HM.out); have HS9n := Aside0.mk (HS9.out.ins (Obj.map (#[{ key := .int .i64 7, val := .string ⟨#[63]⟩, born := 0 }, { key := .int .i64 5, val := .string ⟨#[42]⟩, born := 1 }, { key := .int .i64 6, val := .string ⟨#[43]⟩, born := 2 }] : Array MapEntry) 3) HM.out HW.out); clear HS9 HM hI9; have HS9 := HS9n; have HM := HMn; clear HS9n HMn; refine hK9 _ _ HS9.out.s ?_; clear hK9 K9; generalize hY9 : mapIn Y2 M9 _ = Y3 at HM HS9 ⊢
                                clear hY9; refine anyS_take (i := 13) (oi := O9_13) (v := ?vvq109_) rfl (by kernel_rfl) (by kernel_rfl) (by kernel_rfl) (by kernel_rfl) (fun _ _ _ h => h) (Or.inl ⟨by rfl, ?yyq109_⟩) ?ssq109_ ?rrq109_
                                case yyq109_ => intro w9 _; go_simp; try (with_reducible rfl)
                                case ssq109_ => exact HS9.out.s
                                refine anyS_ready [16] (by kernel_rfl) (by simp) (allS_cons (o := O9_16) rfl (fun K9 hK9 => ?pq110_) allS_nil)
                                case pq110_ =>
                                 have hI9 := look9s Y3 M9 (#[{ key := .int .i64 7, val := .string ⟨#[63]⟩, born := 0 }, { key := .int .i64 5, val := .string ⟨#[42]⟩, born := 1 }, { key := .int .i64 6, val := .string ⟨#[43]⟩, born := 2 }] : Array MapEntry) 3 (rd_T40 l0 i).f0 (.string SY) HM.out (by rw [← hsy]; unfold regex_Show.sym; rcases ho with h | h | h <;> rw [h] <;> exact ⟨_, rfl⟩); go_simp; refine hK9 _ _ HS9.out.s ?_; clear hK9 K9 hI9; exact anyS_at (by kernel_rfl) (by kernel_rfl) (tail9 M9 Y3 HS9)
                              case pq105_ =>
                               have hI9 := ins9 Y1 M9 (#[{ key := .int .i64 7, val := .string ⟨#[63]⟩, born := 0 }] : Array MapEntry) 1 6 (.string ⟨#[43]⟩) HM.out rfl; go_simp; have HMn := Aside0.mk (mapIn_at (o' := Obj.map (#[{ key := .int .i64 7, val := .string ⟨#[63]⟩, born := 0 }, { key := .int .i64 6, val := .string ⟨#[43]⟩, born := 1 }] : Array MapEntry) 2) HM.out); have HS9n := Aside0.mk (HS9.out.ins (Obj.map (#[{ key := .int .i64 7, val := .string ⟨#[63]⟩, born := 0 }, { key := .int .i64 6, val := .string ⟨#[43]⟩, born := 1 }] : Array MapEntry) 2) HM.out HW.out); clear HS9 HM hI9; have HS9 := HS9n; have HM := HMn; clear HS9n HMn; refine hK9 _ _ HS9.out.s ?_; clear hK9 K9; generalize hY9 : mapIn Y1 M9 _ = Y2 at HM HS9 ⊢; clear hY9; refine anyS_ready [10] (by kernel_rfl) (by simp) (allS_cons (o := O9_10) rfl (fun K9 hK9 => ?pq113_) allS_nil)
                               case pq113_ =>
                                have hI9 := ins9 Y2 M9 (#[{ key := .int .i64 7, val := .string ⟨#[63]⟩, born := 0 }, { key := .int .i64 6, val := .string ⟨#[43]⟩, born := 1 }] : Array MapEntry) 2 5 (.string ⟨#[42]⟩) HM.out rfl; go_simp; have HMn := Aside0.mk (mapIn_at (o' := Obj.map (#[{ key := .int .i64 7, val := .string ⟨#[63]⟩, born := 0 }, { key := .int .i64 6, val := .string ⟨#[43]⟩, born := 1 }, { key := .int .i64 5, val := .string ⟨#[42]⟩, born := 2 }] : Array MapEntry) 3) HM.out); have HS9n := Aside0.mk (HS9.out.ins (Obj.map (#[{ key := .int .i64 7, val := .string ⟨#[63]⟩, born := 0 }, { key := .int .i64 6, val := .string ⟨#[43]⟩, born := 1 }, { key := .int .i64 5, val := .string ⟨#[42]⟩, born := 2 }] : Array MapEntry) 3) HM.out HW.out); clear HS9 HM hI9; have HS9 := HS9n; have HM := HMn; clear HS9n HMn; refine hK9 _ _ HS9.out.s ?_; clear hK9 K9; generalize hY9 : mapIn Y2 M9 _ = Y3 at HM HS9 ⊢
                                clear hY9; refine anyS_take (i := 13) (oi := O9_13) (v := ?vvq115_) rfl (by kernel_rfl) (by kernel_rfl) (by kernel_rfl) (by kernel_rfl) (fun _ _ _ h => h) (Or.inl ⟨by rfl, ?yyq115_⟩) ?ssq115_ ?rrq115_
                                case yyq115_ => intro w9 _; go_simp; try (with_reducible rfl)
                                case ssq115_ => exact HS9.out.s
                                refine anyS_ready [16] (by kernel_rfl) (by simp) (allS_cons (o := O9_16) rfl (fun K9 hK9 => ?pq116_) allS_nil)
                                case pq116_ =>
                                 have hI9 := look9s Y3 M9 (#[{ key := .int .i64 7, val := .string ⟨#[63]⟩, born := 0 }, { key := .int .i64 6, val := .string ⟨#[43]⟩, born := 1 }, { key := .int .i64 5, val := .string ⟨#[42]⟩, born := 2 }] : Array MapEntry) 3 (rd_T40 l0 i).f0 (.string SY) HM.out (by rw [← hsy]; unfold regex_Show.sym; rcases ho with h | h | h <;> rw [h] <;> exact ⟨_, rfl⟩); go_simp; refine hK9 _ _ HS9.out.s ?_; clear hK9 K9 hI9; exact anyS_at (by kernel_rfl) (by kernel_rfl) (tail9 M9 Y3 HS9)
                            case pq66_ =>
                             have hI9 := ins9 X9 M9 (#[] : Array MapEntry) 0 5 (.string ⟨#[42]⟩) HM.out rfl; go_simp; have HMn := Aside0.mk (mapIn_at (o' := Obj.map (#[{ key := .int .i64 5, val := .string ⟨#[42]⟩, born := 0 }] : Array MapEntry) 1) HM.out); have HS9n := Aside0.mk (HS9.out.ins (Obj.map (#[{ key := .int .i64 5, val := .string ⟨#[42]⟩, born := 0 }] : Array MapEntry) 1) HM.out HW.out); clear HS9 HM hI9; have HS9 := HS9n; have HM := HMn; clear HS9n HMn; refine hK9 _ _ HS9.out.s ?_; clear hK9 K9; generalize hY9 : mapIn X9 M9 _ = Y1 at HM HS9 ⊢; clear hY9; refine anyS_ready [8, 11, 12] (by kernel_rfl) (by simp) (allS_cons (o := O9_8) rfl (fun K9 hK9 => ?pq119_) (allS_cons (o := O9_11) rfl (fun K9 hK9 => ?pq120_) (allS_cons (o := O9_12) rfl (fun K9 hK9 => ?pq121_) allS_nil)))
                             case pq119_ =>
                              go_simp
                              go_wp2_with (first | (go_at_call 15; (with_reducible refine (regex_shown_in.calls _ _ _ x _ HXX.out).mono ?_); rintro e' w1 ⟨rfl, hb⟩))
                              have HS9n := Aside0.mk (HS9.out.call hb); have HMn := Aside0.mk (blk_below HM.out hb); clear HM; have HM := HMn; clear HMn; clear HS9; have HS9 := HS9n; clear HS9n hb; refine hK9 _ _ HS9.out.s ?_; clear hK9 K9; refine anyS_ready [11, 12] (by kernel_rfl) (by simp) (allS_cons (o := O9_11) rfl (fun K9 hK9 => ?pq123_) (allS_cons (o := O9_12) rfl (fun K9 hK9 => ?pq124_) allS_nil))
                              case pq123_ =>
                               have hI9 := ins9 w1 M9 (#[{ key := .int .i64 5, val := .string ⟨#[42]⟩, born := 0 }] : Array MapEntry) 1 6 (.string ⟨#[43]⟩) HM.out rfl; go_simp; have HMn := Aside0.mk (mapIn_at (o' := Obj.map (#[{ key := .int .i64 5, val := .string ⟨#[42]⟩, born := 0 }, { key := .int .i64 6, val := .string ⟨#[43]⟩, born := 1 }] : Array MapEntry) 2) HM.out); have HS9n := Aside0.mk (HS9.out.ins (Obj.map (#[{ key := .int .i64 5, val := .string ⟨#[42]⟩, born := 0 }, { key := .int .i64 6, val := .string ⟨#[43]⟩, born := 1 }] : Array MapEntry) 2) HM.out HW.out); clear HS9 HM hI9; have HS9 := HS9n; have HM := HMn; clear HS9n HMn; refine hK9 _ _ HS9.out.s ?_; clear hK9 K9; generalize hY9 : mapIn w1 M9 _ = Y2 at HM HS9 ⊢; clear hY9; refine anyS_ready [12] (by kernel_rfl) (by simp) (allS_cons (o := O9_12) rfl (fun K9 hK9 => ?pq126_) allS_nil)
                               case pq126_ =>
                                have hI9 := ins9 Y2 M9 (#[{ key := .int .i64 5, val := .string ⟨#[42]⟩, born := 0 }, { key := .int .i64 6, val := .string ⟨#[43]⟩, born := 1 }] : Array MapEntry) 2 7 (.string ⟨#[63]⟩) HM.out rfl; go_simp; have HMn := Aside0.mk (mapIn_at (o' := Obj.map (#[{ key := .int .i64 5, val := .string ⟨#[42]⟩, born := 0 }, { key := .int .i64 6, val := .string ⟨#[43]⟩, born := 1 }, { key := .int .i64 7, val := .string ⟨#[63]⟩, born := 2 }] : Array MapEntry) 3) HM.out); have HS9n := Aside0.mk (HS9.out.ins (Obj.map (#[{ key := .int .i64 5, val := .string ⟨#[42]⟩, born := 0 }, { key := .int .i64 6, val := .string ⟨#[43]⟩, born := 1 }, { key := .int .i64 7, val := .string ⟨#[63]⟩, born := 2 }] : Array MapEntry) 3) HM.out HW.out); clear HS9 HM hI9; have HS9 := HS9n; have HM := HMn; clear HS9n HMn; refine hK9 _ _ HS9.out.s ?_; clear hK9 K9; generalize hY9 : mapIn Y2 M9 _ = Y3 at HM HS9 ⊢
                                clear hY9; refine anyS_take (i := 13) (oi := O9_13) (v := ?vvq128_) rfl (by kernel_rfl) (by kernel_rfl) (by kernel_rfl) (by kernel_rfl) (fun _ _ _ h => h) (Or.inl ⟨by rfl, ?yyq128_⟩) ?ssq128_ ?rrq128_
                                case yyq128_ => intro w9 _; go_simp; try (with_reducible rfl)
                                case ssq128_ => exact HS9.out.s
                                refine anyS_ready [16] (by kernel_rfl) (by simp) (allS_cons (o := O9_16) rfl (fun K9 hK9 => ?pq129_) allS_nil)
                                case pq129_ =>
                                 have hI9 := look9s Y3 M9 (#[{ key := .int .i64 5, val := .string ⟨#[42]⟩, born := 0 }, { key := .int .i64 6, val := .string ⟨#[43]⟩, born := 1 }, { key := .int .i64 7, val := .string ⟨#[63]⟩, born := 2 }] : Array MapEntry) 3 (rd_T40 l0 i).f0 (.string SY) HM.out (by rw [← hsy]; unfold regex_Show.sym; rcases ho with h | h | h <;> rw [h] <;> exact ⟨_, rfl⟩); go_simp; refine hK9 _ _ HS9.out.s ?_; clear hK9 K9 hI9; exact anyS_at (by kernel_rfl) (by kernel_rfl) (tail9 M9 Y3 HS9)
                              case pq124_ =>
                               have hI9 := ins9 w1 M9 (#[{ key := .int .i64 5, val := .string ⟨#[42]⟩, born := 0 }] : Array MapEntry) 1 7 (.string ⟨#[63]⟩) HM.out rfl; go_simp; have HMn := Aside0.mk (mapIn_at (o' := Obj.map (#[{ key := .int .i64 5, val := .string ⟨#[42]⟩, born := 0 }, { key := .int .i64 7, val := .string ⟨#[63]⟩, born := 1 }] : Array MapEntry) 2) HM.out); have HS9n := Aside0.mk (HS9.out.ins (Obj.map (#[{ key := .int .i64 5, val := .string ⟨#[42]⟩, born := 0 }, { key := .int .i64 7, val := .string ⟨#[63]⟩, born := 1 }] : Array MapEntry) 2) HM.out HW.out); clear HS9 HM hI9; have HS9 := HS9n; have HM := HMn; clear HS9n HMn; refine hK9 _ _ HS9.out.s ?_; clear hK9 K9; generalize hY9 : mapIn w1 M9 _ = Y2 at HM HS9 ⊢; clear hY9; refine anyS_ready [11] (by kernel_rfl) (by simp) (allS_cons (o := O9_11) rfl (fun K9 hK9 => ?pq132_) allS_nil)
                               case pq132_ =>
                                have hI9 := ins9 Y2 M9 (#[{ key := .int .i64 5, val := .string ⟨#[42]⟩, born := 0 }, { key := .int .i64 7, val := .string ⟨#[63]⟩, born := 1 }] : Array MapEntry) 2 6 (.string ⟨#[43]⟩) HM.out rfl; go_simp; have HMn := Aside0.mk (mapIn_at (o' := Obj.map (#[{ key := .int .i64 5, val := .string ⟨#[42]⟩, born := 0 }, { key := .int .i64 7, val := .string ⟨#[63]⟩, born := 1 }, { key := .int .i64 6, val := .string ⟨#[43]⟩, born := 2 }] : Array MapEntry) 3) HM.out); have HS9n := Aside0.mk (HS9.out.ins (Obj.map (#[{ key := .int .i64 5, val := .string ⟨#[42]⟩, born := 0 }, { key := .int .i64 7, val := .string ⟨#[63]⟩, born := 1 }, { key := .int .i64 6, val := .string ⟨#[43]⟩, born := 2 }] : Array MapEntry) 3) HM.out HW.out); clear HS9 HM hI9; have HS9 := HS9n; have HM := HMn; clear HS9n HMn; refine hK9 _ _ HS9.out.s ?_; clear hK9 K9; generalize hY9 : mapIn Y2 M9 _ = Y3 at HM HS9 ⊢
                                clear hY9; refine anyS_take (i := 13) (oi := O9_13) (v := ?vvq134_) rfl (by kernel_rfl) (by kernel_rfl) (by kernel_rfl) (by kernel_rfl) (fun _ _ _ h => h) (Or.inl ⟨by rfl, ?yyq134_⟩) ?ssq134_ ?rrq134_
                                case yyq134_ => intro w9 _; go_simp; try (with_reducible rfl)
                                case ssq134_ => exact HS9.out.s
                                refine anyS_ready [16] (by kernel_rfl) (by simp) (allS_cons (o := O9_16) rfl (fun K9 hK9 => ?pq135_) allS_nil)
                                case pq135_ =>
                                 have hI9 := look9s Y3 M9 (#[{ key := .int .i64 5, val := .string ⟨#[42]⟩, born := 0 }, { key := .int .i64 7, val := .string ⟨#[63]⟩, born := 1 }, { key := .int .i64 6, val := .string ⟨#[43]⟩, born := 2 }] : Array MapEntry) 3 (rd_T40 l0 i).f0 (.string SY) HM.out (by rw [← hsy]; unfold regex_Show.sym; rcases ho with h | h | h <;> rw [h] <;> exact ⟨_, rfl⟩); go_simp; refine hK9 _ _ HS9.out.s ?_; clear hK9 K9 hI9; exact anyS_at (by kernel_rfl) (by kernel_rfl) (tail9 M9 Y3 HS9)
                             case pq120_ =>
                              have hI9 := ins9 Y1 M9 (#[{ key := .int .i64 5, val := .string ⟨#[42]⟩, born := 0 }] : Array MapEntry) 1 6 (.string ⟨#[43]⟩) HM.out rfl; go_simp; have HMn := Aside0.mk (mapIn_at (o' := Obj.map (#[{ key := .int .i64 5, val := .string ⟨#[42]⟩, born := 0 }, { key := .int .i64 6, val := .string ⟨#[43]⟩, born := 1 }] : Array MapEntry) 2) HM.out); have HS9n := Aside0.mk (HS9.out.ins (Obj.map (#[{ key := .int .i64 5, val := .string ⟨#[42]⟩, born := 0 }, { key := .int .i64 6, val := .string ⟨#[43]⟩, born := 1 }] : Array MapEntry) 2) HM.out HW.out); clear HS9 HM hI9; have HS9 := HS9n; have HM := HMn; clear HS9n HMn; refine hK9 _ _ HS9.out.s ?_; clear hK9 K9; generalize hY9 : mapIn Y1 M9 _ = Y2 at HM HS9 ⊢; clear hY9; refine anyS_ready [8, 12] (by kernel_rfl) (by simp) (allS_cons (o := O9_8) rfl (fun K9 hK9 => ?pq138_) (allS_cons (o := O9_12) rfl (fun K9 hK9 => ?pq139_) allS_nil))
                              case pq138_ =>
                               go_simp
                               go_wp2_with (first | (go_at_call 15; (with_reducible refine (regex_shown_in.calls _ _ _ x _ HXX.out).mono ?_); rintro e' w1 ⟨rfl, hb⟩))
                               have HS9n := Aside0.mk (HS9.out.call hb); have HMn := Aside0.mk (blk_below HM.out hb); clear HM; have HM := HMn; clear HMn; clear HS9; have HS9 := HS9n; clear HS9n hb; refine hK9 _ _ HS9.out.s ?_; clear hK9 K9; refine anyS_ready [12] (by kernel_rfl) (by simp) (allS_cons (o := O9_12) rfl (fun K9 hK9 => ?pq141_) allS_nil)
                               case pq141_ =>
                                have hI9 := ins9 w1 M9 (#[{ key := .int .i64 5, val := .string ⟨#[42]⟩, born := 0 }, { key := .int .i64 6, val := .string ⟨#[43]⟩, born := 1 }] : Array MapEntry) 2 7 (.string ⟨#[63]⟩) HM.out rfl; go_simp; have HMn := Aside0.mk (mapIn_at (o' := Obj.map (#[{ key := .int .i64 5, val := .string ⟨#[42]⟩, born := 0 }, { key := .int .i64 6, val := .string ⟨#[43]⟩, born := 1 }, { key := .int .i64 7, val := .string ⟨#[63]⟩, born := 2 }] : Array MapEntry) 3) HM.out); have HS9n := Aside0.mk (HS9.out.ins (Obj.map (#[{ key := .int .i64 5, val := .string ⟨#[42]⟩, born := 0 }, { key := .int .i64 6, val := .string ⟨#[43]⟩, born := 1 }, { key := .int .i64 7, val := .string ⟨#[63]⟩, born := 2 }] : Array MapEntry) 3) HM.out HW.out); clear HS9 HM hI9; have HS9 := HS9n; have HM := HMn; clear HS9n HMn; refine hK9 _ _ HS9.out.s ?_; clear hK9 K9; generalize hY9 : mapIn w1 M9 _ = Y3 at HM HS9 ⊢
                                clear hY9; refine anyS_take (i := 13) (oi := O9_13) (v := ?vvq143_) rfl (by kernel_rfl) (by kernel_rfl) (by kernel_rfl) (by kernel_rfl) (fun _ _ _ h => h) (Or.inl ⟨by rfl, ?yyq143_⟩) ?ssq143_ ?rrq143_
                                case yyq143_ => intro w9 _; go_simp; try (with_reducible rfl)
                                case ssq143_ => exact HS9.out.s
                                refine anyS_ready [16] (by kernel_rfl) (by simp) (allS_cons (o := O9_16) rfl (fun K9 hK9 => ?pq144_) allS_nil)
                                case pq144_ =>
                                 have hI9 := look9s Y3 M9 (#[{ key := .int .i64 5, val := .string ⟨#[42]⟩, born := 0 }, { key := .int .i64 6, val := .string ⟨#[43]⟩, born := 1 }, { key := .int .i64 7, val := .string ⟨#[63]⟩, born := 2 }] : Array MapEntry) 3 (rd_T40 l0 i).f0 (.string SY) HM.out (by rw [← hsy]; unfold regex_Show.sym; rcases ho with h | h | h <;> rw [h] <;> exact ⟨_, rfl⟩); go_simp; refine hK9 _ _ HS9.out.s ?_; clear hK9 K9 hI9; exact anyS_at (by kernel_rfl) (by kernel_rfl) (tail9 M9 Y3 HS9)
                              case pq139_ =>
                               have hI9 := ins9 Y2 M9 (#[{ key := .int .i64 5, val := .string ⟨#[42]⟩, born := 0 }, { key := .int .i64 6, val := .string ⟨#[43]⟩, born := 1 }] : Array MapEntry) 2 7 (.string ⟨#[63]⟩) HM.out rfl; go_simp; have HMn := Aside0.mk (mapIn_at (o' := Obj.map (#[{ key := .int .i64 5, val := .string ⟨#[42]⟩, born := 0 }, { key := .int .i64 6, val := .string ⟨#[43]⟩, born := 1 }, { key := .int .i64 7, val := .string ⟨#[63]⟩, born := 2 }] : Array MapEntry) 3) HM.out); have HS9n := Aside0.mk (HS9.out.ins (Obj.map (#[{ key := .int .i64 5, val := .string ⟨#[42]⟩, born := 0 }, { key := .int .i64 6, val := .string ⟨#[43]⟩, born := 1 }, { key := .int .i64 7, val := .string ⟨#[63]⟩, born := 2 }] : Array MapEntry) 3) HM.out HW.out); clear HS9 HM hI9; have HS9 := HS9n; have HM := HMn; clear HS9n HMn; refine hK9 _ _ HS9.out.s ?_; clear hK9 K9; generalize hY9 : mapIn Y2 M9 _ = Y3 at HM HS9 ⊢
                               clear hY9; refine anyS_take (i := 13) (oi := O9_13) (v := ?vvq147_) rfl (by kernel_rfl) (by kernel_rfl) (by kernel_rfl) (by kernel_rfl) (fun _ _ _ h => h) (Or.inl ⟨by rfl, ?yyq147_⟩) ?ssq147_ ?rrq147_
                               case yyq147_ => intro w9 _; go_simp; try (with_reducible rfl)
                               case ssq147_ => exact HS9.out.s
                               refine anyS_ready [8, 16] (by kernel_rfl) (by simp) (allS_cons (o := O9_8) rfl (fun K9 hK9 => ?pq148_) (allS_cons (o := O9_16) rfl (fun K9 hK9 => ?pq149_) allS_nil))
                               case pq148_ =>
                                go_simp
                                go_wp2_with (first | (go_at_call 15; (with_reducible refine (regex_shown_in.calls _ _ _ x _ HXX.out).mono ?_); rintro e' w1 ⟨rfl, hb⟩))
                                have HS9n := Aside0.mk (HS9.out.call hb); have HMn := Aside0.mk (blk_below HM.out hb); clear HM; have HM := HMn; clear HMn; clear HS9; have HS9 := HS9n; clear HS9n hb; refine hK9 _ _ HS9.out.s ?_; clear hK9 K9; refine anyS_ready [16] (by kernel_rfl) (by simp) (allS_cons (o := O9_16) rfl (fun K9 hK9 => ?pq151_) allS_nil)
                                case pq151_ =>
                                 have hI9 := look9s w1 M9 (#[{ key := .int .i64 5, val := .string ⟨#[42]⟩, born := 0 }, { key := .int .i64 6, val := .string ⟨#[43]⟩, born := 1 }, { key := .int .i64 7, val := .string ⟨#[63]⟩, born := 2 }] : Array MapEntry) 3 (rd_T40 l0 i).f0 (.string SY) HM.out (by rw [← hsy]; unfold regex_Show.sym; rcases ho with h | h | h <;> rw [h] <;> exact ⟨_, rfl⟩); go_simp; refine hK9 _ _ HS9.out.s ?_; clear hK9 K9 hI9; exact anyS_at (by kernel_rfl) (by kernel_rfl) (tail9 M9 w1 HS9)
                               case pq149_ =>
                                have hI9 := look9s Y3 M9 (#[{ key := .int .i64 5, val := .string ⟨#[42]⟩, born := 0 }, { key := .int .i64 6, val := .string ⟨#[43]⟩, born := 1 }, { key := .int .i64 7, val := .string ⟨#[63]⟩, born := 2 }] : Array MapEntry) 3 (rd_T40 l0 i).f0 (.string SY) HM.out (by rw [← hsy]; unfold regex_Show.sym; rcases ho with h | h | h <;> rw [h] <;> exact ⟨_, rfl⟩); go_simp; refine hK9 _ _ HS9.out.s ?_; clear hK9 K9 hI9; refine anyS_ready [8] (by kernel_rfl) (by simp) (allS_cons (o := O9_8) rfl (fun K9 hK9 => ?pq154_) allS_nil)
                                case pq154_ =>
                                 go_simp
                                 go_wp2_with (first | (go_at_call 15; (with_reducible refine (regex_shown_in.calls _ _ _ x _ HXX.out).mono ?_); rintro e' w1 ⟨rfl, hb⟩))
                                 have HS9n := Aside0.mk (HS9.out.call hb); have HMn := Aside0.mk (blk_below HM.out hb); clear HM; have HM := HMn; clear HMn; clear HS9; have HS9 := HS9n; clear HS9n hb; refine hK9 _ _ HS9.out.s ?_; clear hK9 K9; exact anyS_at (by kernel_rfl) (by kernel_rfl) (tail9 M9 w1 HS9)
                             case pq121_ =>
                              have hI9 := ins9 Y1 M9 (#[{ key := .int .i64 5, val := .string ⟨#[42]⟩, born := 0 }] : Array MapEntry) 1 7 (.string ⟨#[63]⟩) HM.out rfl; go_simp; have HMn := Aside0.mk (mapIn_at (o' := Obj.map (#[{ key := .int .i64 5, val := .string ⟨#[42]⟩, born := 0 }, { key := .int .i64 7, val := .string ⟨#[63]⟩, born := 1 }] : Array MapEntry) 2) HM.out); have HS9n := Aside0.mk (HS9.out.ins (Obj.map (#[{ key := .int .i64 5, val := .string ⟨#[42]⟩, born := 0 }, { key := .int .i64 7, val := .string ⟨#[63]⟩, born := 1 }] : Array MapEntry) 2) HM.out HW.out); clear HS9 HM hI9; have HS9 := HS9n; have HM := HMn; clear HS9n HMn; refine hK9 _ _ HS9.out.s ?_; clear hK9 K9; generalize hY9 : mapIn Y1 M9 _ = Y2 at HM HS9 ⊢; clear hY9; refine anyS_ready [8, 11] (by kernel_rfl) (by simp) (allS_cons (o := O9_8) rfl (fun K9 hK9 => ?pq157_) (allS_cons (o := O9_11) rfl (fun K9 hK9 => ?pq158_) allS_nil))
                              case pq157_ =>
                               go_simp
                               go_wp2_with (first | (go_at_call 15; (with_reducible refine (regex_shown_in.calls _ _ _ x _ HXX.out).mono ?_); rintro e' w1 ⟨rfl, hb⟩))
                               have HS9n := Aside0.mk (HS9.out.call hb); have HMn := Aside0.mk (blk_below HM.out hb); clear HM; have HM := HMn; clear HMn; clear HS9; have HS9 := HS9n; clear HS9n hb; refine hK9 _ _ HS9.out.s ?_; clear hK9 K9; refine anyS_ready [11] (by kernel_rfl) (by simp) (allS_cons (o := O9_11) rfl (fun K9 hK9 => ?pq160_) allS_nil)
                               case pq160_ =>
                                have hI9 := ins9 w1 M9 (#[{ key := .int .i64 5, val := .string ⟨#[42]⟩, born := 0 }, { key := .int .i64 7, val := .string ⟨#[63]⟩, born := 1 }] : Array MapEntry) 2 6 (.string ⟨#[43]⟩) HM.out rfl; go_simp; have HMn := Aside0.mk (mapIn_at (o' := Obj.map (#[{ key := .int .i64 5, val := .string ⟨#[42]⟩, born := 0 }, { key := .int .i64 7, val := .string ⟨#[63]⟩, born := 1 }, { key := .int .i64 6, val := .string ⟨#[43]⟩, born := 2 }] : Array MapEntry) 3) HM.out); have HS9n := Aside0.mk (HS9.out.ins (Obj.map (#[{ key := .int .i64 5, val := .string ⟨#[42]⟩, born := 0 }, { key := .int .i64 7, val := .string ⟨#[63]⟩, born := 1 }, { key := .int .i64 6, val := .string ⟨#[43]⟩, born := 2 }] : Array MapEntry) 3) HM.out HW.out); clear HS9 HM hI9; have HS9 := HS9n; have HM := HMn; clear HS9n HMn; refine hK9 _ _ HS9.out.s ?_; clear hK9 K9; generalize hY9 : mapIn w1 M9 _ = Y3 at HM HS9 ⊢
                                clear hY9; refine anyS_take (i := 13) (oi := O9_13) (v := ?vvq162_) rfl (by kernel_rfl) (by kernel_rfl) (by kernel_rfl) (by kernel_rfl) (fun _ _ _ h => h) (Or.inl ⟨by rfl, ?yyq162_⟩) ?ssq162_ ?rrq162_
                                case yyq162_ => intro w9 _; go_simp; try (with_reducible rfl)
                                case ssq162_ => exact HS9.out.s
                                refine anyS_ready [16] (by kernel_rfl) (by simp) (allS_cons (o := O9_16) rfl (fun K9 hK9 => ?pq163_) allS_nil)
                                case pq163_ =>
                                 have hI9 := look9s Y3 M9 (#[{ key := .int .i64 5, val := .string ⟨#[42]⟩, born := 0 }, { key := .int .i64 7, val := .string ⟨#[63]⟩, born := 1 }, { key := .int .i64 6, val := .string ⟨#[43]⟩, born := 2 }] : Array MapEntry) 3 (rd_T40 l0 i).f0 (.string SY) HM.out (by rw [← hsy]; unfold regex_Show.sym; rcases ho with h | h | h <;> rw [h] <;> exact ⟨_, rfl⟩); go_simp; refine hK9 _ _ HS9.out.s ?_; clear hK9 K9 hI9; exact anyS_at (by kernel_rfl) (by kernel_rfl) (tail9 M9 Y3 HS9)
                              case pq158_ =>
                               have hI9 := ins9 Y2 M9 (#[{ key := .int .i64 5, val := .string ⟨#[42]⟩, born := 0 }, { key := .int .i64 7, val := .string ⟨#[63]⟩, born := 1 }] : Array MapEntry) 2 6 (.string ⟨#[43]⟩) HM.out rfl; go_simp; have HMn := Aside0.mk (mapIn_at (o' := Obj.map (#[{ key := .int .i64 5, val := .string ⟨#[42]⟩, born := 0 }, { key := .int .i64 7, val := .string ⟨#[63]⟩, born := 1 }, { key := .int .i64 6, val := .string ⟨#[43]⟩, born := 2 }] : Array MapEntry) 3) HM.out); have HS9n := Aside0.mk (HS9.out.ins (Obj.map (#[{ key := .int .i64 5, val := .string ⟨#[42]⟩, born := 0 }, { key := .int .i64 7, val := .string ⟨#[63]⟩, born := 1 }, { key := .int .i64 6, val := .string ⟨#[43]⟩, born := 2 }] : Array MapEntry) 3) HM.out HW.out); clear HS9 HM hI9; have HS9 := HS9n; have HM := HMn; clear HS9n HMn; refine hK9 _ _ HS9.out.s ?_; clear hK9 K9; generalize hY9 : mapIn Y2 M9 _ = Y3 at HM HS9 ⊢
                               clear hY9; refine anyS_take (i := 13) (oi := O9_13) (v := ?vvq166_) rfl (by kernel_rfl) (by kernel_rfl) (by kernel_rfl) (by kernel_rfl) (fun _ _ _ h => h) (Or.inl ⟨by rfl, ?yyq166_⟩) ?ssq166_ ?rrq166_
                               case yyq166_ => intro w9 _; go_simp; try (with_reducible rfl)
                               case ssq166_ => exact HS9.out.s
                               refine anyS_ready [8, 16] (by kernel_rfl) (by simp) (allS_cons (o := O9_8) rfl (fun K9 hK9 => ?pq167_) (allS_cons (o := O9_16) rfl (fun K9 hK9 => ?pq168_) allS_nil))
                               case pq167_ =>
                                go_simp
                                go_wp2_with (first | (go_at_call 15; (with_reducible refine (regex_shown_in.calls _ _ _ x _ HXX.out).mono ?_); rintro e' w1 ⟨rfl, hb⟩))
                                have HS9n := Aside0.mk (HS9.out.call hb); have HMn := Aside0.mk (blk_below HM.out hb); clear HM; have HM := HMn; clear HMn; clear HS9; have HS9 := HS9n; clear HS9n hb; refine hK9 _ _ HS9.out.s ?_; clear hK9 K9; refine anyS_ready [16] (by kernel_rfl) (by simp) (allS_cons (o := O9_16) rfl (fun K9 hK9 => ?pq170_) allS_nil)
                                case pq170_ =>
                                 have hI9 := look9s w1 M9 (#[{ key := .int .i64 5, val := .string ⟨#[42]⟩, born := 0 }, { key := .int .i64 7, val := .string ⟨#[63]⟩, born := 1 }, { key := .int .i64 6, val := .string ⟨#[43]⟩, born := 2 }] : Array MapEntry) 3 (rd_T40 l0 i).f0 (.string SY) HM.out (by rw [← hsy]; unfold regex_Show.sym; rcases ho with h | h | h <;> rw [h] <;> exact ⟨_, rfl⟩); go_simp; refine hK9 _ _ HS9.out.s ?_; clear hK9 K9 hI9; exact anyS_at (by kernel_rfl) (by kernel_rfl) (tail9 M9 w1 HS9)
                               case pq168_ =>
                                have hI9 := look9s Y3 M9 (#[{ key := .int .i64 5, val := .string ⟨#[42]⟩, born := 0 }, { key := .int .i64 7, val := .string ⟨#[63]⟩, born := 1 }, { key := .int .i64 6, val := .string ⟨#[43]⟩, born := 2 }] : Array MapEntry) 3 (rd_T40 l0 i).f0 (.string SY) HM.out (by rw [← hsy]; unfold regex_Show.sym; rcases ho with h | h | h <;> rw [h] <;> exact ⟨_, rfl⟩); go_simp; refine hK9 _ _ HS9.out.s ?_; clear hK9 K9 hI9; refine anyS_ready [8] (by kernel_rfl) (by simp) (allS_cons (o := O9_8) rfl (fun K9 hK9 => ?pq173_) allS_nil)
                                case pq173_ =>
                                 go_simp
                                 go_wp2_with (first | (go_at_call 15; (with_reducible refine (regex_shown_in.calls _ _ _ x _ HXX.out).mono ?_); rintro e' w1 ⟨rfl, hb⟩))
                                 have HS9n := Aside0.mk (HS9.out.call hb); have HMn := Aside0.mk (blk_below HM.out hb); clear HM; have HM := HMn; clear HMn; clear HS9; have HS9 := HS9n; clear HS9n hb; refine hK9 _ _ HS9.out.s ?_; clear hK9 K9; exact anyS_at (by kernel_rfl) (by kernel_rfl) (tail9 M9 w1 HS9)
                            case pq67_ =>
                             have hI9 := ins9 X9 M9 (#[] : Array MapEntry) 0 6 (.string ⟨#[43]⟩) HM.out rfl; go_simp; have HMn := Aside0.mk (mapIn_at (o' := Obj.map (#[{ key := .int .i64 6, val := .string ⟨#[43]⟩, born := 0 }] : Array MapEntry) 1) HM.out); have HS9n := Aside0.mk (HS9.out.ins (Obj.map (#[{ key := .int .i64 6, val := .string ⟨#[43]⟩, born := 0 }] : Array MapEntry) 1) HM.out HW.out); clear HS9 HM hI9; have HS9 := HS9n; have HM := HMn; clear HS9n HMn; refine hK9 _ _ HS9.out.s ?_; clear hK9 K9; generalize hY9 : mapIn X9 M9 _ = Y1 at HM HS9 ⊢; clear hY9; refine anyS_ready [8, 10, 12] (by kernel_rfl) (by simp) (allS_cons (o := O9_8) rfl (fun K9 hK9 => ?pq176_) (allS_cons (o := O9_10) rfl (fun K9 hK9 => ?pq177_) (allS_cons (o := O9_12) rfl (fun K9 hK9 => ?pq178_) allS_nil)))
                             case pq176_ =>
                              go_simp
                              go_wp2_with (first | (go_at_call 15; (with_reducible refine (regex_shown_in.calls _ _ _ x _ HXX.out).mono ?_); rintro e' w1 ⟨rfl, hb⟩))
                              have HS9n := Aside0.mk (HS9.out.call hb); have HMn := Aside0.mk (blk_below HM.out hb); clear HM; have HM := HMn; clear HMn; clear HS9; have HS9 := HS9n; clear HS9n hb; refine hK9 _ _ HS9.out.s ?_; clear hK9 K9; refine anyS_ready [10, 12] (by kernel_rfl) (by simp) (allS_cons (o := O9_10) rfl (fun K9 hK9 => ?pq180_) (allS_cons (o := O9_12) rfl (fun K9 hK9 => ?pq181_) allS_nil))
                              case pq180_ =>
                               have hI9 := ins9 w1 M9 (#[{ key := .int .i64 6, val := .string ⟨#[43]⟩, born := 0 }] : Array MapEntry) 1 5 (.string ⟨#[42]⟩) HM.out rfl; go_simp; have HMn := Aside0.mk (mapIn_at (o' := Obj.map (#[{ key := .int .i64 6, val := .string ⟨#[43]⟩, born := 0 }, { key := .int .i64 5, val := .string ⟨#[42]⟩, born := 1 }] : Array MapEntry) 2) HM.out); have HS9n := Aside0.mk (HS9.out.ins (Obj.map (#[{ key := .int .i64 6, val := .string ⟨#[43]⟩, born := 0 }, { key := .int .i64 5, val := .string ⟨#[42]⟩, born := 1 }] : Array MapEntry) 2) HM.out HW.out); clear HS9 HM hI9; have HS9 := HS9n; have HM := HMn; clear HS9n HMn; refine hK9 _ _ HS9.out.s ?_; clear hK9 K9; generalize hY9 : mapIn w1 M9 _ = Y2 at HM HS9 ⊢; clear hY9; refine anyS_ready [12] (by kernel_rfl) (by simp) (allS_cons (o := O9_12) rfl (fun K9 hK9 => ?pq183_) allS_nil)
                               case pq183_ =>
                                have hI9 := ins9 Y2 M9 (#[{ key := .int .i64 6, val := .string ⟨#[43]⟩, born := 0 }, { key := .int .i64 5, val := .string ⟨#[42]⟩, born := 1 }] : Array MapEntry) 2 7 (.string ⟨#[63]⟩) HM.out rfl; go_simp; have HMn := Aside0.mk (mapIn_at (o' := Obj.map (#[{ key := .int .i64 6, val := .string ⟨#[43]⟩, born := 0 }, { key := .int .i64 5, val := .string ⟨#[42]⟩, born := 1 }, { key := .int .i64 7, val := .string ⟨#[63]⟩, born := 2 }] : Array MapEntry) 3) HM.out); have HS9n := Aside0.mk (HS9.out.ins (Obj.map (#[{ key := .int .i64 6, val := .string ⟨#[43]⟩, born := 0 }, { key := .int .i64 5, val := .string ⟨#[42]⟩, born := 1 }, { key := .int .i64 7, val := .string ⟨#[63]⟩, born := 2 }] : Array MapEntry) 3) HM.out HW.out); clear HS9 HM hI9; have HS9 := HS9n; have HM := HMn; clear HS9n HMn; refine hK9 _ _ HS9.out.s ?_; clear hK9 K9; generalize hY9 : mapIn Y2 M9 _ = Y3 at HM HS9 ⊢
                                clear hY9; refine anyS_take (i := 13) (oi := O9_13) (v := ?vvq185_) rfl (by kernel_rfl) (by kernel_rfl) (by kernel_rfl) (by kernel_rfl) (fun _ _ _ h => h) (Or.inl ⟨by rfl, ?yyq185_⟩) ?ssq185_ ?rrq185_
                                case yyq185_ => intro w9 _; go_simp; try (with_reducible rfl)
                                case ssq185_ => exact HS9.out.s
                                refine anyS_ready [16] (by kernel_rfl) (by simp) (allS_cons (o := O9_16) rfl (fun K9 hK9 => ?pq186_) allS_nil)
                                case pq186_ =>
                                 have hI9 := look9s Y3 M9 (#[{ key := .int .i64 6, val := .string ⟨#[43]⟩, born := 0 }, { key := .int .i64 5, val := .string ⟨#[42]⟩, born := 1 }, { key := .int .i64 7, val := .string ⟨#[63]⟩, born := 2 }] : Array MapEntry) 3 (rd_T40 l0 i).f0 (.string SY) HM.out (by rw [← hsy]; unfold regex_Show.sym; rcases ho with h | h | h <;> rw [h] <;> exact ⟨_, rfl⟩); go_simp; refine hK9 _ _ HS9.out.s ?_; clear hK9 K9 hI9; exact anyS_at (by kernel_rfl) (by kernel_rfl) (tail9 M9 Y3 HS9)
                              case pq181_ =>
                               have hI9 := ins9 w1 M9 (#[{ key := .int .i64 6, val := .string ⟨#[43]⟩, born := 0 }] : Array MapEntry) 1 7 (.string ⟨#[63]⟩) HM.out rfl; go_simp; have HMn := Aside0.mk (mapIn_at (o' := Obj.map (#[{ key := .int .i64 6, val := .string ⟨#[43]⟩, born := 0 }, { key := .int .i64 7, val := .string ⟨#[63]⟩, born := 1 }] : Array MapEntry) 2) HM.out); have HS9n := Aside0.mk (HS9.out.ins (Obj.map (#[{ key := .int .i64 6, val := .string ⟨#[43]⟩, born := 0 }, { key := .int .i64 7, val := .string ⟨#[63]⟩, born := 1 }] : Array MapEntry) 2) HM.out HW.out); clear HS9 HM hI9; have HS9 := HS9n; have HM := HMn; clear HS9n HMn; refine hK9 _ _ HS9.out.s ?_; clear hK9 K9; generalize hY9 : mapIn w1 M9 _ = Y2 at HM HS9 ⊢; clear hY9; refine anyS_ready [10] (by kernel_rfl) (by simp) (allS_cons (o := O9_10) rfl (fun K9 hK9 => ?pq189_) allS_nil)
                               case pq189_ =>
                                have hI9 := ins9 Y2 M9 (#[{ key := .int .i64 6, val := .string ⟨#[43]⟩, born := 0 }, { key := .int .i64 7, val := .string ⟨#[63]⟩, born := 1 }] : Array MapEntry) 2 5 (.string ⟨#[42]⟩) HM.out rfl; go_simp; have HMn := Aside0.mk (mapIn_at (o' := Obj.map (#[{ key := .int .i64 6, val := .string ⟨#[43]⟩, born := 0 }, { key := .int .i64 7, val := .string ⟨#[63]⟩, born := 1 }, { key := .int .i64 5, val := .string ⟨#[42]⟩, born := 2 }] : Array MapEntry) 3) HM.out); have HS9n := Aside0.mk (HS9.out.ins (Obj.map (#[{ key := .int .i64 6, val := .string ⟨#[43]⟩, born := 0 }, { key := .int .i64 7, val := .string ⟨#[63]⟩, born := 1 }, { key := .int .i64 5, val := .string ⟨#[42]⟩, born := 2 }] : Array MapEntry) 3) HM.out HW.out); clear HS9 HM hI9; have HS9 := HS9n; have HM := HMn; clear HS9n HMn; refine hK9 _ _ HS9.out.s ?_; clear hK9 K9; generalize hY9 : mapIn Y2 M9 _ = Y3 at HM HS9 ⊢
                                clear hY9; refine anyS_take (i := 13) (oi := O9_13) (v := ?vvq191_) rfl (by kernel_rfl) (by kernel_rfl) (by kernel_rfl) (by kernel_rfl) (fun _ _ _ h => h) (Or.inl ⟨by rfl, ?yyq191_⟩) ?ssq191_ ?rrq191_
                                case yyq191_ => intro w9 _; go_simp; try (with_reducible rfl)
                                case ssq191_ => exact HS9.out.s
                                refine anyS_ready [16] (by kernel_rfl) (by simp) (allS_cons (o := O9_16) rfl (fun K9 hK9 => ?pq192_) allS_nil)
                                case pq192_ =>
                                 have hI9 := look9s Y3 M9 (#[{ key := .int .i64 6, val := .string ⟨#[43]⟩, born := 0 }, { key := .int .i64 7, val := .string ⟨#[63]⟩, born := 1 }, { key := .int .i64 5, val := .string ⟨#[42]⟩, born := 2 }] : Array MapEntry) 3 (rd_T40 l0 i).f0 (.string SY) HM.out (by rw [← hsy]; unfold regex_Show.sym; rcases ho with h | h | h <;> rw [h] <;> exact ⟨_, rfl⟩); go_simp; refine hK9 _ _ HS9.out.s ?_; clear hK9 K9 hI9; exact anyS_at (by kernel_rfl) (by kernel_rfl) (tail9 M9 Y3 HS9)
                             case pq177_ =>
                              have hI9 := ins9 Y1 M9 (#[{ key := .int .i64 6, val := .string ⟨#[43]⟩, born := 0 }] : Array MapEntry) 1 5 (.string ⟨#[42]⟩) HM.out rfl; go_simp; have HMn := Aside0.mk (mapIn_at (o' := Obj.map (#[{ key := .int .i64 6, val := .string ⟨#[43]⟩, born := 0 }, { key := .int .i64 5, val := .string ⟨#[42]⟩, born := 1 }] : Array MapEntry) 2) HM.out); have HS9n := Aside0.mk (HS9.out.ins (Obj.map (#[{ key := .int .i64 6, val := .string ⟨#[43]⟩, born := 0 }, { key := .int .i64 5, val := .string ⟨#[42]⟩, born := 1 }] : Array MapEntry) 2) HM.out HW.out); clear HS9 HM hI9; have HS9 := HS9n; have HM := HMn; clear HS9n HMn; refine hK9 _ _ HS9.out.s ?_; clear hK9 K9; generalize hY9 : mapIn Y1 M9 _ = Y2 at HM HS9 ⊢; clear hY9; refine anyS_ready [8, 12] (by kernel_rfl) (by simp) (allS_cons (o := O9_8) rfl (fun K9 hK9 => ?pq195_) (allS_cons (o := O9_12) rfl (fun K9 hK9 => ?pq196_) allS_nil))
                              case pq195_ =>
                               go_simp
                               go_wp2_with (first | (go_at_call 15; (with_reducible refine (regex_shown_in.calls _ _ _ x _ HXX.out).mono ?_); rintro e' w1 ⟨rfl, hb⟩))
                               have HS9n := Aside0.mk (HS9.out.call hb); have HMn := Aside0.mk (blk_below HM.out hb); clear HM; have HM := HMn; clear HMn; clear HS9; have HS9 := HS9n; clear HS9n hb; refine hK9 _ _ HS9.out.s ?_; clear hK9 K9; refine anyS_ready [12] (by kernel_rfl) (by simp) (allS_cons (o := O9_12) rfl (fun K9 hK9 => ?pq198_) allS_nil)
                               case pq198_ =>
                                have hI9 := ins9 w1 M9 (#[{ key := .int .i64 6, val := .string ⟨#[43]⟩, born := 0 }, { key := .int .i64 5, val := .string ⟨#[42]⟩, born := 1 }] : Array MapEntry) 2 7 (.string ⟨#[63]⟩) HM.out rfl; go_simp; have HMn := Aside0.mk (mapIn_at (o' := Obj.map (#[{ key := .int .i64 6, val := .string ⟨#[43]⟩, born := 0 }, { key := .int .i64 5, val := .string ⟨#[42]⟩, born := 1 }, { key := .int .i64 7, val := .string ⟨#[63]⟩, born := 2 }] : Array MapEntry) 3) HM.out); have HS9n := Aside0.mk (HS9.out.ins (Obj.map (#[{ key := .int .i64 6, val := .string ⟨#[43]⟩, born := 0 }, { key := .int .i64 5, val := .string ⟨#[42]⟩, born := 1 }, { key := .int .i64 7, val := .string ⟨#[63]⟩, born := 2 }] : Array MapEntry) 3) HM.out HW.out); clear HS9 HM hI9; have HS9 := HS9n; have HM := HMn; clear HS9n HMn; refine hK9 _ _ HS9.out.s ?_; clear hK9 K9; generalize hY9 : mapIn w1 M9 _ = Y3 at HM HS9 ⊢
                                clear hY9; refine anyS_take (i := 13) (oi := O9_13) (v := ?vvq200_) rfl (by kernel_rfl) (by kernel_rfl) (by kernel_rfl) (by kernel_rfl) (fun _ _ _ h => h) (Or.inl ⟨by rfl, ?yyq200_⟩) ?ssq200_ ?rrq200_
                                case yyq200_ => intro w9 _; go_simp; try (with_reducible rfl)
                                case ssq200_ => exact HS9.out.s
                                refine anyS_ready [16] (by kernel_rfl) (by simp) (allS_cons (o := O9_16) rfl (fun K9 hK9 => ?pq201_) allS_nil)
                                case pq201_ =>
                                 have hI9 := look9s Y3 M9 (#[{ key := .int .i64 6, val := .string ⟨#[43]⟩, born := 0 }, { key := .int .i64 5, val := .string ⟨#[42]⟩, born := 1 }, { key := .int .i64 7, val := .string ⟨#[63]⟩, born := 2 }] : Array MapEntry) 3 (rd_T40 l0 i).f0 (.string SY) HM.out (by rw [← hsy]; unfold regex_Show.sym; rcases ho with h | h | h <;> rw [h] <;> exact ⟨_, rfl⟩); go_simp; refine hK9 _ _ HS9.out.s ?_; clear hK9 K9 hI9; exact anyS_at (by kernel_rfl) (by kernel_rfl) (tail9 M9 Y3 HS9)
                              case pq196_ =>
                               have hI9 := ins9 Y2 M9 (#[{ key := .int .i64 6, val := .string ⟨#[43]⟩, born := 0 }, { key := .int .i64 5, val := .string ⟨#[42]⟩, born := 1 }] : Array MapEntry) 2 7 (.string ⟨#[63]⟩) HM.out rfl; go_simp; have HMn := Aside0.mk (mapIn_at (o' := Obj.map (#[{ key := .int .i64 6, val := .string ⟨#[43]⟩, born := 0 }, { key := .int .i64 5, val := .string ⟨#[42]⟩, born := 1 }, { key := .int .i64 7, val := .string ⟨#[63]⟩, born := 2 }] : Array MapEntry) 3) HM.out); have HS9n := Aside0.mk (HS9.out.ins (Obj.map (#[{ key := .int .i64 6, val := .string ⟨#[43]⟩, born := 0 }, { key := .int .i64 5, val := .string ⟨#[42]⟩, born := 1 }, { key := .int .i64 7, val := .string ⟨#[63]⟩, born := 2 }] : Array MapEntry) 3) HM.out HW.out); clear HS9 HM hI9; have HS9 := HS9n; have HM := HMn; clear HS9n HMn; refine hK9 _ _ HS9.out.s ?_; clear hK9 K9; generalize hY9 : mapIn Y2 M9 _ = Y3 at HM HS9 ⊢
                               clear hY9; refine anyS_take (i := 13) (oi := O9_13) (v := ?vvq204_) rfl (by kernel_rfl) (by kernel_rfl) (by kernel_rfl) (by kernel_rfl) (fun _ _ _ h => h) (Or.inl ⟨by rfl, ?yyq204_⟩) ?ssq204_ ?rrq204_
                               case yyq204_ => intro w9 _; go_simp; try (with_reducible rfl)
                               case ssq204_ => exact HS9.out.s
                               refine anyS_ready [8, 16] (by kernel_rfl) (by simp) (allS_cons (o := O9_8) rfl (fun K9 hK9 => ?pq205_) (allS_cons (o := O9_16) rfl (fun K9 hK9 => ?pq206_) allS_nil))
                               case pq205_ =>
                                go_simp
                                go_wp2_with (first | (go_at_call 15; (with_reducible refine (regex_shown_in.calls _ _ _ x _ HXX.out).mono ?_); rintro e' w1 ⟨rfl, hb⟩))
                                have HS9n := Aside0.mk (HS9.out.call hb); have HMn := Aside0.mk (blk_below HM.out hb); clear HM; have HM := HMn; clear HMn; clear HS9; have HS9 := HS9n; clear HS9n hb; refine hK9 _ _ HS9.out.s ?_; clear hK9 K9; refine anyS_ready [16] (by kernel_rfl) (by simp) (allS_cons (o := O9_16) rfl (fun K9 hK9 => ?pq208_) allS_nil)
                                case pq208_ =>
                                 have hI9 := look9s w1 M9 (#[{ key := .int .i64 6, val := .string ⟨#[43]⟩, born := 0 }, { key := .int .i64 5, val := .string ⟨#[42]⟩, born := 1 }, { key := .int .i64 7, val := .string ⟨#[63]⟩, born := 2 }] : Array MapEntry) 3 (rd_T40 l0 i).f0 (.string SY) HM.out (by rw [← hsy]; unfold regex_Show.sym; rcases ho with h | h | h <;> rw [h] <;> exact ⟨_, rfl⟩); go_simp; refine hK9 _ _ HS9.out.s ?_; clear hK9 K9 hI9; exact anyS_at (by kernel_rfl) (by kernel_rfl) (tail9 M9 w1 HS9)
                               case pq206_ =>
                                have hI9 := look9s Y3 M9 (#[{ key := .int .i64 6, val := .string ⟨#[43]⟩, born := 0 }, { key := .int .i64 5, val := .string ⟨#[42]⟩, born := 1 }, { key := .int .i64 7, val := .string ⟨#[63]⟩, born := 2 }] : Array MapEntry) 3 (rd_T40 l0 i).f0 (.string SY) HM.out (by rw [← hsy]; unfold regex_Show.sym; rcases ho with h | h | h <;> rw [h] <;> exact ⟨_, rfl⟩); go_simp; refine hK9 _ _ HS9.out.s ?_; clear hK9 K9 hI9; refine anyS_ready [8] (by kernel_rfl) (by simp) (allS_cons (o := O9_8) rfl (fun K9 hK9 => ?pq211_) allS_nil)
                                case pq211_ =>
                                 go_simp
                                 go_wp2_with (first | (go_at_call 15; (with_reducible refine (regex_shown_in.calls _ _ _ x _ HXX.out).mono ?_); rintro e' w1 ⟨rfl, hb⟩))
                                 have HS9n := Aside0.mk (HS9.out.call hb); have HMn := Aside0.mk (blk_below HM.out hb); clear HM; have HM := HMn; clear HMn; clear HS9; have HS9 := HS9n; clear HS9n hb; refine hK9 _ _ HS9.out.s ?_; clear hK9 K9; exact anyS_at (by kernel_rfl) (by kernel_rfl) (tail9 M9 w1 HS9)
                             case pq178_ =>
                              have hI9 := ins9 Y1 M9 (#[{ key := .int .i64 6, val := .string ⟨#[43]⟩, born := 0 }] : Array MapEntry) 1 7 (.string ⟨#[63]⟩) HM.out rfl; go_simp; have HMn := Aside0.mk (mapIn_at (o' := Obj.map (#[{ key := .int .i64 6, val := .string ⟨#[43]⟩, born := 0 }, { key := .int .i64 7, val := .string ⟨#[63]⟩, born := 1 }] : Array MapEntry) 2) HM.out); have HS9n := Aside0.mk (HS9.out.ins (Obj.map (#[{ key := .int .i64 6, val := .string ⟨#[43]⟩, born := 0 }, { key := .int .i64 7, val := .string ⟨#[63]⟩, born := 1 }] : Array MapEntry) 2) HM.out HW.out); clear HS9 HM hI9; have HS9 := HS9n; have HM := HMn; clear HS9n HMn; refine hK9 _ _ HS9.out.s ?_; clear hK9 K9; generalize hY9 : mapIn Y1 M9 _ = Y2 at HM HS9 ⊢; clear hY9; refine anyS_ready [8, 10] (by kernel_rfl) (by simp) (allS_cons (o := O9_8) rfl (fun K9 hK9 => ?pq214_) (allS_cons (o := O9_10) rfl (fun K9 hK9 => ?pq215_) allS_nil))
                              case pq214_ =>
                               go_simp
                               go_wp2_with (first | (go_at_call 15; (with_reducible refine (regex_shown_in.calls _ _ _ x _ HXX.out).mono ?_); rintro e' w1 ⟨rfl, hb⟩))
                               have HS9n := Aside0.mk (HS9.out.call hb); have HMn := Aside0.mk (blk_below HM.out hb); clear HM; have HM := HMn; clear HMn; clear HS9; have HS9 := HS9n; clear HS9n hb; refine hK9 _ _ HS9.out.s ?_; clear hK9 K9; refine anyS_ready [10] (by kernel_rfl) (by simp) (allS_cons (o := O9_10) rfl (fun K9 hK9 => ?pq217_) allS_nil)
                               case pq217_ =>
                                have hI9 := ins9 w1 M9 (#[{ key := .int .i64 6, val := .string ⟨#[43]⟩, born := 0 }, { key := .int .i64 7, val := .string ⟨#[63]⟩, born := 1 }] : Array MapEntry) 2 5 (.string ⟨#[42]⟩) HM.out rfl; go_simp; have HMn := Aside0.mk (mapIn_at (o' := Obj.map (#[{ key := .int .i64 6, val := .string ⟨#[43]⟩, born := 0 }, { key := .int .i64 7, val := .string ⟨#[63]⟩, born := 1 }, { key := .int .i64 5, val := .string ⟨#[42]⟩, born := 2 }] : Array MapEntry) 3) HM.out); have HS9n := Aside0.mk (HS9.out.ins (Obj.map (#[{ key := .int .i64 6, val := .string ⟨#[43]⟩, born := 0 }, { key := .int .i64 7, val := .string ⟨#[63]⟩, born := 1 }, { key := .int .i64 5, val := .string ⟨#[42]⟩, born := 2 }] : Array MapEntry) 3) HM.out HW.out); clear HS9 HM hI9; have HS9 := HS9n; have HM := HMn; clear HS9n HMn; refine hK9 _ _ HS9.out.s ?_; clear hK9 K9; generalize hY9 : mapIn w1 M9 _ = Y3 at HM HS9 ⊢
                                clear hY9; refine anyS_take (i := 13) (oi := O9_13) (v := ?vvq219_) rfl (by kernel_rfl) (by kernel_rfl) (by kernel_rfl) (by kernel_rfl) (fun _ _ _ h => h) (Or.inl ⟨by rfl, ?yyq219_⟩) ?ssq219_ ?rrq219_
                                case yyq219_ => intro w9 _; go_simp; try (with_reducible rfl)
                                case ssq219_ => exact HS9.out.s
                                refine anyS_ready [16] (by kernel_rfl) (by simp) (allS_cons (o := O9_16) rfl (fun K9 hK9 => ?pq220_) allS_nil)
                                case pq220_ =>
                                 have hI9 := look9s Y3 M9 (#[{ key := .int .i64 6, val := .string ⟨#[43]⟩, born := 0 }, { key := .int .i64 7, val := .string ⟨#[63]⟩, born := 1 }, { key := .int .i64 5, val := .string ⟨#[42]⟩, born := 2 }] : Array MapEntry) 3 (rd_T40 l0 i).f0 (.string SY) HM.out (by rw [← hsy]; unfold regex_Show.sym; rcases ho with h | h | h <;> rw [h] <;> exact ⟨_, rfl⟩); go_simp; refine hK9 _ _ HS9.out.s ?_; clear hK9 K9 hI9; exact anyS_at (by kernel_rfl) (by kernel_rfl) (tail9 M9 Y3 HS9)
                              case pq215_ =>
                               have hI9 := ins9 Y2 M9 (#[{ key := .int .i64 6, val := .string ⟨#[43]⟩, born := 0 }, { key := .int .i64 7, val := .string ⟨#[63]⟩, born := 1 }] : Array MapEntry) 2 5 (.string ⟨#[42]⟩) HM.out rfl; go_simp; have HMn := Aside0.mk (mapIn_at (o' := Obj.map (#[{ key := .int .i64 6, val := .string ⟨#[43]⟩, born := 0 }, { key := .int .i64 7, val := .string ⟨#[63]⟩, born := 1 }, { key := .int .i64 5, val := .string ⟨#[42]⟩, born := 2 }] : Array MapEntry) 3) HM.out); have HS9n := Aside0.mk (HS9.out.ins (Obj.map (#[{ key := .int .i64 6, val := .string ⟨#[43]⟩, born := 0 }, { key := .int .i64 7, val := .string ⟨#[63]⟩, born := 1 }, { key := .int .i64 5, val := .string ⟨#[42]⟩, born := 2 }] : Array MapEntry) 3) HM.out HW.out); clear HS9 HM hI9; have HS9 := HS9n; have HM := HMn; clear HS9n HMn; refine hK9 _ _ HS9.out.s ?_; clear hK9 K9; generalize hY9 : mapIn Y2 M9 _ = Y3 at HM HS9 ⊢
                               clear hY9; refine anyS_take (i := 13) (oi := O9_13) (v := ?vvq223_) rfl (by kernel_rfl) (by kernel_rfl) (by kernel_rfl) (by kernel_rfl) (fun _ _ _ h => h) (Or.inl ⟨by rfl, ?yyq223_⟩) ?ssq223_ ?rrq223_
                               case yyq223_ => intro w9 _; go_simp; try (with_reducible rfl)
                               case ssq223_ => exact HS9.out.s
                               refine anyS_ready [8, 16] (by kernel_rfl) (by simp) (allS_cons (o := O9_8) rfl (fun K9 hK9 => ?pq224_) (allS_cons (o := O9_16) rfl (fun K9 hK9 => ?pq225_) allS_nil))
                               case pq224_ =>
                                go_simp
                                go_wp2_with (first | (go_at_call 15; (with_reducible refine (regex_shown_in.calls _ _ _ x _ HXX.out).mono ?_); rintro e' w1 ⟨rfl, hb⟩))
                                have HS9n := Aside0.mk (HS9.out.call hb); have HMn := Aside0.mk (blk_below HM.out hb); clear HM; have HM := HMn; clear HMn; clear HS9; have HS9 := HS9n; clear HS9n hb; refine hK9 _ _ HS9.out.s ?_; clear hK9 K9; refine anyS_ready [16] (by kernel_rfl) (by simp) (allS_cons (o := O9_16) rfl (fun K9 hK9 => ?pq227_) allS_nil)
                                case pq227_ =>
                                 have hI9 := look9s w1 M9 (#[{ key := .int .i64 6, val := .string ⟨#[43]⟩, born := 0 }, { key := .int .i64 7, val := .string ⟨#[63]⟩, born := 1 }, { key := .int .i64 5, val := .string ⟨#[42]⟩, born := 2 }] : Array MapEntry) 3 (rd_T40 l0 i).f0 (.string SY) HM.out (by rw [← hsy]; unfold regex_Show.sym; rcases ho with h | h | h <;> rw [h] <;> exact ⟨_, rfl⟩); go_simp; refine hK9 _ _ HS9.out.s ?_; clear hK9 K9 hI9; exact anyS_at (by kernel_rfl) (by kernel_rfl) (tail9 M9 w1 HS9)
                               case pq225_ =>
                                have hI9 := look9s Y3 M9 (#[{ key := .int .i64 6, val := .string ⟨#[43]⟩, born := 0 }, { key := .int .i64 7, val := .string ⟨#[63]⟩, born := 1 }, { key := .int .i64 5, val := .string ⟨#[42]⟩, born := 2 }] : Array MapEntry) 3 (rd_T40 l0 i).f0 (.string SY) HM.out (by rw [← hsy]; unfold regex_Show.sym; rcases ho with h | h | h <;> rw [h] <;> exact ⟨_, rfl⟩); go_simp; refine hK9 _ _ HS9.out.s ?_; clear hK9 K9 hI9; refine anyS_ready [8] (by kernel_rfl) (by simp) (allS_cons (o := O9_8) rfl (fun K9 hK9 => ?pq230_) allS_nil)
                                case pq230_ =>
                                 go_simp
                                 go_wp2_with (first | (go_at_call 15; (with_reducible refine (regex_shown_in.calls _ _ _ x _ HXX.out).mono ?_); rintro e' w1 ⟨rfl, hb⟩))
                                 have HS9n := Aside0.mk (HS9.out.call hb); have HMn := Aside0.mk (blk_below HM.out hb); clear HM; have HM := HMn; clear HMn; clear HS9; have HS9 := HS9n; clear HS9n hb; refine hK9 _ _ HS9.out.s ?_; clear hK9 K9; exact anyS_at (by kernel_rfl) (by kernel_rfl) (tail9 M9 w1 HS9)
                            case pq68_ =>
                             have hI9 := ins9 X9 M9 (#[] : Array MapEntry) 0 7 (.string ⟨#[63]⟩) HM.out rfl; go_simp; have HMn := Aside0.mk (mapIn_at (o' := Obj.map (#[{ key := .int .i64 7, val := .string ⟨#[63]⟩, born := 0 }] : Array MapEntry) 1) HM.out); have HS9n := Aside0.mk (HS9.out.ins (Obj.map (#[{ key := .int .i64 7, val := .string ⟨#[63]⟩, born := 0 }] : Array MapEntry) 1) HM.out HW.out); clear HS9 HM hI9; have HS9 := HS9n; have HM := HMn; clear HS9n HMn; refine hK9 _ _ HS9.out.s ?_; clear hK9 K9; generalize hY9 : mapIn X9 M9 _ = Y1 at HM HS9 ⊢; clear hY9; refine anyS_ready [8, 10, 11] (by kernel_rfl) (by simp) (allS_cons (o := O9_8) rfl (fun K9 hK9 => ?pq233_) (allS_cons (o := O9_10) rfl (fun K9 hK9 => ?pq234_) (allS_cons (o := O9_11) rfl (fun K9 hK9 => ?pq235_) allS_nil)))
                             case pq233_ =>
                              go_simp
                              go_wp2_with (first | (go_at_call 15; (with_reducible refine (regex_shown_in.calls _ _ _ x _ HXX.out).mono ?_); rintro e' w1 ⟨rfl, hb⟩))
                              have HS9n := Aside0.mk (HS9.out.call hb); have HMn := Aside0.mk (blk_below HM.out hb); clear HM; have HM := HMn; clear HMn; clear HS9; have HS9 := HS9n; clear HS9n hb; refine hK9 _ _ HS9.out.s ?_; clear hK9 K9; refine anyS_ready [10, 11] (by kernel_rfl) (by simp) (allS_cons (o := O9_10) rfl (fun K9 hK9 => ?pq237_) (allS_cons (o := O9_11) rfl (fun K9 hK9 => ?pq238_) allS_nil))
                              case pq237_ =>
                               have hI9 := ins9 w1 M9 (#[{ key := .int .i64 7, val := .string ⟨#[63]⟩, born := 0 }] : Array MapEntry) 1 5 (.string ⟨#[42]⟩) HM.out rfl; go_simp; have HMn := Aside0.mk (mapIn_at (o' := Obj.map (#[{ key := .int .i64 7, val := .string ⟨#[63]⟩, born := 0 }, { key := .int .i64 5, val := .string ⟨#[42]⟩, born := 1 }] : Array MapEntry) 2) HM.out); have HS9n := Aside0.mk (HS9.out.ins (Obj.map (#[{ key := .int .i64 7, val := .string ⟨#[63]⟩, born := 0 }, { key := .int .i64 5, val := .string ⟨#[42]⟩, born := 1 }] : Array MapEntry) 2) HM.out HW.out); clear HS9 HM hI9; have HS9 := HS9n; have HM := HMn; clear HS9n HMn; refine hK9 _ _ HS9.out.s ?_; clear hK9 K9; generalize hY9 : mapIn w1 M9 _ = Y2 at HM HS9 ⊢; clear hY9; refine anyS_ready [11] (by kernel_rfl) (by simp) (allS_cons (o := O9_11) rfl (fun K9 hK9 => ?pq240_) allS_nil)
                               case pq240_ =>
                                have hI9 := ins9 Y2 M9 (#[{ key := .int .i64 7, val := .string ⟨#[63]⟩, born := 0 }, { key := .int .i64 5, val := .string ⟨#[42]⟩, born := 1 }] : Array MapEntry) 2 6 (.string ⟨#[43]⟩) HM.out rfl; go_simp; have HMn := Aside0.mk (mapIn_at (o' := Obj.map (#[{ key := .int .i64 7, val := .string ⟨#[63]⟩, born := 0 }, { key := .int .i64 5, val := .string ⟨#[42]⟩, born := 1 }, { key := .int .i64 6, val := .string ⟨#[43]⟩, born := 2 }] : Array MapEntry) 3) HM.out); have HS9n := Aside0.mk (HS9.out.ins (Obj.map (#[{ key := .int .i64 7, val := .string ⟨#[63]⟩, born := 0 }, { key := .int .i64 5, val := .string ⟨#[42]⟩, born := 1 }, { key := .int .i64 6, val := .string ⟨#[43]⟩, born := 2 }] : Array MapEntry) 3) HM.out HW.out); clear HS9 HM hI9; have HS9 := HS9n; have HM := HMn; clear HS9n HMn; refine hK9 _ _ HS9.out.s ?_; clear hK9 K9; generalize hY9 : mapIn Y2 M9 _ = Y3 at HM HS9 ⊢
                                clear hY9; refine anyS_take (i := 13) (oi := O9_13) (v := ?vvq242_) rfl (by kernel_rfl) (by kernel_rfl) (by kernel_rfl) (by kernel_rfl) (fun _ _ _ h => h) (Or.inl ⟨by rfl, ?yyq242_⟩) ?ssq242_ ?rrq242_
                                case yyq242_ => intro w9 _; go_simp; try (with_reducible rfl)
                                case ssq242_ => exact HS9.out.s
                                refine anyS_ready [16] (by kernel_rfl) (by simp) (allS_cons (o := O9_16) rfl (fun K9 hK9 => ?pq243_) allS_nil)
                                case pq243_ =>
                                 have hI9 := look9s Y3 M9 (#[{ key := .int .i64 7, val := .string ⟨#[63]⟩, born := 0 }, { key := .int .i64 5, val := .string ⟨#[42]⟩, born := 1 }, { key := .int .i64 6, val := .string ⟨#[43]⟩, born := 2 }] : Array MapEntry) 3 (rd_T40 l0 i).f0 (.string SY) HM.out (by rw [← hsy]; unfold regex_Show.sym; rcases ho with h | h | h <;> rw [h] <;> exact ⟨_, rfl⟩); go_simp; refine hK9 _ _ HS9.out.s ?_; clear hK9 K9 hI9; exact anyS_at (by kernel_rfl) (by kernel_rfl) (tail9 M9 Y3 HS9)
                              case pq238_ =>
                               have hI9 := ins9 w1 M9 (#[{ key := .int .i64 7, val := .string ⟨#[63]⟩, born := 0 }] : Array MapEntry) 1 6 (.string ⟨#[43]⟩) HM.out rfl; go_simp; have HMn := Aside0.mk (mapIn_at (o' := Obj.map (#[{ key := .int .i64 7, val := .string ⟨#[63]⟩, born := 0 }, { key := .int .i64 6, val := .string ⟨#[43]⟩, born := 1 }] : Array MapEntry) 2) HM.out); have HS9n := Aside0.mk (HS9.out.ins (Obj.map (#[{ key := .int .i64 7, val := .string ⟨#[63]⟩, born := 0 }, { key := .int .i64 6, val := .string ⟨#[43]⟩, born := 1 }] : Array MapEntry) 2) HM.out HW.out); clear HS9 HM hI9; have HS9 := HS9n; have HM := HMn; clear HS9n HMn; refine hK9 _ _ HS9.out.s ?_; clear hK9 K9; generalize hY9 : mapIn w1 M9 _ = Y2 at HM HS9 ⊢; clear hY9; refine anyS_ready [10] (by kernel_rfl) (by simp) (allS_cons (o := O9_10) rfl (fun K9 hK9 => ?pq246_) allS_nil)
                               case pq246_ =>
                                have hI9 := ins9 Y2 M9 (#[{ key := .int .i64 7, val := .string ⟨#[63]⟩, born := 0 }, { key := .int .i64 6, val := .string ⟨#[43]⟩, born := 1 }] : Array MapEntry) 2 5 (.string ⟨#[42]⟩) HM.out rfl; go_simp; have HMn := Aside0.mk (mapIn_at (o' := Obj.map (#[{ key := .int .i64 7, val := .string ⟨#[63]⟩, born := 0 }, { key := .int .i64 6, val := .string ⟨#[43]⟩, born := 1 }, { key := .int .i64 5, val := .string ⟨#[42]⟩, born := 2 }] : Array MapEntry) 3) HM.out); have HS9n := Aside0.mk (HS9.out.ins (Obj.map (#[{ key := .int .i64 7, val := .string ⟨#[63]⟩, born := 0 }, { key := .int .i64 6, val := .string ⟨#[43]⟩, born := 1 }, { key := .int .i64 5, val := .string ⟨#[42]⟩, born := 2 }] : Array MapEntry) 3) HM.out HW.out); clear HS9 HM hI9; have HS9 := HS9n; have HM := HMn; clear HS9n HMn; refine hK9 _ _ HS9.out.s ?_; clear hK9 K9; generalize hY9 : mapIn Y2 M9 _ = Y3 at HM HS9 ⊢
                                clear hY9; refine anyS_take (i := 13) (oi := O9_13) (v := ?vvq248_) rfl (by kernel_rfl) (by kernel_rfl) (by kernel_rfl) (by kernel_rfl) (fun _ _ _ h => h) (Or.inl ⟨by rfl, ?yyq248_⟩) ?ssq248_ ?rrq248_
                                case yyq248_ => intro w9 _; go_simp; try (with_reducible rfl)
                                case ssq248_ => exact HS9.out.s
                                refine anyS_ready [16] (by kernel_rfl) (by simp) (allS_cons (o := O9_16) rfl (fun K9 hK9 => ?pq249_) allS_nil)
                                case pq249_ =>
                                 have hI9 := look9s Y3 M9 (#[{ key := .int .i64 7, val := .string ⟨#[63]⟩, born := 0 }, { key := .int .i64 6, val := .string ⟨#[43]⟩, born := 1 }, { key := .int .i64 5, val := .string ⟨#[42]⟩, born := 2 }] : Array MapEntry) 3 (rd_T40 l0 i).f0 (.string SY) HM.out (by rw [← hsy]; unfold regex_Show.sym; rcases ho with h | h | h <;> rw [h] <;> exact ⟨_, rfl⟩); go_simp; refine hK9 _ _ HS9.out.s ?_; clear hK9 K9 hI9; exact anyS_at (by kernel_rfl) (by kernel_rfl) (tail9 M9 Y3 HS9)
                             case pq234_ =>
                              have hI9 := ins9 Y1 M9 (#[{ key := .int .i64 7, val := .string ⟨#[63]⟩, born := 0 }] : Array MapEntry) 1 5 (.string ⟨#[42]⟩) HM.out rfl; go_simp; have HMn := Aside0.mk (mapIn_at (o' := Obj.map (#[{ key := .int .i64 7, val := .string ⟨#[63]⟩, born := 0 }, { key := .int .i64 5, val := .string ⟨#[42]⟩, born := 1 }] : Array MapEntry) 2) HM.out); have HS9n := Aside0.mk (HS9.out.ins (Obj.map (#[{ key := .int .i64 7, val := .string ⟨#[63]⟩, born := 0 }, { key := .int .i64 5, val := .string ⟨#[42]⟩, born := 1 }] : Array MapEntry) 2) HM.out HW.out); clear HS9 HM hI9; have HS9 := HS9n; have HM := HMn; clear HS9n HMn; refine hK9 _ _ HS9.out.s ?_; clear hK9 K9; generalize hY9 : mapIn Y1 M9 _ = Y2 at HM HS9 ⊢; clear hY9; refine anyS_ready [8, 11] (by kernel_rfl) (by simp) (allS_cons (o := O9_8) rfl (fun K9 hK9 => ?pq252_) (allS_cons (o := O9_11) rfl (fun K9 hK9 => ?pq253_) allS_nil))
                              case pq252_ =>
                               go_simp
                               go_wp2_with (first | (go_at_call 15; (with_reducible refine (regex_shown_in.calls _ _ _ x _ HXX.out).mono ?_); rintro e' w1 ⟨rfl, hb⟩))
                               have HS9n := Aside0.mk (HS9.out.call hb); have HMn := Aside0.mk (blk_below HM.out hb); clear HM; have HM := HMn; clear HMn; clear HS9; have HS9 := HS9n; clear HS9n hb; refine hK9 _ _ HS9.out.s ?_; clear hK9 K9; refine anyS_ready [11] (by kernel_rfl) (by simp) (allS_cons (o := O9_11) rfl (fun K9 hK9 => ?pq255_) allS_nil)
                               case pq255_ =>
                                have hI9 := ins9 w1 M9 (#[{ key := .int .i64 7, val := .string ⟨#[63]⟩, born := 0 }, { key := .int .i64 5, val := .string ⟨#[42]⟩, born := 1 }] : Array MapEntry) 2 6 (.string ⟨#[43]⟩) HM.out rfl; go_simp; have HMn := Aside0.mk (mapIn_at (o' := Obj.map (#[{ key := .int .i64 7, val := .string ⟨#[63]⟩, born := 0 }, { key := .int .i64 5, val := .string ⟨#[42]⟩, born := 1 }, { key := .int .i64 6, val := .string ⟨#[43]⟩, born := 2 }] : Array MapEntry) 3) HM.out); have HS9n := Aside0.mk (HS9.out.ins (Obj.map (#[{ key := .int .i64 7, val := .string ⟨#[63]⟩, born := 0 }, { key := .int .i64 5, val := .string ⟨#[42]⟩, born := 1 }, { key := .int .i64 6, val := .string ⟨#[43]⟩, born := 2 }] : Array MapEntry) 3) HM.out HW.out); clear HS9 HM hI9; have HS9 := HS9n; have HM := HMn; clear HS9n HMn; refine hK9 _ _ HS9.out.s ?_; clear hK9 K9; generalize hY9 : mapIn w1 M9 _ = Y3 at HM HS9 ⊢
                                clear hY9; refine anyS_take (i := 13) (oi := O9_13) (v := ?vvq257_) rfl (by kernel_rfl) (by kernel_rfl) (by kernel_rfl) (by kernel_rfl) (fun _ _ _ h => h) (Or.inl ⟨by rfl, ?yyq257_⟩) ?ssq257_ ?rrq257_
                                case yyq257_ => intro w9 _; go_simp; try (with_reducible rfl)
                                case ssq257_ => exact HS9.out.s
                                refine anyS_ready [16] (by kernel_rfl) (by simp) (allS_cons (o := O9_16) rfl (fun K9 hK9 => ?pq258_) allS_nil)
                                case pq258_ =>
                                 have hI9 := look9s Y3 M9 (#[{ key := .int .i64 7, val := .string ⟨#[63]⟩, born := 0 }, { key := .int .i64 5, val := .string ⟨#[42]⟩, born := 1 }, { key := .int .i64 6, val := .string ⟨#[43]⟩, born := 2 }] : Array MapEntry) 3 (rd_T40 l0 i).f0 (.string SY) HM.out (by rw [← hsy]; unfold regex_Show.sym; rcases ho with h | h | h <;> rw [h] <;> exact ⟨_, rfl⟩); go_simp; refine hK9 _ _ HS9.out.s ?_; clear hK9 K9 hI9; exact anyS_at (by kernel_rfl) (by kernel_rfl) (tail9 M9 Y3 HS9)
                              case pq253_ =>
                               have hI9 := ins9 Y2 M9 (#[{ key := .int .i64 7, val := .string ⟨#[63]⟩, born := 0 }, { key := .int .i64 5, val := .string ⟨#[42]⟩, born := 1 }] : Array MapEntry) 2 6 (.string ⟨#[43]⟩) HM.out rfl; go_simp; have HMn := Aside0.mk (mapIn_at (o' := Obj.map (#[{ key := .int .i64 7, val := .string ⟨#[63]⟩, born := 0 }, { key := .int .i64 5, val := .string ⟨#[42]⟩, born := 1 }, { key := .int .i64 6, val := .string ⟨#[43]⟩, born := 2 }] : Array MapEntry) 3) HM.out); have HS9n := Aside0.mk (HS9.out.ins (Obj.map (#[{ key := .int .i64 7, val := .string ⟨#[63]⟩, born := 0 }, { key := .int .i64 5, val := .string ⟨#[42]⟩, born := 1 }, { key := .int .i64 6, val := .string ⟨#[43]⟩, born := 2 }] : Array MapEntry) 3) HM.out HW.out); clear HS9 HM hI9; have HS9 := HS9n; have HM := HMn; clear HS9n HMn; refine hK9 _ _ HS9.out.s ?_; clear hK9 K9; generalize hY9 : mapIn Y2 M9 _ = Y3 at HM HS9 ⊢
                               clear hY9; refine anyS_take (i := 13) (oi := O9_13) (v := ?vvq261_) rfl (by kernel_rfl) (by kernel_rfl) (by kernel_rfl) (by kernel_rfl) (fun _ _ _ h => h) (Or.inl ⟨by rfl, ?yyq261_⟩) ?ssq261_ ?rrq261_
                               case yyq261_ => intro w9 _; go_simp; try (with_reducible rfl)
                               case ssq261_ => exact HS9.out.s
                               refine anyS_ready [8, 16] (by kernel_rfl) (by simp) (allS_cons (o := O9_8) rfl (fun K9 hK9 => ?pq262_) (allS_cons (o := O9_16) rfl (fun K9 hK9 => ?pq263_) allS_nil))
                               case pq262_ =>
                                go_simp
                                go_wp2_with (first | (go_at_call 15; (with_reducible refine (regex_shown_in.calls _ _ _ x _ HXX.out).mono ?_); rintro e' w1 ⟨rfl, hb⟩))
                                have HS9n := Aside0.mk (HS9.out.call hb); have HMn := Aside0.mk (blk_below HM.out hb); clear HM; have HM := HMn; clear HMn; clear HS9; have HS9 := HS9n; clear HS9n hb; refine hK9 _ _ HS9.out.s ?_; clear hK9 K9; refine anyS_ready [16] (by kernel_rfl) (by simp) (allS_cons (o := O9_16) rfl (fun K9 hK9 => ?pq265_) allS_nil)
                                case pq265_ =>
                                 have hI9 := look9s w1 M9 (#[{ key := .int .i64 7, val := .string ⟨#[63]⟩, born := 0 }, { key := .int .i64 5, val := .string ⟨#[42]⟩, born := 1 }, { key := .int .i64 6, val := .string ⟨#[43]⟩, born := 2 }] : Array MapEntry) 3 (rd_T40 l0 i).f0 (.string SY) HM.out (by rw [← hsy]; unfold regex_Show.sym; rcases ho with h | h | h <;> rw [h] <;> exact ⟨_, rfl⟩); go_simp; refine hK9 _ _ HS9.out.s ?_; clear hK9 K9 hI9; exact anyS_at (by kernel_rfl) (by kernel_rfl) (tail9 M9 w1 HS9)
                               case pq263_ =>
                                have hI9 := look9s Y3 M9 (#[{ key := .int .i64 7, val := .string ⟨#[63]⟩, born := 0 }, { key := .int .i64 5, val := .string ⟨#[42]⟩, born := 1 }, { key := .int .i64 6, val := .string ⟨#[43]⟩, born := 2 }] : Array MapEntry) 3 (rd_T40 l0 i).f0 (.string SY) HM.out (by rw [← hsy]; unfold regex_Show.sym; rcases ho with h | h | h <;> rw [h] <;> exact ⟨_, rfl⟩); go_simp; refine hK9 _ _ HS9.out.s ?_; clear hK9 K9 hI9; refine anyS_ready [8] (by kernel_rfl) (by simp) (allS_cons (o := O9_8) rfl (fun K9 hK9 => ?pq268_) allS_nil)
                                case pq268_ =>
                                 go_simp
                                 go_wp2_with (first | (go_at_call 15; (with_reducible refine (regex_shown_in.calls _ _ _ x _ HXX.out).mono ?_); rintro e' w1 ⟨rfl, hb⟩))
                                 have HS9n := Aside0.mk (HS9.out.call hb); have HMn := Aside0.mk (blk_below HM.out hb); clear HM; have HM := HMn; clear HMn; clear HS9; have HS9 := HS9n; clear HS9n hb; refine hK9 _ _ HS9.out.s ?_; clear hK9 K9; exact anyS_at (by kernel_rfl) (by kernel_rfl) (tail9 M9 w1 HS9)
                             case pq235_ =>
                              have hI9 := ins9 Y1 M9 (#[{ key := .int .i64 7, val := .string ⟨#[63]⟩, born := 0 }] : Array MapEntry) 1 6 (.string ⟨#[43]⟩) HM.out rfl; go_simp; have HMn := Aside0.mk (mapIn_at (o' := Obj.map (#[{ key := .int .i64 7, val := .string ⟨#[63]⟩, born := 0 }, { key := .int .i64 6, val := .string ⟨#[43]⟩, born := 1 }] : Array MapEntry) 2) HM.out); have HS9n := Aside0.mk (HS9.out.ins (Obj.map (#[{ key := .int .i64 7, val := .string ⟨#[63]⟩, born := 0 }, { key := .int .i64 6, val := .string ⟨#[43]⟩, born := 1 }] : Array MapEntry) 2) HM.out HW.out); clear HS9 HM hI9; have HS9 := HS9n; have HM := HMn; clear HS9n HMn; refine hK9 _ _ HS9.out.s ?_; clear hK9 K9; generalize hY9 : mapIn Y1 M9 _ = Y2 at HM HS9 ⊢; clear hY9; refine anyS_ready [8, 10] (by kernel_rfl) (by simp) (allS_cons (o := O9_8) rfl (fun K9 hK9 => ?pq271_) (allS_cons (o := O9_10) rfl (fun K9 hK9 => ?pq272_) allS_nil))
                              case pq271_ =>
                               go_simp
                               go_wp2_with (first | (go_at_call 15; (with_reducible refine (regex_shown_in.calls _ _ _ x _ HXX.out).mono ?_); rintro e' w1 ⟨rfl, hb⟩))
                               have HS9n := Aside0.mk (HS9.out.call hb); have HMn := Aside0.mk (blk_below HM.out hb); clear HM; have HM := HMn; clear HMn; clear HS9; have HS9 := HS9n; clear HS9n hb; refine hK9 _ _ HS9.out.s ?_; clear hK9 K9; refine anyS_ready [10] (by kernel_rfl) (by simp) (allS_cons (o := O9_10) rfl (fun K9 hK9 => ?pq274_) allS_nil)
                               case pq274_ =>
                                have hI9 := ins9 w1 M9 (#[{ key := .int .i64 7, val := .string ⟨#[63]⟩, born := 0 }, { key := .int .i64 6, val := .string ⟨#[43]⟩, born := 1 }] : Array MapEntry) 2 5 (.string ⟨#[42]⟩) HM.out rfl; go_simp; have HMn := Aside0.mk (mapIn_at (o' := Obj.map (#[{ key := .int .i64 7, val := .string ⟨#[63]⟩, born := 0 }, { key := .int .i64 6, val := .string ⟨#[43]⟩, born := 1 }, { key := .int .i64 5, val := .string ⟨#[42]⟩, born := 2 }] : Array MapEntry) 3) HM.out); have HS9n := Aside0.mk (HS9.out.ins (Obj.map (#[{ key := .int .i64 7, val := .string ⟨#[63]⟩, born := 0 }, { key := .int .i64 6, val := .string ⟨#[43]⟩, born := 1 }, { key := .int .i64 5, val := .string ⟨#[42]⟩, born := 2 }] : Array MapEntry) 3) HM.out HW.out); clear HS9 HM hI9; have HS9 := HS9n; have HM := HMn; clear HS9n HMn; refine hK9 _ _ HS9.out.s ?_; clear hK9 K9; generalize hY9 : mapIn w1 M9 _ = Y3 at HM HS9 ⊢
                                clear hY9; refine anyS_take (i := 13) (oi := O9_13) (v := ?vvq276_) rfl (by kernel_rfl) (by kernel_rfl) (by kernel_rfl) (by kernel_rfl) (fun _ _ _ h => h) (Or.inl ⟨by rfl, ?yyq276_⟩) ?ssq276_ ?rrq276_
                                case yyq276_ => intro w9 _; go_simp; try (with_reducible rfl)
                                case ssq276_ => exact HS9.out.s
                                refine anyS_ready [16] (by kernel_rfl) (by simp) (allS_cons (o := O9_16) rfl (fun K9 hK9 => ?pq277_) allS_nil)
                                case pq277_ =>
                                 have hI9 := look9s Y3 M9 (#[{ key := .int .i64 7, val := .string ⟨#[63]⟩, born := 0 }, { key := .int .i64 6, val := .string ⟨#[43]⟩, born := 1 }, { key := .int .i64 5, val := .string ⟨#[42]⟩, born := 2 }] : Array MapEntry) 3 (rd_T40 l0 i).f0 (.string SY) HM.out (by rw [← hsy]; unfold regex_Show.sym; rcases ho with h | h | h <;> rw [h] <;> exact ⟨_, rfl⟩); go_simp; refine hK9 _ _ HS9.out.s ?_; clear hK9 K9 hI9; exact anyS_at (by kernel_rfl) (by kernel_rfl) (tail9 M9 Y3 HS9)
                              case pq272_ =>
                               have hI9 := ins9 Y2 M9 (#[{ key := .int .i64 7, val := .string ⟨#[63]⟩, born := 0 }, { key := .int .i64 6, val := .string ⟨#[43]⟩, born := 1 }] : Array MapEntry) 2 5 (.string ⟨#[42]⟩) HM.out rfl; go_simp; have HMn := Aside0.mk (mapIn_at (o' := Obj.map (#[{ key := .int .i64 7, val := .string ⟨#[63]⟩, born := 0 }, { key := .int .i64 6, val := .string ⟨#[43]⟩, born := 1 }, { key := .int .i64 5, val := .string ⟨#[42]⟩, born := 2 }] : Array MapEntry) 3) HM.out); have HS9n := Aside0.mk (HS9.out.ins (Obj.map (#[{ key := .int .i64 7, val := .string ⟨#[63]⟩, born := 0 }, { key := .int .i64 6, val := .string ⟨#[43]⟩, born := 1 }, { key := .int .i64 5, val := .string ⟨#[42]⟩, born := 2 }] : Array MapEntry) 3) HM.out HW.out); clear HS9 HM hI9; have HS9 := HS9n; have HM := HMn; clear HS9n HMn; refine hK9 _ _ HS9.out.s ?_; clear hK9 K9; generalize hY9 : mapIn Y2 M9 _ = Y3 at HM HS9 ⊢
                               clear hY9; refine anyS_take (i := 13) (oi := O9_13) (v := ?vvq280_) rfl (by kernel_rfl) (by kernel_rfl) (by kernel_rfl) (by kernel_rfl) (fun _ _ _ h => h) (Or.inl ⟨by rfl, ?yyq280_⟩) ?ssq280_ ?rrq280_
                               case yyq280_ => intro w9 _; go_simp; try (with_reducible rfl)
                               case ssq280_ => exact HS9.out.s
                               refine anyS_ready [8, 16] (by kernel_rfl) (by simp) (allS_cons (o := O9_8) rfl (fun K9 hK9 => ?pq281_) (allS_cons (o := O9_16) rfl (fun K9 hK9 => ?pq282_) allS_nil))
                               case pq281_ =>
                                go_simp
                                go_wp2_with (first | (go_at_call 15; (with_reducible refine (regex_shown_in.calls _ _ _ x _ HXX.out).mono ?_); rintro e' w1 ⟨rfl, hb⟩))
                                have HS9n := Aside0.mk (HS9.out.call hb); have HMn := Aside0.mk (blk_below HM.out hb); clear HM; have HM := HMn; clear HMn; clear HS9; have HS9 := HS9n; clear HS9n hb; refine hK9 _ _ HS9.out.s ?_; clear hK9 K9; refine anyS_ready [16] (by kernel_rfl) (by simp) (allS_cons (o := O9_16) rfl (fun K9 hK9 => ?pq284_) allS_nil)
                                case pq284_ =>
                                 have hI9 := look9s w1 M9 (#[{ key := .int .i64 7, val := .string ⟨#[63]⟩, born := 0 }, { key := .int .i64 6, val := .string ⟨#[43]⟩, born := 1 }, { key := .int .i64 5, val := .string ⟨#[42]⟩, born := 2 }] : Array MapEntry) 3 (rd_T40 l0 i).f0 (.string SY) HM.out (by rw [← hsy]; unfold regex_Show.sym; rcases ho with h | h | h <;> rw [h] <;> exact ⟨_, rfl⟩); go_simp; refine hK9 _ _ HS9.out.s ?_; clear hK9 K9 hI9; exact anyS_at (by kernel_rfl) (by kernel_rfl) (tail9 M9 w1 HS9)
                               case pq282_ =>
                                have hI9 := look9s Y3 M9 (#[{ key := .int .i64 7, val := .string ⟨#[63]⟩, born := 0 }, { key := .int .i64 6, val := .string ⟨#[43]⟩, born := 1 }, { key := .int .i64 5, val := .string ⟨#[42]⟩, born := 2 }] : Array MapEntry) 3 (rd_T40 l0 i).f0 (.string SY) HM.out (by rw [← hsy]; unfold regex_Show.sym; rcases ho with h | h | h <;> rw [h] <;> exact ⟨_, rfl⟩); go_simp; refine hK9 _ _ HS9.out.s ?_; clear hK9 K9 hI9; refine anyS_ready [8] (by kernel_rfl) (by simp) (allS_cons (o := O9_8) rfl (fun K9 hK9 => ?pq287_) allS_nil)
                                case pq287_ =>
                                 go_simp
                                 go_wp2_with (first | (go_at_call 15; (with_reducible refine (regex_shown_in.calls _ _ _ x _ HXX.out).mono ?_); rintro e' w1 ⟨rfl, hb⟩))
                                 have HS9n := Aside0.mk (HS9.out.call hb); have HMn := Aside0.mk (blk_below HM.out hb); clear HM; have HM := HMn; clear HMn; clear HS9; have HS9 := HS9n; clear HS9n hb; refine hK9 _ _ HS9.out.s ?_; clear hK9 K9; exact anyS_at (by kernel_rfl) (by kernel_rfl) (tail9 M9 w1 HS9)
                          case tail9 =>
                           intro M9 X9 HS9; refine anyS_take (i := 17) (oi := O9_17) (v := ?vvq289_) rfl (by kernel_rfl) (by kernel_rfl) (by kernel_rfl) (by kernel_rfl) (fun _ _ _ h => h) (Or.inl ⟨by rfl, ?yyq289_⟩) ?ssq289_ ?rrq289_
                           case yyq289_ => intro w9 _; go_simp; try (with_reducible rfl)
                           case ssq289_ => exact HS9.out.s
                           refine anyS_take (i := 18) (oi := O9_18) (v := ?vvq290_) rfl (by kernel_rfl) (by kernel_rfl) (by kernel_rfl) (by kernel_rfl) (fun _ _ _ h => h) (Or.inl ⟨by rfl, ?yyq290_⟩) ?ssq290_ ?rrq290_
                           case yyq290_ => intro w9 _; go_simp; try (with_reducible rfl)
                           case ssq290_ => exact HS9.out.s
                           refine anyS_take (i := 19) (oi := O9_19) (v := ?vvq291_) rfl (by kernel_rfl) (by kernel_rfl) (by kernel_rfl) (by kernel_rfl) (fun _ _ _ h => h) (Or.inl ⟨by rfl, ?yyq291_⟩) ?ssq291_ ?rrq291_
                           case yyq291_ => intro w9 _; go_simp; try (with_reducible rfl)
                           case ssq291_ => exact HS9.out.s
                           refine anyS_ready [20] (by kernel_rfl) (by simp) (allS_last (o := O9_20) rfl (fun K9 hK9 => ?pq292_))
                           case pq292_ =>
                            have h0_ := HS9.out.c0; have h1_ := HS9.out.c1; have f0_ := (HS9.out.fr m1).1; have f1_ := (HS9.out.fr m1).2; go_simp; refine hK9 _ _ (anyS_done (by kernel_rfl) (NoPanic.normal ?_))
                            go_wp2_with fail
                            go_meet
                            case rel => exact ⟨rfl, ⟨HS9.out.store GG.out m1 _ _⟩, ⟨below_set (below_set HS9.out.below GG.out) GG.out⟩⟩
                        case rest =>
                          obtain ⟨rfl, HR, HB⟩ := hcut
                          go_wp2_with fail
                          go_roundg kk
                          case measure => omega
                          case rel => exact ⟨_, (st.set (N - 1) (⟨x ++ SY, 3⟩ : S43)), i + 1, rfl, (by first | rfl | (simp; done)), HN, ⟨(by (with_reducible repeat (first | apply Kd.R_alloc | apply Kd.R_drewN | apply Kd.R_drew)); exact HR.out)⟩, ⟨(by repeat (first | (with_reducible first | exact HB.out | apply below_alloc | apply pw_below_drewN | apply below_drew1) | exact HB.out))⟩⟩
                      · rw [if_neg m1] at hs; cases hs
                    · rw [if_neg o57] at hs; cases hs
          · rw [if_neg d1] at h0; cases h0
        · rw [if_neg d0] at h0
          by_cases d1 : 0 < st.length
          · rw [if_pos d1] at h0
            simp only [Option.some.injEq, Prod.mk.injEq] at h0
            obtain ⟨ee, rfl⟩ := h0
            have e0 : decide (i < (l0.length : Int)) = false := decide_eq_false d0
            obtain ⟨g, rfl, hg, ⟨cells, hblk⟩, hcell⟩ := regex_Show.form HR.out d1
            obtain ⟨cx, cy⟩ := hcell 0 _ (List.getElem?_eq_getElem d1)
            have q1 : (0 : Int) < (st.length : Int) := by omega
            have ee2 : st.getD 0 z43 = st[0] := by rw [List.getD_eq_getElem?_getD, List.getElem?_eq_getElem d1]; rfl
            rw [ee2] at ee
            subst ee
            clear hblk hcell hg ee2
            go_wp2_with fail
            refine bodyPost_ret (v := .tuple #[.string st[0].f0, .int .i64 0]) (by simp [results, Tryd.results6, go_sem]) rfl ⟨rfl, HB.out⟩
          · rw [if_neg d1] at h0; cases h0

end Go.Proofs.YtkabcjchgaokoaaDoor.PSj
