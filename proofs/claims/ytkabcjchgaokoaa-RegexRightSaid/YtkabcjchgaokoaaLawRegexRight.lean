/- Proved here: the row of RegexRight over the walk and the plain law: for every input the call tells true. No condition. -/
import Derived.Test.YtkabcjchgaokoaaRows
import Derived.Test.YtkabcjchgaokoaaGRxx19
import Derived.Test.YtkabcjchgaokoaaPureRegexRight
import Derived.WalkKit
import Derived.ProofKit
import Derived.OpenShut
import Derived.ShutString
import Derived.ChangeOld
import Derived.Below
import Derived.SizedLaws
import Derived.Lib.SmallJoins
import Derived.Deep.Slices
import Derived.Deep.Fields
import Derived.ChangeSame
import Derived.Laws.IdiomArrays
namespace Go.Proofs.Ytkabcjchgaokoaa.regexRight
open Go.ChangeShapes Go.WideShapes Go.ChangeAt Go.RowKit Go.Joins Go.Deep Go.Proofs.YtkabcjchgaokoaaW.PrintWords Go.Proofs.YtkabcjchgaokoaaW.PrintLast
open Go.ChangeMaps (open_string shut_string)
set_option linter.unusedVariables false
set_option linter.unusedSimpArgs false
/-! #### what came in, as plain data: any kind -/
section
variable {H : Type} {enc : TypeId × Value → H} {P : Program} {w : World} {base : Nat} {spare : Nat → Bool} {held : Bool}
/-- What reads as a value of type t is some data of the kind. -/
def Opens {H : Type} (enc : TypeId × Value → H) (P : Program) (w : World) (base : Nat) (spare : Nat → Bool) (held : Bool) {α : Type} (d : Kd α) (t : TypeId) : Prop :=
  P.cellsOf t = d.sz ∧ ∀ fuel cs x, DataW.trod enc P w base spare held fuel t cs = some x → ∃ v, d.K w v cs
theorem opens_int {t : TypeId} {k : IntKind} (ht : P.underlying t = some (.int k)) (hc : P.cellsOf t = 1) : Opens enc P w base spare held (Kd.int k) t :=
  ⟨hc, fun fuel cs x h => by
    obtain ⟨a, e, _, _⟩ := DataW.trod_int ht h
    exact ⟨a, e⟩⟩
theorem opens_string {t : TypeId} (ht : P.underlying t = some .string) (hc : P.cellsOf t = 1) : Opens enc P w base spare held Kd.string t :=
  ⟨hc, fun fuel cs x h => by
    obtain ⟨a, e, _, _⟩ := DataW.trod_string ht h
    exact ⟨a, e⟩⟩
theorem opens_bool {t : TypeId} (ht : P.underlying t = some .bool) (hc : P.cellsOf t = 1) : Opens enc P w base spare held Kd.bool t :=
  ⟨hc, fun fuel cs x h => by
    obtain ⟨a, e, _⟩ := DataW.trod_bool ht h
    exact ⟨a, e⟩⟩
theorem list_of_each {α : Type} (Q : Nat → α → Prop) (n : Nat) (h : ∀ i, i < n → ∃ x, Q i x) : ∃ l : List α, l.length = n ∧ ∀ j x, l[j]? = some x → Q j x := by
  induction n with
  | zero => exact ⟨[], rfl, fun j x hx => by simp at hx⟩
  | succ n ih =>
    obtain ⟨l, hl, hp⟩ := ih (fun i hi => h i (by omega))
    obtain ⟨x, hx⟩ := h n (by omega)
    refine ⟨l ++ [x], by simp [hl], fun j y hy => ?_⟩
    by_cases hj : j < n
    · rw [List.getElem?_append_left (by omega)] at hy
      exact hp j y hy
    · rw [List.getElem?_append_right (by omega)] at hy
      have : j - l.length = 0 := by
        rcases Nat.eq_zero_or_pos (j - l.length) with h0 | h0
        · exact h0
        · rw [List.getElem?_eq_none (by simp; omega)] at hy
          cases hy
      rw [this] at hy
      simp at hy
      subst hy
      obtain rfl : j = n := by omega
      exact hx
theorem open_row {α : Type} {d : Kd α} {t e : TypeId} {a : Option Addr} {len cap fuel : Nat} {x : DataW H × List MemPlace} (ht : P.underlying t = some (.slice e)) (he : Opens enc P w base spare held d e)
    (h : DataW.trod enc P w base spare held fuel t [.slice a len cap] = some x) : ∃ l : List α, l.length = len ∧ len ≤ cap ∧ Kd.C d w a len l := by
  rcases Go.Deep.open_slice ht h with ⟨hcs, _⟩ | ⟨ad, l, c, m, n, D, Pl, hcs, _, hl, hm, hmm, _, hf⟩
  · simp only [List.cons.injEq, Value.slice.injEq, and_true] at hcs
    obtain ⟨rfl, rfl, rfl⟩ := hcs
    exact ⟨[], rfl, Nat.le_refl _, rfl, by omega, fun hn => absurd hn (by omega)⟩
  · simp only [List.cons.injEq, Value.slice.injEq, and_true] at hcs
    obtain ⟨rfl, rfl, rfl⟩ := hcs
    have hlm : len ≤ m := by rw [hmm]; split <;> omega
    obtain ⟨ls, hls, hp⟩ := list_of_each (fun i (y : α) => ∃ cs', w.cells? base (ad.add (i * P.cellsOf e)) (P.cellsOf e) = some cs' ∧ d.K w y cs') len (fun i hi => by
      obtain ⟨cs', hc, ht'⟩ := hf i (by omega)
      obtain ⟨v, hv⟩ := he.2 _ _ _ ht'
      exact ⟨v, cs', hc, hv⟩)
    refine ⟨ls, hls, hl, hls, by unfold maxLen at hm; omega, fun _ => ⟨ad, rfl, fun j p hj => ?_⟩⟩
    obtain ⟨cs', hc, hv⟩ := hp j p hj
    obtain ⟨_, hcl, hat⟩ := World.cells?_some hc
    refine ⟨cs', by rw [hcl, he.1], hv, fun i u hu => ?_⟩
    have hi : i < P.cellsOf e := by rw [← hcl]; exact (List.getElem?_eq_some_iff.1 hu).1
    rw [← he.1, ← Go.Deep.add_add, hat i hi, hu]
theorem opens_slice {α : Type} {d : Kd α} {t e : TypeId} {q : Nat} (ht : P.underlying t = some (.slice e)) (hc : P.cellsOf t = 1) (he : Opens enc P w base spare held d e) : Opens enc P w base spare held (Kd.slice q d) t :=
  ⟨hc, fun fuel cs x h => by
    have hcs : ∃ a len cap, cs = [.slice a len cap] := by
      rcases Go.Deep.open_slice ht h with ⟨hcs, _⟩ | ⟨ad, l, c, m, n, D, Pl, hcs, _⟩
      · exact ⟨_, _, _, hcs⟩
      · exact ⟨_, _, _, hcs⟩
    obtain ⟨a, len, cap, rfl⟩ := hcs
    obtain ⟨l, rfl, hle, hC⟩ := open_row ht he h
    exact ⟨l, a, cap, rfl, hle, hC⟩⟩
/-- Fields in line, from a place on. -/
def OpensF {H : Type} (enc : TypeId × Value → H) (P : Program) (w : World) (base : Nat) (spare : Nat → Bool) (held : Bool) {α : Type} (d : Kd α) (fs : List Field) (off : Nat) : Prop :=
  ∀ (n : Nat) (cs : List Value), (∀ (j : Nat) (f : Field), fs[j]? = some f → ∃ y, DataW.trod enc P w base spare held n f.type ((cs.drop f.offset).take (P.cellsOf f.type)) = some y) → ∃ v, d.K w v ((cs.drop off).take d.sz)
theorem opensF_one {α : Type} {d : Kd α} {f : Field} {off : Nat} (ho : f.offset = off) (h : Opens enc P w base spare held d f.type) : OpensF enc P w base spare held d [f] off := by
  intro n cs hy
  obtain ⟨y, hy⟩ := hy 0 f rfl
  rw [ho, h.1] at hy
  exact h.2 _ _ _ hy
theorem opensF_cons {α β : Type} {a : Kd α} {b : Kd β} {f : Field} {fs : List Field} {off : Nat} (ho : f.offset = off) (h : Opens enc P w base spare held a f.type) (hs : OpensF enc P w base spare held b fs (off + a.sz)) : OpensF enc P w base spare held (Kd.pair a b) (f :: fs) off := by
  intro n cs hy
  obtain ⟨y, hy0⟩ := hy 0 f rfl
  rw [ho, h.1] at hy0
  obtain ⟨v, hv⟩ := h.2 _ _ _ hy0
  obtain ⟨u, hu⟩ := hs n cs (fun j g hg => hy (j + 1) g (by simpa using hg))
  refine ⟨(v, u), _, _, ?_, hv, hu⟩
  show (cs.drop off).take (a.sz + b.sz) = _
  rw [List.take_add, List.drop_drop]
theorem opens_struct {α : Type} {d : Kd α} {t : TypeId} {fs : Array Field} (ht : P.underlying t = some (.struct fs)) (hc : P.cellsOf t = d.sz) (h : OpensF enc P w base spare held d fs.toList 0) : Opens enc P w base spare held d t :=
  ⟨hc, fun fuel cs x hx => by
    obtain ⟨xs, n, _, _, hl, hlen, hf⟩ := DataW.trod_struct ht hx
    obtain ⟨v, hv⟩ := h n cs (fun j f hj => by
      have hj' : fs[j]? = some f := by simpa using hj
      have := hf j f hj'
      exact ⟨_, this.trans (List.getElem?_eq_getElem (by have := (Array.getElem?_eq_some_iff.1 hj').1; omega))⟩)
    rw [List.drop_zero, ← hc, ← hl, List.take_length] at hv
    exact ⟨v, hv⟩⟩
theorem opens_iso {α β : Type} {d : Kd α} {t : TypeId} (f : β → α) (g : α → β) (hfg : ∀ x, f (g x) = x) (h : Opens enc P w base spare held d t) : Opens enc P w base spare held (Kd.iso d f) t :=
  ⟨h.1, fun fuel cs x hx => by
    obtain ⟨v, hv⟩ := h.2 _ _ _ hx
    refine ⟨g v, ?_⟩
    show d.K w (f (g v)) cs
    rw [hfg]
    exact hv⟩
theorem Opens.get {α : Type} {d : Kd α} {t : TypeId} {fuel : Nat} {cs : List Value} {x : DataW H × List MemPlace} (h : Opens enc P w base spare held d t) (hx : DataW.trod enc P w base spare held fuel t cs = some x) : ∃ v, d.K w v cs := h.2 _ _ _ hx
end
/-- An array of four whole numbers. -/
theorem opens_array4 {H : Type} {enc : TypeId × Value → H} {P : Program} {w : World} {base : Nat} {spare : Nat → Bool} {held : Bool} {t e : TypeId} {k : IntKind} (ht : P.underlying t = some (.array 4 e)) (he : P.underlying e = some (.int k)) (hce : P.cellsOf e = 1) (hc : P.cellsOf t = 4) :
    Opens enc P w base spare held (Kd.pair (Kd.int k) (Kd.pair (Kd.int k) (Kd.pair (Kd.int k) (Kd.int k)))) t :=
  ⟨hc, fun fuel cs x h => by
    obtain ⟨xs, m, _, _, hlen, hl, hel⟩ := DataW.trod_array ht h
    have h4 : cs.length = 4 := by rw [hlen, hc]
    match cs, h4 with
    | [c0, c1, c2, c3], _ =>
      obtain ⟨y0, y1, y2, y3, n, _, h0, h1, h2, h3⟩ := trod_array4 ht hce h
      obtain ⟨a0, e0, _, _⟩ := DataW.trod_int he h0
      obtain ⟨a1, e1, _, _⟩ := DataW.trod_int he h1
      obtain ⟨a2, e2, _, _⟩ := DataW.trod_int he h2
      obtain ⟨a3, e3, _, _⟩ := DataW.trod_int he h3
      injection e0 with e0
      injection e1 with e1
      injection e2 with e2
      injection e3 with e3
      subst e0 e1 e2 e3
      exact ⟨(a0, a1, a2, a3), [.int k a0], [.int k a1, .int k a2, .int k a3], rfl, rfl, [.int k a1], [.int k a2, .int k a3], rfl, rfl, [.int k a2], [.int k a3], rfl, rfl, rfl⟩⟩
/-- A row's slice is no longer than its weight allows. -/
theorem sized_row {H : Type} {enc : TypeId × Value → H} {P : Program} {W : World} {base : Nat} {spare : Nat → Bool} {held : Bool} {t e : TypeId} {a : Option Addr} {len cap : Nat} {d : DataW H} {ps : List MemPlace} {ts : List TypeId} {ds : List (DataW H)} {j : Nat}
    (hsz : (DataW.weightsEach P ts ds).all (· ≤ reachBytes) = true) (ht : ts[j]? = some t) (hd : ds[j]? = some d) (hu : P.underlying t = some (.slice e)) {B : Nat} (hB : P.bytesOf e = B)
    (h : DataW.Trod enc P W base spare held t (.slice a len cap) d ps) : len * B ≤ 140737488351232 := by
  obtain ⟨fuel, hf⟩ := h
  rcases Go.Deep.open_slice hu hf with ⟨hcs, _⟩ | ⟨x, l, c, m, n, D, Pl, hcs, _, hl, _, hm, hx, _⟩
  · simp [Value.cells] at hcs
    obtain ⟨rfl, rfl, rfl⟩ := hcs
    simp
  · simp [Value.cells] at hcs
    obtain ⟨rfl, rfl, rfl⟩ := hcs
    obtain ⟨hx, _⟩ := Prod.mk.inj hx
    subst hx
    have z := sized_slice hsz ht hd hu
    rw [hB, List.length_map, List.length_map, List.length_range, List.length_range] at z
    have hlm : len ≤ m := by rw [hm]; split <;> omega
    have h1 : len + (m - len) = m := by omega
    rw [h1] at z
    exact Nat.le_trans (Nat.mul_le_mul_right _ hlm) z

theorem own : ownKnob Try.prog.godebug = none := by kernel_rfl
theorem laidOut : laidOutB Try.prog = true := by kernel_rfl

set_option maxRecDepth 100000 in
theorem lifted (os : Os) (started : os.Started) (H : Type) (enc : TypeId × Value → H) :
    ReturnsInHanded {} Try.checked os 4 .any (Rows.regexRightSpec.pre6 enc Try.prog Try.f4 Rows.regexRightRow.domain false) (Rows.regexRightSpec.post enc Try.prog Try.f4 false true false false) := by
  refine returnsInHanded_of_change_sized (C := Try.checked) own started (by kernel_rfl) Try.func4
    (ChangeSpec.witness6 (enc := enc) (C := Try.checked) false ⟨#[], #[.slice none 0 0], []⟩ 8 (by kernel_rfl) (by kernel_rfl) (by kernel_rfl) (by kernel_rfl)) ?_
  intro W base args ds gs before hval0 hW hcnd hsz0 _
  have hsz : (DataW.weightsEach Try.prog (Try.f4.params.toList ++ Rows.regexRightSpec.plain.varTypes Try.prog) (ds ++ gs)).all (· ≤ reachBytes) = true := hsz0
  have hval : ∀ (j : Nat) t v, Try.f4.params[j]? = some t → args[j]? = some v → Value.okWide Try.prog W .any base t v := hval0
  have hW' := hW
  obtain ⟨p, q, hA0, hV, rfl, hfz, hnd⟩ := hW
  have hA : DataW.TrodAll enc Try.prog W 0 (fun _ => true) true Try.f4.params.toList args.toList ds p := hA0
  rw [Try.params4] at hA hval hsz
  obtain ⟨v0, vs0, d0, ds0, p0, q0, hargs, rfl, rfl, h0, r0⟩ := trodAll_cons hA
  obtain ⟨rfl, rfl, rfl⟩ := trodAll_nil r0
  obtain rfl : args = #[v0] := by cases args; simp_all
  obtain ⟨rfl, rfl⟩ := trodVars_none hV
  have k0 := h0
  have lt0 : ∀ x ∈ p0, x.block < W.heap.size := by obtain ⟨m, hm⟩ := k0; exact DataW.trod_lt m _ _ _ hm
  obtain ⟨a0, len0, cap0, rfl⟩ := okWide_slice Try.underlying23 (hval 0 23 v0 rfl rfl)
  obtain ⟨l0, rfl, w0, u0⟩ : ∃ l, List.length l = len0 ∧ len0 ≤ cap0 ∧ Kd.C PRx.k32 W a0 len0 l := by
    obtain ⟨fuel, hf⟩ := h0
    exact open_row Try.underlying23 (opens_iso (d := Kd.pair (Kd.int .i64) PRx.k30) (fun x : PRx.S32 => (x.f0, x.f1)) (fun q => ⟨q.1, q.2⟩) (fun _ => rfl) (opens_struct Try.underlying32 (by kernel_rfl) (opensF_cons rfl (opens_int Try.underlying3 (by kernel_rfl)) (opensF_one rfl (opens_iso (d := Kd.pair (Kd.int .u64) (Kd.pair (Kd.int .u64) (Kd.pair (Kd.int .u64) (Kd.int .u64)))) (fun x : PRx.S30 => (x.f0, x.f1, x.f2, x.f3)) (fun q => ⟨q.1, q.2.1, q.2.2.1, q.2.2.2⟩) (fun _ => rfl) (opens_array4 Try.underlying30 Try.underlying28 (by kernel_rfl) (by kernel_rfl))))))) hf
  have z0 : l0.length * 40 ≤ 140737488351232 := sized_row hsz (j := 0) (t := 23) rfl rfl Try.underlying23 (by kernel_rfl) h0
  clear hA0 hval0 hsz0 hsz
  obtain ⟨k, hk⟩ := Pure.law l0 z0
  refine (PRx.topiarylaw06_RegexRight.calls k a0 cap0 l0 true W u0 w0 hk).mono fun e W' ⟨he, bel⟩ => ?_
  subst he
  exact ⟨_, rfl, _, _, _, [], _, [], hW', trodAll_mk1 (shut_bool Try.underlying4 _), (trodAll_cons_mk (Below.trod laidOut (by kernel_rfl) (of_decide_eq_true (by kernel_rfl)) k0 bel lt0) trodAll_mk0), rfl, bel.frame _, fun h => by cases h⟩
theorem over : Rows.regexRightRow.holds Try.pinned (OpenSpec.ofChange Rows.regexRightSpec) :=
  OpenClaim.holds_of_wide 4 Try.f4 rfl rfl rfl rfl rfl rfl rfl ⟨rfl, rfl, rfl, rfl, rfl⟩ rfl rfl rfl rfl rfl (by kernel_rfl) Try.func4 (by kernel_rfl)
    (of_decide_eq_true (by kernel_rfl)) (by unfold Func.isWrapper; first | (rw [if_pos (by decide +kernel)]; kernel_rfl) | (rw [if_neg (by decide +kernel)]; exact ⟨rfl, rfl⟩))
    (fun os started H enc _ => lifted os started H enc)
theorem proved : Rows.RegexRightSaid := over
#print axioms proved
end Go.Proofs.Ytkabcjchgaokoaa.regexRight
namespace Go.Proofs.Ytkabcjchgaokoaa
/-- The row, under a short name, for the claim. -/
theorem regexRight_holds : Rows.RegexRightSaid := regexRight.proved
end Go.Proofs.Ytkabcjchgaokoaa
