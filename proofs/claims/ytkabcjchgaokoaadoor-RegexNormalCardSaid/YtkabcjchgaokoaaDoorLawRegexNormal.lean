/- Proved here: the card of RegexNormal over the walk and the plain law: for every input the call tells true. No condition but the card's own. -/
import Derived.Test.YtkabcjchgaokoaaDoorRows
import Derived.Test.YtkabcjchgaokoaaDoorTie
import Derived.Test.YtkabcjchgaokoaaDoorCards
import Derived.Test.YtkabcjchgaokoaaDoorGSjx24
import Derived.Test.YtkabcjchgaokoaaDoorPureBack4
import Derived.WalkKit
import Derived.ProofKit
import Derived.OpenShut
import Derived.ShutString
import Derived.ChangeOld
import Derived.Below
import Derived.SizedLaws
import Derived.Lib.SmallJoins
import Derived.Deep.Slices
import Derived.Deep.Fields
import Derived.ChangeSame
import Derived.Laws.IdiomArrays
import Derived.LaidMore
import Derived.Stop.Joined
import Derived.Lib.LaidU8
import Derived.SevenTiedAt
namespace Go.Proofs.YtkabcjchgaokoaaDoor.regexNormal
open Go.ChangeShapes Go.WideShapes Go.ChangeAt Go.RowKit Go.Joins Go.Deep Go.Proofs.YtkabcjchgaokoaaDoorW.PrintWords Go.Proofs.YtkabcjchgaokoaaDoorW.PrintLast
open Go.ChangeMaps (open_string shut_string)
set_option linter.unusedVariables false
set_option linter.unusedSimpArgs false
/-! #### what came in, as plain data: any kind -/
section
variable {H : Type} {enc : TypeId × Value → H} {P : Program} {w : World} {base : Nat} {spare : Nat → Bool} {held : Bool}
/-- What reads as a value of type t is some data of the kind. -/
def Opens {H : Type} (enc : TypeId × Value → H) (P : Program) (w : World) (base : Nat) (spare : Nat → Bool) (held : Bool) {α : Type} (d : Kd α) (t : TypeId) : Prop :=
  P.cellsOf t = d.sz ∧ ∀ fuel cs x, DataW.trod enc P w base spare held fuel t cs = some x → ∃ v, d.K w v cs
theorem opens_int {t : TypeId} {k : IntKind} (ht : P.underlying t = some (.int k)) (hc : P.cellsOf t = 1) : Opens enc P w base spare held (Kd.int k) t :=
  ⟨hc, fun fuel cs x h => by
    obtain ⟨a, e, _, _⟩ := DataW.trod_int ht h
    exact ⟨a, e⟩⟩
theorem opens_string {t : TypeId} (ht : P.underlying t = some .string) (hc : P.cellsOf t = 1) : Opens enc P w base spare held Kd.string t :=
  ⟨hc, fun fuel cs x h => by
    obtain ⟨a, e, _, _⟩ := DataW.trod_string ht h
    exact ⟨a, e⟩⟩
theorem opens_bool {t : TypeId} (ht : P.underlying t = some .bool) (hc : P.cellsOf t = 1) : Opens enc P w base spare held Kd.bool t :=
  ⟨hc, fun fuel cs x h => by
    obtain ⟨a, e, _⟩ := DataW.trod_bool ht h
    exact ⟨a, e⟩⟩
theorem list_of_each {α : Type} (Q : Nat → α → Prop) (n : Nat) (h : ∀ i, i < n → ∃ x, Q i x) : ∃ l : List α, l.length = n ∧ ∀ j x, l[j]? = some x → Q j x := by
  induction n with
  | zero => exact ⟨[], rfl, fun j x hx => by simp at hx⟩
  | succ n ih =>
    obtain ⟨l, hl, hp⟩ := ih (fun i hi => h i (by omega))
    obtain ⟨x, hx⟩ := h n (by omega)
    refine ⟨l ++ [x], by simp [hl], fun j y hy => ?_⟩
    by_cases hj : j < n
    · rw [List.getElem?_append_left (by omega)] at hy
      exact hp j y hy
    · rw [List.getElem?_append_right (by omega)] at hy
      have : j - l.length = 0 := by
        rcases Nat.eq_zero_or_pos (j - l.length) with h0 | h0
        · exact h0
        · rw [List.getElem?_eq_none (by simp; omega)] at hy
          cases hy
      rw [this] at hy
      simp at hy
      subst hy
      obtain rfl : j = n := by omega
      exact hx
theorem open_row {α : Type} {d : Kd α} {t e : TypeId} {a : Option Addr} {len cap fuel : Nat} {x : DataW H × List MemPlace} (ht : P.underlying t = some (.slice e)) (he : Opens enc P w base spare held d e)
    (h : DataW.trod enc P w base spare held fuel t [.slice a len cap] = some x) : ∃ l : List α, l.length = len ∧ len ≤ cap ∧ Kd.C d w a len l := by
  rcases Go.Deep.open_slice ht h with ⟨hcs, _⟩ | ⟨ad, l, c, m, n, D, Pl, hcs, _, hl, hm, hmm, _, hf⟩
  · simp only [List.cons.injEq, Value.slice.injEq, and_true] at hcs
    obtain ⟨rfl, rfl, rfl⟩ := hcs
    exact ⟨[], rfl, Nat.le_refl _, rfl, by omega, fun hn => absurd hn (by omega)⟩
  · simp only [List.cons.injEq, Value.slice.injEq, and_true] at hcs
    obtain ⟨rfl, rfl, rfl⟩ := hcs
    have hlm : len ≤ m := by rw [hmm]; split <;> omega
    obtain ⟨ls, hls, hp⟩ := list_of_each (fun i (y : α) => ∃ cs', w.cells? base (ad.add (i * P.cellsOf e)) (P.cellsOf e) = some cs' ∧ d.K w y cs') len (fun i hi => by
      obtain ⟨cs', hc, ht'⟩ := hf i (by omega)
      obtain ⟨v, hv⟩ := he.2 _ _ _ ht'
      exact ⟨v, cs', hc, hv⟩)
    refine ⟨ls, hls, hl, hls, by unfold maxLen at hm; omega, fun _ => ⟨ad, rfl, fun j p hj => ?_⟩⟩
    obtain ⟨cs', hc, hv⟩ := hp j p hj
    obtain ⟨_, hcl, hat⟩ := World.cells?_some hc
    refine ⟨cs', by rw [hcl, he.1], hv, fun i u hu => ?_⟩
    have hi : i < P.cellsOf e := by rw [← hcl]; exact (List.getElem?_eq_some_iff.1 hu).1
    rw [← he.1, ← Go.Deep.add_add, hat i hi, hu]
theorem opens_slice {α : Type} {d : Kd α} {t e : TypeId} {q : Nat} (ht : P.underlying t = some (.slice e)) (hc : P.cellsOf t = 1) (he : Opens enc P w base spare held d e) : Opens enc P w base spare held (Kd.slice q d) t :=
  ⟨hc, fun fuel cs x h => by
    have hcs : ∃ a len cap, cs = [.slice a len cap] := by
      rcases Go.Deep.open_slice ht h with ⟨hcs, _⟩ | ⟨ad, l, c, m, n, D, Pl, hcs, _⟩
      · exact ⟨_, _, _, hcs⟩
      · exact ⟨_, _, _, hcs⟩
    obtain ⟨a, len, cap, rfl⟩ := hcs
    obtain ⟨l, rfl, hle, hC⟩ := open_row ht he h
    exact ⟨l, a, cap, rfl, hle, hC⟩⟩
/-- Fields in line, from a place on. -/
def OpensF {H : Type} (enc : TypeId × Value → H) (P : Program) (w : World) (base : Nat) (spare : Nat → Bool) (held : Bool) {α : Type} (d : Kd α) (fs : List Field) (off : Nat) : Prop :=
  ∀ (n : Nat) (cs : List Value), (∀ (j : Nat) (f : Field), fs[j]? = some f → ∃ y, DataW.trod enc P w base spare held n f.type ((cs.drop f.offset).take (P.cellsOf f.type)) = some y) → ∃ v, d.K w v ((cs.drop off).take d.sz)
theorem opensF_one {α : Type} {d : Kd α} {f : Field} {off : Nat} (ho : f.offset = off) (h : Opens enc P w base spare held d f.type) : OpensF enc P w base spare held d [f] off := by
  intro n cs hy
  obtain ⟨y, hy⟩ := hy 0 f rfl
  rw [ho, h.1] at hy
  exact h.2 _ _ _ hy
theorem opensF_cons {α β : Type} {a : Kd α} {b : Kd β} {f : Field} {fs : List Field} {off : Nat} (ho : f.offset = off) (h : Opens enc P w base spare held a f.type) (hs : OpensF enc P w base spare held b fs (off + a.sz)) : OpensF enc P w base spare held (Kd.pair a b) (f :: fs) off := by
  intro n cs hy
  obtain ⟨y, hy0⟩ := hy 0 f rfl
  rw [ho, h.1] at hy0
  obtain ⟨v, hv⟩ := h.2 _ _ _ hy0
  obtain ⟨u, hu⟩ := hs n cs (fun j g hg => hy (j + 1) g (by simpa using hg))
  refine ⟨(v, u), _, _, ?_, hv, hu⟩
  show (cs.drop off).take (a.sz + b.sz) = _
  rw [List.take_add, List.drop_drop]
theorem opens_struct {α : Type} {d : Kd α} {t : TypeId} {fs : Array Field} (ht : P.underlying t = some (.struct fs)) (hc : P.cellsOf t = d.sz) (h : OpensF enc P w base spare held d fs.toList 0) : Opens enc P w base spare held d t :=
  ⟨hc, fun fuel cs x hx => by
    obtain ⟨xs, n, _, _, hl, hlen, hf⟩ := DataW.trod_struct ht hx
    obtain ⟨v, hv⟩ := h n cs (fun j f hj => by
      have hj' : fs[j]? = some f := by simpa using hj
      have := hf j f hj'
      exact ⟨_, this.trans (List.getElem?_eq_getElem (by have := (Array.getElem?_eq_some_iff.1 hj').1; omega))⟩)
    rw [List.drop_zero, ← hc, ← hl, List.take_length] at hv
    exact ⟨v, hv⟩⟩
theorem opens_iso {α β : Type} {d : Kd α} {t : TypeId} (f : β → α) (g : α → β) (hfg : ∀ x, f (g x) = x) (h : Opens enc P w base spare held d t) : Opens enc P w base spare held (Kd.iso d f) t :=
  ⟨h.1, fun fuel cs x hx => by
    obtain ⟨v, hv⟩ := h.2 _ _ _ hx
    refine ⟨g v, ?_⟩
    show d.K w (f (g v)) cs
    rw [hfg]
    exact hv⟩
theorem Opens.get {α : Type} {d : Kd α} {t : TypeId} {fuel : Nat} {cs : List Value} {x : DataW H × List MemPlace} (h : Opens enc P w base spare held d t) (hx : DataW.trod enc P w base spare held fuel t cs = some x) : ∃ v, d.K w v cs := h.2 _ _ _ hx
end
/-- An array of four whole numbers. -/
theorem opens_array4 {H : Type} {enc : TypeId × Value → H} {P : Program} {w : World} {base : Nat} {spare : Nat → Bool} {held : Bool} {t e : TypeId} {k : IntKind} (ht : P.underlying t = some (.array 4 e)) (he : P.underlying e = some (.int k)) (hce : P.cellsOf e = 1) (hc : P.cellsOf t = 4) :
    Opens enc P w base spare held (Kd.pair (Kd.int k) (Kd.pair (Kd.int k) (Kd.pair (Kd.int k) (Kd.int k)))) t :=
  ⟨hc, fun fuel cs x h => by
    obtain ⟨xs, m, _, _, hlen, hl, hel⟩ := DataW.trod_array ht h
    have h4 : cs.length = 4 := by rw [hlen, hc]
    match cs, h4 with
    | [c0, c1, c2, c3], _ =>
      obtain ⟨y0, y1, y2, y3, n, _, h0, h1, h2, h3⟩ := trod_array4 ht hce h
      obtain ⟨a0, e0, _, _⟩ := DataW.trod_int he h0
      obtain ⟨a1, e1, _, _⟩ := DataW.trod_int he h1
      obtain ⟨a2, e2, _, _⟩ := DataW.trod_int he h2
      obtain ⟨a3, e3, _, _⟩ := DataW.trod_int he h3
      injection e0 with e0
      injection e1 with e1
      injection e2 with e2
      injection e3 with e3
      subst e0 e1 e2 e3
      exact ⟨(a0, a1, a2, a3), [.int k a0], [.int k a1, .int k a2, .int k a3], rfl, rfl, [.int k a1], [.int k a2, .int k a3], rfl, rfl, [.int k a2], [.int k a3], rfl, rfl, rfl⟩⟩
/-- A row's slice is no longer than its weight allows. -/
theorem sized_row {H : Type} {enc : TypeId × Value → H} {P : Program} {W : World} {base : Nat} {spare : Nat → Bool} {held : Bool} {t e : TypeId} {a : Option Addr} {len cap : Nat} {d : DataW H} {ps : List MemPlace} {ts : List TypeId} {ds : List (DataW H)} {j : Nat}
    (hsz : (DataW.weightsEach P ts ds).all (· ≤ reachBytes) = true) (ht : ts[j]? = some t) (hd : ds[j]? = some d) (hu : P.underlying t = some (.slice e)) {B : Nat} (hB : P.bytesOf e = B)
    (h : DataW.Trod enc P W base spare held t (.slice a len cap) d ps) : len * B ≤ 140737488351232 := by
  obtain ⟨fuel, hf⟩ := h
  rcases Go.Deep.open_slice hu hf with ⟨hcs, _⟩ | ⟨x, l, c, m, n, D, Pl, hcs, _, hl, _, hm, hx, _⟩
  · simp [Value.cells] at hcs
    obtain ⟨rfl, rfl, rfl⟩ := hcs
    simp
  · simp [Value.cells] at hcs
    obtain ⟨rfl, rfl, rfl⟩ := hcs
    obtain ⟨hx, _⟩ := Prod.mk.inj hx
    subst hx
    have z := sized_slice hsz ht hd hu
    rw [hB, List.length_map, List.length_map, List.length_range, List.length_range] at z
    have hlm : len ≤ m := by rw [hm]; split <;> omega
    have h1 : len + (m - len) = m := by omega
    rw [h1] at z
    exact Nat.le_trans (Nat.mul_le_mul_right _ hlm) z

theorem own : ownKnob Tryd.prog.godebug = none := by kernel_rfl
theorem laidOut : laidOutB Tryd.prog = true := by kernel_rfl
def laid : List (String × DataW Unit) := [("math/bits.deBruijn64tab", Rows.laid_math_bits_deBruijn64tab)]
theorem door_met (os : Os) (args : Array Value) : laidMetH Tryd.prog laid ((World.doorLaid Tryd.prog 400 os).forCall (fun _ _ => 0) ⟨#[], args, []⟩).memory :=
  laidMetH_of_parts3 (fuel := 8) (laidMet_of_run' 8 (by kernel_rfl) (by kernel_rfl)) (by kernel_rfl) (by kernel_rfl)
def tabL : List Int := [0, 1, 56, 2, 57, 49, 28, 3, 61, 58, 42, 50, 38, 29, 17, 4, 62, 47, 59, 36, 45, 43, 51, 22, 53, 39, 33, 30, 24, 18, 12, 5, 63, 55, 48, 27, 60, 41, 37, 16, 46, 35, 44, 21, 52, 32, 23, 11, 54, 26, 40, 15, 34, 20, 31, 10, 25, 14, 19, 9, 13, 8, 7, 6]
theorem tab_alike : ∀ i : Fin 64, (tabL[i.val]?).getD 0 = ((Lib.deBruijn64tab.getD i.val 0 : Nat) : Int) := by decide +kernel
theorem tab_of_laid {W : World} (h : laidMetH Tryd.prog laid W) : PSj.TabD W := by
  rw [MakeChecks.laidMetH_plain _ _ _ (by kernel_rfl)] at h
  obtain ⟨g, t, cs, fuel, p, hg, hty, hvar, hd⟩ := Lib.laidMet.reads h (n := "math/bits.deBruijn64tab") (d := Rows.laid_math_bits_deBruijn64tab) (by simp [laid])
  obtain rfl := Option.some.inj ((show Tryd.prog.globalNamed "math/bits.deBruijn64tab" = some 0 by kernel_rfl).symm.trans hg)
  obtain rfl := Option.some.inj ((show (Tryd.prog.globals[0]?).map (·.type) = some 68 by kernel_rfl).symm.trans hty)
  intro j hj
  have hj : j < 64 := hj
  obtain ⟨fuel', d, q, hdi, he⟩ := Lib.array_elem Tryd.underlying68 hd j hj
  rw [show Tryd.prog.cellsOf 5 = 1 by kernel_rfl] at he
  obtain ⟨z, hz, hx, _⟩ := DataW.trod_int Tryd.underlying5 he
  have hd2 : d = .lit (.int .u8 z) := by have := congrArg Prod.fst hx; simpa using this
  have hc : cs[j]? = some (.int .u8 z) := by
    have := congrArg (·[0]?) hz
    rw [← Array.getElem?_toList]
    simpa [List.getElem?_take, List.getElem?_drop] using this
  rw [World.var?_cell hg hvar j, hc]
  have e := tab_alike ⟨j, hj⟩
  subst hd2
  have hdi' : (tabL.map fun z => (DataW.lit (.int .u8 z) : DataW Unit))[j]? = some (.lit (.int .u8 z)) := hdi
  rw [List.getElem?_map] at hdi'
  simp only at e
  cases hq : tabL[j]? with
  | none => rw [hq] at hdi'; simp at hdi'
  | some y =>
    rw [hq] at hdi' e
    simp at hdi'
    subst hdi'
    rw [← e]
    rfl
theorem lifted (os : Os) (started : os.Started) (H : Type) (enc : TypeId × Value → H) :
    ReturnsInHanded {} Tryd.checked os 5 .any (fun w args => (Rows.regexNormalSpec.pre enc Tryd.prog Tryd.f5 [] false w args ∧ laidMetH Tryd.prog laid w) ∧ sizedMet enc Tryd.prog Tryd.f5 (OpenSpec.ofChange Rows.regexNormalSpec) false w args)
      (Rows.regexNormalSpec.post enc Tryd.prog Tryd.f5 false true false false) := by
  refine returnsInHanded_of_change_and (C := Tryd.checked) (X := fun w _ => laidMetH Tryd.prog laid w) (fun _ _ _ hh h => h.of_heap hh) own started (by kernel_rfl) Tryd.func5
    (ChangeSpec.witness_shaped (enc := enc) (C := Tryd.checked) (os := os) (X := fun w _ => laidMetH Tryd.prog laid w) false (World.doorLaid Tryd.prog 400 os) #[.string ByteArray.empty] 8 rfl (World.shaped_of_RefB (by kernel_rfl) (by kernel_rfl)) (by kernel_rfl) (by kernel_rfl) (by kernel_rfl) (door_met os _)) ?_
  intro W base args ds gs before hval0 hW hcnd hsz0 hL _
  have hsz : (DataW.weightsEach Tryd.prog (Tryd.f5.params.toList ++ Rows.regexNormalSpec.plain.varTypes Tryd.prog) (ds ++ gs)).all (· ≤ reachBytes) = true := hsz0
  have hval : ∀ (j : Nat) t v, Tryd.f5.params[j]? = some t → args[j]? = some v → Value.okWide Tryd.prog W .any base t v := hval0
  have hW' := hW
  obtain ⟨p, q, hA0, hV, rfl, hfz, hnd⟩ := hW
  have hA : DataW.TrodAll enc Tryd.prog W 0 (fun _ => true) true Tryd.f5.params.toList args.toList ds p := hA0
  rw [Tryd.params5] at hA hval hsz
  obtain ⟨v0, vs0, d0, ds0, p0, q0, hargs, rfl, rfl, h0, r0⟩ := trodAll_cons hA
  obtain ⟨rfl, rfl, rfl⟩ := trodAll_nil r0
  obtain rfl : args = #[v0] := by cases args; simp_all
  obtain ⟨rfl, rfl⟩ := trodVars_none hV
  obtain ⟨a0, rfl, rfl, rfl, y0⟩ := open_string Tryd.underlying9 (hval 0 9 v0 rfl rfl) h0
  clear hA0 hval0 hsz0 hsz
  obtain ⟨k, hk⟩ := Pure.lawN a0
  refine (PSj.topiarylaw06_RegexNormal.calls k a0 true W (tab_of_laid hL) hk).mono fun e W' ⟨he, bel⟩ => ?_
  subst he
  exact ⟨_, rfl, _, _, _, [], _, [], hW', trodAll_mk1 (shut_bool Tryd.underlying4 _), (trodAll_cons_mk (shut_string Tryd.underlying9 y0) trodAll_mk0), rfl, bel.frame _, fun h => by cases h⟩
theorem over : Rows.regexNormalRow.holds Tryd.pinned (OpenSpec.ofChange Rows.regexNormalSpec) :=
  OpenClaim.holds_of_wide 5 Tryd.f5 rfl rfl rfl rfl rfl rfl rfl ⟨rfl, rfl, rfl, rfl, rfl⟩ rfl rfl rfl rfl rfl (by kernel_rfl) Tryd.func5 (by kernel_rfl)
    (of_decide_eq_true (by kernel_rfl)) (by unfold Func.isWrapper; first | (rw [if_pos (by decide +kernel)]; kernel_rfl) | (rw [if_neg (by decide +kernel)]; exact ⟨rfl, rfl⟩))
    (fun os started H enc _ => lifted os started H enc)
theorem proved : Rows.RegexNormalSaid := over
theorem card : Rows.RegexNormalCardSaid :=
  Claim7.holds_tied_plain_at .later [] [.data] true (true, "c5b8a33fc80383584c2957dfcd3df46b2b3f85eb5c9da3009e5b3f9102dd9008") true
    proved (fun _ h => by cases h) (by kernel_rfl) (fun _ h => by cases h) regexNormal_row_tie rfl ⟨rfl, rfl⟩ (by kernel_rfl) rfl
    (fun f fn hf hfn => by
      obtain rfl : f = 5 := Option.some.inj ((show Tryd.prog.funcNamed "topiary/topiarylaw06.RegexNormal" = some 5 by kernel_rfl).symm.trans hf) |>.symm
      obtain rfl : fn = Tryd.f5 := (Option.some.inj (Tryd.func5.symm.trans hfn)).symm
      exact ⟨by kernel_rfl, fun j t ht => by
        rw [Tryd.params5] at ht
        have hm : t ∈ [9] := by simpa using Array.mem_of_getElem? ht
        have hall : ([9].all fun u => !Tryd.prog.wantsStandIn u) = true := by kernel_rfl
        exact (show Tryd.prog.wantsStandIn t = false by simpa using List.all_eq_true.1 hall t hm)⟩)
    (by kernel_rfl)
#print axioms card
end Go.Proofs.YtkabcjchgaokoaaDoor.regexNormal
namespace Go.Proofs.YtkabcjchgaokoaaDoor
/-- The card, under a short name, for the claim. -/
theorem regexNormal_card : Rows.RegexNormalCardSaid := regexNormal.card
end Go.Proofs.YtkabcjchgaokoaaDoor
