/- Proved here: a part of the evaluator for the model's functions, and that a call does what it says; the parts are told one by one. No condition. -/
import Derived.Test.YtfnepeilccainaaRows
import Derived.Test.YtfnepeilccainaaTb
import Derived.Test.YtfnepeilccainaaMn
import Derived.WalkKit
import Derived.ProofKit
import Derived.OpenShut
import Derived.ShutString
import Derived.ChangeOld
import Derived.Below
import Derived.SizedLaws
import Derived.Lib.SmallJoins
import Derived.Deep.Slices
import Derived.Deep.Fields
import Derived.ChangeSame
/- Proved here: the row of PieceSlices: for every input the call tells true. No condition. -/
namespace Go.Proofs.Ytfnepeilccainaa.slices
open Go.ChangeShapes Go.WideShapes Go.ChangeAt Go.RowKit Go.Joins Go.Deep Go.Proofs.Ytfnepeilccainaa.Den
open Go.ChangeMaps (open_string shut_string)
set_option linter.unusedVariables false
theorem own : ownKnob Try.prog.godebug = none := by kernel_rfl
theorem laidOut : laidOutB Try.prog = true := by kernel_rfl
theorem params : Try.f6.params.toList = [9, 31, 46] := by kernel_rfl
theorem two_R {W : World} {σ : Sig} (a n : Int) : R C W (fun b => b < W.heap.size) σ (.g [.i .i64 a, .i .i64 n]) [.int .i64 a, .int .i64 n] := by
  have := R.g (C := C) (w := W) (F := fun b => b < W.heap.size) (σ := σ) (fs := [.i .i64 a, .i .i64 n]) [[.int .i64 a], [.int .i64 n]] rfl (fun j x c h1 h2 => by
    match j, h1, h2 with
    | 0, h1, h2 => cases h1; cases h2; exact .i
    | 1, h1, h2 => cases h1; cases h2; exact .i)
  exact this
theorem all_vr {W : World} (s : ByteArray) (e : Ed) (a n : Int) (j : Nat) (av : AV) (v : Value) (h1 : [AV.s s, e.av, .g [.i .i64 a, .i .i64 n]][j]? = some av) (h2 : #[Value.string s, .agg #[.int .i64 e.at_, .int .i64 e.len, .string e.text], .agg #[.int .i64 a, .int .i64 n]][j]? = some v) : VR C W (fun b => b < W.heap.size) noSig av v := by
  match j, h1, h2 with
  | 0, h1, h2 => cases h1; cases h2; exact vr_s s
  | 1, h1, h2 => cases h1; cases h2; exact VR.agg (ed_R e)
  | 2, h1, h2 => cases h1; cases h2; exact VR.agg (two_R a n)
theorem open_ed {H : Type} {enc : TypeId × Value → H} {W : World} {v1 : Value} {base : Nat} {d : DataW H} {p : List MemPlace} (hv : Value.okWide Try.prog W .any base 31 v1) (h1 : DataW.Trod enc Try.prog W 0 (fun _ => true) true 31 v1 d p) : ∃ e : Ed, v1 = .agg #[.int .i64 e.at_, .int .i64 e.len, .string e.text] := by
  simp only [Value.okWide, Try.underlying31] at hv
  obtain ⟨cs, rfl, _, _⟩ := hv
  obtain ⟨fuel, hf⟩ := h1
  obtain ⟨q, hq⟩ := ed_el hf
  have hq : cs.toList = _ := hq
  exact ⟨q, by rw [← Array.toArray_toList (xs := cs), hq]⟩
theorem c46 : Try.prog.cellsOf 46 = 2 := by kernel_rfl
set_option maxRecDepth 100000 in
theorem open_two {H : Type} {enc : TypeId × Value → H} {W : World} {v2 : Value} {base : Nat} {d : DataW H} {p : List MemPlace} (hv : Value.okWide Try.prog W .any base 46 v2) (h2 : DataW.Trod enc Try.prog W 0 (fun _ => true) true 46 v2 d p) : ∃ a n : Int, v2 = .agg #[.int .i64 a, .int .i64 n] := by
  simp only [Value.okWide, Try.underlying46] at hv
  obtain ⟨cs, rfl, hcs, _⟩ := hv
  rw [c46] at hcs
  obtain ⟨l⟩ := cs
  match l, hcs with
  | [x, y], _ =>
    obtain ⟨fuel, hf⟩ := h2
    obtain ⟨xs, m, _, _, _, hl2, hel⟩ := DataW.trod_array Try.underlying46 hf
    match xs, hl2 with
    | [y0, y1], _ =>
      have t0 := hel 0 (by decide)
      have t1 := hel 1 (by decide)
      obtain ⟨a0, e0, _, _⟩ := DataW.trod_int Try.underlying3 t0
      obtain ⟨a1, e1, _, _⟩ := DataW.trod_int Try.underlying3 t1
      have e0' : x = .int .i64 a0 := by simpa [cells3, Value.cells] using e0
      have e1' : y = .int .i64 a1 := by simpa [cells3, Value.cells] using e1
      exact ⟨a0, a1, by rw [e0', e1']⟩
set_option maxRecDepth 100000 in
theorem lifted (os : Os) (started : os.Started) (H : Type) (enc : TypeId × Value → H) :
    ReturnsInHanded {} Try.checked os 6 .any (Rows.pieceSlicesSpec.pre6 enc Try.prog Try.f6 Rows.pieceSlicesRow.domain false) (Rows.pieceSlicesSpec.post enc Try.prog Try.f6 false true false false) := by
  refine returnsInHanded_of_change_sized (C := Try.checked) own started (by kernel_rfl) Try.func6
    (ChangeSpec.witness6 (enc := enc) (C := Try.checked) false ⟨#[], #[.string ByteArray.empty, .agg #[.int .i64 0, .int .i64 0, .string ByteArray.empty], .agg #[.int .i64 0, .int .i64 0]], []⟩ 8 (by kernel_rfl) (by kernel_rfl) (by kernel_rfl) (by kernel_rfl)) ?_
  intro W base args ds gs before hval0 hW hcnd hsz0 _
  have hval : ∀ (j : Nat) t v, Try.f6.params[j]? = some t → args[j]? = some v → Value.okWide Try.prog W .any base t v := hval0
  have hW' := hW
  obtain ⟨p, q, hA0, hV, rfl, hfz, hnd⟩ := hW
  have hA : DataW.TrodAll enc Try.prog W 0 (fun _ => true) true Try.f6.params.toList args.toList ds p := hA0
  rw [params] at hA
  obtain ⟨v0, vs0, d0, ds0, p0, q0, hargs, rfl, rfl, h0, r0⟩ := trodAll_cons hA
  obtain ⟨v1, vs1, d1, ds1, p1, q1, rfl, rfl, rfl, h1, r1⟩ := trodAll_cons r0
  obtain ⟨v2, vs2, d2, ds2, p2, q2, rfl, rfl, rfl, h2, r2⟩ := trodAll_cons r1
  obtain ⟨rfl, rfl, rfl⟩ := trodAll_nil r2
  obtain rfl : args = #[v0, v1, v2] := by cases args; simp_all
  obtain ⟨rfl, rfl⟩ := trodVars_none hV
  obtain ⟨a0, rfl, rfl, rfl, y0⟩ := open_string Try.underlying9 (hval 0 9 v0 (by kernel_rfl) rfl) h0
  have k1 := h1
  have lt1 : ∀ x ∈ p1, x.block < W.heap.size := by obtain ⟨m, hm⟩ := k1; exact DataW.trod_lt m _ _ _ hm
  have k2 := h2
  have lt2 : ∀ x ∈ p2, x.block < W.heap.size := by obtain ⟨m, hm⟩ := k2; exact DataW.trod_lt m _ _ _ hm
  obtain ⟨e, rfl⟩ := open_ed (hval 1 31 v1 (by kernel_rfl) rfl) h1
  obtain ⟨a, n, rfl⟩ := open_two (hval 2 46 v2 (by kernel_rfl) rfl) h2
  clear hA0 hval0 hsz0
  obtain ⟨k, hk⟩ := slices_ok a0 e a n
  refine (row_of (n := 6) (f := Try.f6) (xs := [.s a0, e.av, .g [.i .i64 a, .i .i64 n]]) (vals := #[.string a0, .agg #[.int .i64 e.at_, .int .i64 e.len, .string e.text], .agg #[.int .i64 a, .int .i64 n]]) (W := W) (k := k) Try.func6 (by kernel_rfl) (by kernel_rfl) (by kernel_rfl) (by kernel_rfl) (by kernel_rfl) (by kernel_rfl) (hk k (Nat.le_refl _)) rfl (all_vr a0 e a n)).mono fun ee W' ⟨he, bel⟩ => ?_
  subst he
  exact ⟨_, rfl, _, _, _, [], _, [], hW', trodAll_mk1 (shut_bool Try.underlying4 _), (trodAll_cons_mk (shut_string Try.underlying9 y0) (trodAll_cons_mk (Below.trod laidOut (by kernel_rfl) (of_decide_eq_true (by kernel_rfl)) k1 bel lt1) (trodAll_cons_mk (Below.trod laidOut (by kernel_rfl) (of_decide_eq_true (by kernel_rfl)) k2 bel lt2) trodAll_mk0))), rfl, bel.frame _, fun h => by cases h⟩
theorem over : Rows.pieceSlicesRow.holds Try.pinned (OpenSpec.ofChange Rows.pieceSlicesSpec) :=
  OpenClaim.holds_of_wide 6 Try.f6 rfl rfl rfl rfl rfl rfl rfl ⟨rfl, rfl, rfl, rfl, rfl⟩ rfl rfl rfl rfl rfl (by kernel_rfl) Try.func6 (by kernel_rfl)
    (of_decide_eq_true (by kernel_rfl)) (by unfold Func.isWrapper; first | (rw [if_pos (by decide +kernel)]; kernel_rfl) | (rw [if_neg (by decide +kernel)]; exact ⟨rfl, rfl⟩))
    (fun os started H enc _ => lifted os started H enc)
end Go.Proofs.Ytfnepeilccainaa.slices
namespace Go.Proofs.Ytfnepeilccainaa
/-- The row, under a short name, for the claim. -/
theorem pieceSlices_holds : Rows.PieceSlicesSaid := slices.over
#print axioms pieceSlices_holds
end Go.Proofs.Ytfnepeilccainaa
