/- Proved here: the row of EditBoth over the walk and the plain law: for every input the call tells true. No condition. -/
import Derived.Test.YtfdpaaacgakaaaaRows
import Derived.Test.YtfdpaaacgakaaaaPureEditBoth
import Derived.WalkKit
import Derived.ProofKit
import Derived.OpenShut
import Derived.ShutString
import Derived.ChangeOld
import Derived.Below
import Derived.SizedLaws
import Derived.Lib.SmallJoins
import Derived.Deep.Slices
import Derived.Deep.Fields
import Derived.ChangeSame
namespace Go.Proofs.Ytfdpaaacgakaaaa.editBoth
open Go.ChangeShapes Go.WideShapes Go.ChangeAt Go.RowKit Go.Joins Go.Deep Go.Proofs.YtfdpaaacgakaaaaW.PrintWords Go.Proofs.YtfdpaaacgakaaaaW.PrintLast
open Go.ChangeMaps (open_string shut_string)
set_option linter.unusedVariables false
set_option linter.unusedSimpArgs false
theorem own : ownKnob Try.prog.godebug = none := by kernel_rfl
theorem laidOut : laidOutB Try.prog = true := by kernel_rfl
theorem cells23 : Try.prog.cellsOf 23 = 3 := by kernel_rfl
theorem cells52 : Try.prog.cellsOf 52 = 6 := by kernel_rfl
theorem cells3 : Try.prog.cellsOf 3 = 1 := by kernel_rfl
theorem cells9 : Try.prog.cellsOf 9 = 1 := by kernel_rfl
theorem array6 {α : Type} {cs : Array α} (h : cs.size = 6) : ∃ c0 c1 c2 c3 c4 c5, cs = #[c0, c1, c2, c3, c4, c5] := by
  obtain ⟨l⟩ := cs
  match l, h with
  | [c0, c1, c2, c3, c4, c5], _ => exact ⟨c0, c1, c2, c3, c4, c5, rfl⟩
theorem one_edit {H : Type} {enc : TypeId × Value → H} {W : World} {base : Nat} {sp : Nat → Bool} {held : Bool} {x y z : Value} {fuel : Nat} {o : DataW H × List MemPlace}
    (h : DataW.trod enc Try.prog W base sp held fuel 23 [x, y, z] = some o) : ∃ (a b : Int) (s : ByteArray), x = .int .i64 a ∧ y = .int .i64 b ∧ z = .string s := by
  obtain ⟨xs, n, _, _, _, hl, hf⟩ := DataW.trod_struct Try.underlying23 h
  match xs, hl with
  | [y0, y1, y2], _ =>
    have t0 := hf 0 _ rfl
    have t1 := hf 1 _ rfl
    have t2 := hf 2 _ rfl
    simp only [cells3, cells9, List.drop_zero, List.drop_succ_cons, List.take_succ_cons, List.take_zero, List.getElem?_cons_zero, List.getElem?_cons_succ] at t0 t1 t2
    obtain ⟨a0, e0, _, _⟩ := DataW.trod_int Try.underlying3 t0
    obtain ⟨a1, e1, _, _⟩ := DataW.trod_int Try.underlying3 t1
    obtain ⟨a2, e2, _, _⟩ := DataW.trod_string Try.underlying9 t2
    exact ⟨a0, a1, a2, by simpa [cells3] using e0, by simpa [cells3] using e1, by simpa [cells9] using e2⟩
set_option maxRecDepth 100000 in
theorem lifted (os : Os) (started : os.Started) (H : Type) (enc : TypeId × Value → H) :
    ReturnsInHanded {} Try.checked os 11 .any (Rows.editBothSpec.pre6 enc Try.prog Try.f11 Rows.editBothRow.domain false) (Rows.editBothSpec.post enc Try.prog Try.f11 false true false false) := by
  refine returnsInHanded_of_change_sized (C := Try.checked) own started (by kernel_rfl) Try.func11
    (ChangeSpec.witness6 (enc := enc) (C := Try.checked) false ⟨#[], #[.string ByteArray.empty, .agg #[.int .i64 0, .int .i64 0, .string ByteArray.empty, .int .i64 0, .int .i64 0, .string ByteArray.empty]], []⟩ 8 (by kernel_rfl) (by kernel_rfl) (by kernel_rfl) (by kernel_rfl)) ?_
  intro W base args ds gs before hval0 hW hcnd hsz0 _
  have hsz : (DataW.weightsEach Try.prog (Try.f11.params.toList ++ Rows.editBothSpec.plain.varTypes Try.prog) (ds ++ gs)).all (· ≤ reachBytes) = true := hsz0
  have hval : ∀ (j : Nat) t v, Try.f11.params[j]? = some t → args[j]? = some v → Value.okWide Try.prog W .any base t v := hval0
  have hW' := hW
  obtain ⟨p, q, hA0, hV, rfl, hfz, hnd⟩ := hW
  have hA : DataW.TrodAll enc Try.prog W 0 (fun _ => true) true Try.f11.params.toList args.toList ds p := hA0
  rw [Try.params11] at hA hval hsz
  obtain ⟨v0, vs0, d0, ds0, p0, q0, hargs, rfl, rfl, h0, r0⟩ := trodAll_cons hA
  obtain ⟨v1, vs1, d1, ds1, p1, q1, rfl, rfl, rfl, h1, r1⟩ := trodAll_cons r0
  obtain ⟨rfl, rfl, rfl⟩ := trodAll_nil r1
  obtain rfl : args = #[v0, v1] := by cases args; simp_all
  obtain ⟨rfl, rfl⟩ := trodVars_none hV
  obtain ⟨a0, rfl, rfl, rfl, y0⟩ := open_string Try.underlying9 (hval 0 9 v0 rfl rfl) h0
  have w0 : a0.size ≤ 140737488351232 := by
    have z := sized_string hsz (j := 0) (t := 9) rfl rfl
    rw [Array.length_toList] at z
    exact z
  have k1 := h1
  have lt1 : ∀ x ∈ p1, x.block < W.heap.size := by obtain ⟨m, hm⟩ := k1; exact DataW.trod_lt m _ _ _ hm
  obtain ⟨x10, x11, x12, x13, x14, x15, z10, z11, z12, z13, z14, z15, rfl, rfl, rfl, rfl, rfl, rfl, rfl⟩ : ∃ (x0 x1 : Int) (x2 : ByteArray) (x3 x4 : Int) (x5 : ByteArray) (z0 z1 z2 z3 z4 z5 : Value), z0 = .int .i64 x0 ∧ z1 = .int .i64 x1 ∧ z2 = .string x2 ∧ z3 = .int .i64 x3 ∧ z4 = .int .i64 x4 ∧ z5 = .string x5 ∧ v1 = .agg #[z0, z1, z2, z3, z4, z5] := by
    have hv := hval 1 52 v1 rfl rfl
    simp only [Value.okWide, Try.underlying52] at hv
    obtain ⟨cs, rfl, hsz6, _⟩ := hv
    obtain ⟨c0, c1, c2, c3, c4, c5, rfl⟩ := array6 (hsz6.trans cells52)
    obtain ⟨fuel, hf⟩ := h1
    obtain ⟨xs, m, _, _, _, hl2, hel⟩ := DataW.trod_array Try.underlying52 hf
    match xs, hl2 with
    | [y0, y1], _ =>
      have t0 := hel 0 (by decide)
      have t1 := hel 1 (by decide)
      simp only [cells23] at t0 t1
      obtain ⟨a0, a1, a2, e0, e1, e2⟩ := one_edit (x := c0) (y := c1) (z := c2) t0
      obtain ⟨b0, b1, b2, e3, e4, e5⟩ := one_edit (x := c3) (y := c4) (z := c5) t1
      exact ⟨a0, a1, a2, b0, b1, b2, c0, c1, c2, c3, c4, c5, e0, e1, e2, e3, e4, e5, rfl⟩
  clear hA0 hval0 hsz0 hsz
  refine (Pure.law a0 x10 x11 x12 x13 x14 x15 w0 W).mono fun e W' ⟨he, bel⟩ => ?_
  subst he
  exact ⟨_, rfl, _, _, _, [], _, [], hW', trodAll_mk1 (shut_bool Try.underlying4 _), (trodAll_cons_mk (shut_string Try.underlying9 y0) (trodAll_cons_mk (Below.trod laidOut (by kernel_rfl) (of_decide_eq_true (by kernel_rfl)) k1 bel lt1) trodAll_mk0)), rfl, bel.frame _, fun h => by cases h⟩
theorem over : Rows.editBothRow.holds Try.pinned (OpenSpec.ofChange Rows.editBothSpec) :=
  OpenClaim.holds_of_wide 11 Try.f11 rfl rfl rfl rfl rfl rfl rfl ⟨rfl, rfl, rfl, rfl, rfl⟩ rfl rfl rfl rfl rfl (by kernel_rfl) Try.func11 (by kernel_rfl)
    (of_decide_eq_true (by kernel_rfl)) (by unfold Func.isWrapper; first | (rw [if_pos (by decide +kernel)]; kernel_rfl) | (rw [if_neg (by decide +kernel)]; exact ⟨rfl, rfl⟩))
    (fun os started H enc _ => lifted os started H enc)
theorem proved : Rows.EditBothSaid := over
#print axioms proved
end Go.Proofs.Ytfdpaaacgakaaaa.editBoth
namespace Go.Proofs.Ytfdpaaacgakaaaa
/-- The row, under a short name, for the claim. -/
theorem editBoth_holds : Rows.EditBothSaid := editBoth.proved
end Go.Proofs.Ytfdpaaacgakaaaa
