/- Proved here: a part of the proof, told one step at a time: ThOpen. No condition but those each theorem names. -/
import Derived.Test.YteklakapimggeaaGreatDoorM1
import Derived.Test.YteklakapimggeaaGreatDoorKf
import Derived.Test.YteklakapimggeaaGreatDoorTa1
import Derived.Test.YteklakapimggeaaGreatDoorRows
import Derived.Below
import Derived.Lib.LaidU8
import Derived.Lib.LaidTab
namespace Go.Proofs.YteklakapimggeaaGreatDoor.Den
open Go Go.Proofs Go.RowKit
set_option linter.unusedVariables false
set_option linter.unusedSimpArgs false
def TabAt (W : World) : Prop := ∃ t fr, W.heap[pow10B]? = some (.cells (Lib.pow10Tab.map fun z => Value.int .u64 z).toArray t fr)
theorem tab_of_laid {W : World} {l : List (String × DataW Unit)} (h : laidMet Tryz.prog l W) (hm : ("internal/strconv.uint64pow10", Rows.laid_internal_strconv_uint64pow10) ∈ l) : TabAt W := by
 obtain ⟨g, t, cs, fuel, p, hg, hty, hvar, hd⟩ := Lib.laidMet.reads h hm
 obtain rfl := Option.some.inj ((show Tryz.prog.globalNamed "internal/strconv.uint64pow10" = some pow10B by kernel_rfl).symm.trans hg)
 obtain ⟨t0, ht0⟩ : ∃ t0, (Tryz.prog.globals[pow10B]?).map (·.type) = some t0 ∧ Tryz.prog.cellsOf t0 = 20 ∧ ∃ e, Tryz.prog.underlying t0 = some (.array 20 e) ∧ Tryz.prog.underlying e = some (.int .u64) ∧ Tryz.prog.cellsOf e = 1 := ⟨228, by kernel_rfl, by kernel_rfl, 190, by kernel_rfl, by kernel_rfl, by kernel_rfl⟩
 obtain ⟨h1, h2, e, h3, h4, h5⟩ := ht0
 obtain rfl := Option.some.inj (h1.symm.trans hty)
 have hcs := Lib.cells_of_tab (k := .u64) (zs := Lib.pow10Tab) h3 h4 h5 h2 hd
 unfold World.var? at hvar
 rw [hg, Option.bind_some] at hvar
 unfold TabAt
 cases hh : W.heap[pow10B]? with
 | none => rw [hh] at hvar; cases hvar
 | some o =>
  rw [hh] at hvar
  cases o <;> first | (cases hvar; done) | skip
  rename_i cur t' fr
  cases hvar
  refine ⟨t', fr, ?_⟩
  rw [← hcs]
theorem row_of {n : FuncId} {f : Func} {xs : List AV} {vals : Array Value} {W : World} (htab : TabAt W) (hf : Tryz.prog.funcs[n]? = some f) (hbody : f.body.isSome = true) (hlen : xs.length = f.params.size + f.nfree) (henter : enterL C 0 (C.pm n) (parL f) xs = (xs, [])) (hrefs : refE C 0 (C.pm n) (parL f) = [])
  (hres : f.resultTypes = #[4]) (hrm : C.rm n = []) (hp : C.prim n = none) (hD : D n xs = some [.b true]) (hn : vals.size = xs.length) (hv : ∀ (j : Nat) a v, xs[j]? = some a → vals[j]? = some v → VR C W (fun b => b < W.heap.size) noSig a v) :
  Calls Tryz.prog n vals W fun e W' => e = .returned (.bool true) ∧ Below W.heap.size W W' := by
 obtain ⟨k, h⟩ := D_run hp hD
 have hs : Sim C (fun b => b < W.heap.size) noSig [] W := by
  refine ⟨fun id => by simp [BlkAt], fun id _ _ hl => absurd rfl hl, fun id _ hl => absurd rfl hl, fun _ _ => rfl, fun _ hb => hb, fun q hq => ?_⟩
  obtain ⟨t, fr, ht⟩ := htab
  have hq' : q ∈ [(pow10B, (Lib.pow10Tab.map fun z => Value.int .u64 z).toArray)] := hq
  rw [List.mem_singleton] at hq'
  subst hq'
  exact ⟨(Array.getElem?_eq_some_iff.mp ht).1, t, fr, ht⟩
 have := main_ok k n hf hbody hlen h (F0 := fun b => b < W.heap.size) (σ0 := noSig) (w := W) (vals := vals) (by rw [henter]; exact hs) hn (by rw [henter]) (by rw [henter]; exact hv)
 refine Calls.mono this fun e W' ⟨val, he, F1, σ1, S1, vs, plss, ks, src, h1, hstp, h3, h4, h5, h6, _, _, _, hval⟩ => ?_
 have hstp : Stp C (fun b => b < W.heap.size) noSig [] W F1 σ1 S1 W' := by rw [henter] at hstp; exact hstp
 rw [hrefs, hres] at h6
 obtain ⟨v, rfl⟩ : ∃ v, vs = [v] := by
  match vs, h4 with
  | [v], _ => exact ⟨v, rfl⟩
 obtain ⟨pls, rfl⟩ : ∃ v, plss = [v] := by
  match plss, h3 with
  | [v], _ => exact ⟨v, rfl⟩
 have hl := h6 0 0 4 (.b true) pls v (by rw [hrm]; rfl) rfl rfl rfl
 have hp : pls.length = 0 := by rw [← hl.1 0 0 (.b true)]; rfl
 have hvr := (hl.2 noSig 0 0 fun i hi => by omega).1
 have e1 : (lay C 0 4 0 0 (.b true)).1 = .b true := by kernel_rfl
 rw [e1] at hvr
 have hr := hvr.one_inv (by simp) (by simp) (by simp)
 cases hr
 refine ⟨by rw [he, hval, hres]; rfl, hstp.os, hstp.tape, hstp.output, hstp.heap, fun b hb => hstp.keep b hb fun id hl => absurd rfl hl⟩
section
variable {W : World} {F : Nat → Prop} {σ : Sig}
theorem vr_i (k : IntKind) (n : Int) : VR C W F σ (.i k n) (.int k n) := .one (by simp) .i
theorem lie_l {e : TypeId} {xs : List AV} {cs : List Value} (h : R C W F σ (.l e xs) cs) : ∀ x ∈ xs, Wt C e x ∧ ∃ c, R C W F noSig x c := by
 intro x hx
 generalize ha : AV.l e xs = a at h
 cases h with
 | l0 => cases ha; cases hx
 | l cells h1 h2 h3 h4 =>
  cases ha
  obtain ⟨j, hj⟩ := List.getElem?_of_mem hx
  exact ⟨(h3 j x hj).1, _, h4 j x hj⟩
 | _ => cases ha
theorem lie_g {fs : List AV} {cs : List Value} (h : R C W F σ (.g fs) cs) {j : Nat} {a : AV} (ha : fs[j]? = some a) : ∃ c, R C W F σ a c := by
 generalize hg : AV.g fs = g at h
 cases h with
 | g css h1 h2 =>
  cases hg
  obtain ⟨c, hc⟩ := getElem?_of_lt (l := css) (j := j) (by have := getElem?_lt ha; omega)
  exact ⟨c, h2 j a c ha hc⟩
 | _ => cases hg
theorem all_el {α : Type} (el : α → AV) : ∀ {xs : List AV}, (∀ x ∈ xs, ∃ y, x = el y) → ∃ ys : List α, xs = ys.map el
 | [], _ => ⟨[], rfl⟩
 | x :: xs, h => by
  obtain ⟨y, rfl⟩ := h x (by simp)
  obtain ⟨ys, rfl⟩ := all_el el (xs := xs) fun z hz => h z (by simp [hz])
  exact ⟨y :: ys, rfl⟩
theorem w_v3 (x : AV) : view C C.P.depth T_int x = .i .i64 x.int := by kernel_rfl
theorem w_v9 (x : AV) : view C C.P.depth T_string x = .s x.str := by kernel_rfl
theorem w_v148 (x : AV) : view C C.P.depth T_api_Level x = .g [.i .i64 (x.fld 0).int, .i .i64 (x.fld 1).int] := by kernel_rfl
theorem w_v64 (x : AV) : view C C.P.depth T_api_Prod x = .g [.i .i64 (x.fld 0).int, .l T_int (x.fld 1).list, .i .i64 (x.fld 2).int] := by kernel_rfl
theorem w_v62 (x : AV) : view C C.P.depth T_api_Rule x = .g [.s (x.fld 0).str, .l T_api_Cell (x.fld 1).list, .b (x.fld 2).bool] := by kernel_rfl
theorem w_v27 (x : AV) : view C (0 + 8) T_api_Grammar x = .g [.l T_api_Rule (x.fld 0).list, .l T_string (x.fld 1).list, .l T_api_Level (x.fld 2).list, .l T_api_Prod (x.fld 3).list, .i .i64 (x.fld 4).int] := by kernel_rfl
theorem w_v37 (x : AV) : view C (0 + 8) 37 x = .l T_int x.list := by kernel_rfl
theorem ints_of {xs : List AV} {cs : List Value} (h : R C W F σ (.l T_int xs) cs) : ∃ ys : List Int, xs = ys.map (AV.i .i64) :=
 all_el _ fun x hx => ⟨x.int, (lie_l h x hx).1.2.symm.trans (w_v3 x)⟩
theorem gram_of {a : AV} {cs : List Value} (hv : ∀ k, view C (k + 8) T_api_Grammar a = a) (h : R C W F σ a cs) : ∃ g : Gr, a = g.av := by
 have e := (w_v27 a).symm.trans (hv 0)
 generalize (a.fld 0).list = l0 at e
 generalize (a.fld 1).list = l1 at e
 generalize (a.fld 2).list = l2 at e
 generalize (a.fld 3).list = l3 at e
 generalize (a.fld 4).int = z at e
 subst e
 obtain ⟨c0, r0⟩ := lie_g h (j := 0) rfl
 obtain ⟨c1, r1⟩ := lie_g h (j := 1) rfl
 obtain ⟨c2, r2⟩ := lie_g h (j := 2) rfl
 obtain ⟨c3, r3⟩ := lie_g h (j := 3) rfl
 obtain ⟨rs, rfl⟩ := all_el Rul.av fun x hx => ⟨⟨(x.fld 0).str, (x.fld 1).list, (x.fld 2).bool⟩, (lie_l r0 x hx).1.2.symm.trans (w_v62 x)⟩
 obtain ⟨ns, rfl⟩ := all_el AV.s fun x hx => ⟨x.str, (lie_l r1 x hx).1.2.symm.trans (w_v9 x)⟩
 obtain ⟨ls, rfl⟩ := all_el itemAV fun x hx => ⟨((x.fld 0).int, (x.fld 1).int), (lie_l r2 x hx).1.2.symm.trans (w_v148 x)⟩
 obtain ⟨ps, rfl⟩ := all_el Prd.av (xs := l3) fun x hx => by
  obtain ⟨hw, c, rc⟩ := lie_l r3 x hx
  have e := (w_v64 x).symm.trans hw.2
  generalize (x.fld 0).int = p0 at e
  generalize (x.fld 1).list = p1 at e
  generalize (x.fld 2).int = p2 at e
  subst e
  obtain ⟨c', r'⟩ := lie_g rc (j := 1) rfl
  obtain ⟨ys, rfl⟩ := ints_of r'
  exact ⟨⟨p0, ys, p2⟩, rfl⟩
 exact ⟨⟨rs, ns, ls, ps, z⟩, rfl⟩
end
section
variable {H : Type} {enc : TypeId × Value → H} {W : World}
theorem open_gram {cs : Array Value} {d : DataW H} {p : List MemPlace} (h : DataW.Trod enc Tryz.prog W 0 (fun _ => true) true T_api_Grammar (.agg cs) d p) : ∃ g : Gr, VR C W (fun b => b < W.heap.size) noSig g.av (.agg cs) := by
 obtain ⟨fuel, hf⟩ := h
 obtain ⟨a, ⟨_, hv⟩, hr⟩ := any_open (C := C) hlay 8 T_api_Grammar (of_decide_eq_true (by kernel_rfl)) (by kernel_rfl) _ _ _ hf
 obtain ⟨g, rfl⟩ := gram_of hv hr
 exact ⟨g, .agg hr⟩
theorem open_ints {a : Option Addr} {len cap : Nat} {d : DataW H} {p : List MemPlace} (h : DataW.Trod enc Tryz.prog W 0 (fun _ => true) true 37 (.slice a len cap) d p) : ∃ ys : List Int, VR C W (fun b => b < W.heap.size) noSig (nums ys) (.slice a len cap) := by
 obtain ⟨fuel, hf⟩ := h
 obtain ⟨x, ⟨_, hv⟩, hr⟩ := any_open (C := C) hlay 8 37 (of_decide_eq_true (by kernel_rfl)) (by kernel_rfl) _ _ _ hf
 have e := (w_v37 x).symm.trans (hv 0)
 generalize x.list = l at e
 subst e
 obtain ⟨ys, rfl⟩ := ints_of hr
 exact ⟨ys, .one (by simp) hr⟩
end
noncomputable def flds (T : TypeId) : Array Field := match Tryz.prog.underlying T with | some (.struct fs) => fs | _ => #[]
theorem und_g : Tryz.prog.underlying 27 = some (.struct (flds 27)) := by kernel_rfl
theorem und_i : Tryz.prog.underlying 3 = some (.int .i64) := by kernel_rfl
theorem und_I : Tryz.prog.underlying 37 = some (.slice 3) := by kernel_rfl
theorem und_b : Tryz.prog.underlying 4 = some .bool := by kernel_rfl
end Go.Proofs.YteklakapimggeaaGreatDoor.Den
