/- Proved here: a part of the proof, told one step at a time: DenC0, DenOrd, DenSort, DenIdle, DenMainB. No condition but those each theorem names. -/
import Derived.Test.YteklakapimggeaaGreatDoorQf1
import Derived.Test.YteklakapimggeaaGreatDoorKf
import Derived.KernelRfl
import Derived.Test.YteklakapimggeaaGreatDoorTa1
import Derived.Test.YteklakapimggeaaGreatDoorSortLay
import Derived.Shelf.SlSortCmp.NoneTotal
import Derived.Test.YteklakapimggeaaGreatDoorKe
import Derived.WalkKit
import Derived.Recover
import Derived.Defers
import Derived.Test.YteklakapimggeaaGreatDoorP
namespace Go.Proofs.YteklakapimggeaaGreatDoor.Den
open Go Go.Proofs
set_option linter.unusedVariables false
noncomputable def C0 : Cfg := { P := Tryz.prog, keep := C.keep, pm := C.pm, rm := C.rm, own := C.own, prim := fun _ => none }
theorem hlay0 : layB C0 = true := by kernel_rfl
theorem hnam0 : namesB C0 = true := by kernel_rfl
theorem hmix0 : C0.P.follows .mixedOrders = true := by rfl
noncomputable def l0_cmp_Or_int_r3 (k : Nat) (y0 : Int) (y1 : List AV) (y2 y3 : Int) : Out := regD C0 (callG C0 (go C0 k)) (fun x => go C0 k (List AV) false 112 Tryz.f112 [] [] [.code (cAt [1, 1, 0, 1, 0, 0, 1] b112), .lp (cAt [1, 1, 0, 1, 0, 0] b112), .blk 0, .code (cAt [1, 1, 1] b112)] x (finish C0 112 Tryz.f112)) (rOps (cAt [1, 1, 0, 1, 0, 0, 0] b112)) false ⟨[AV.u, AV.u, AV.u, (AV.i .i64 y0), AV.u, AV.u, (AV.l T_int y1), (AV.i .i64 y2), (AV.i .i64 y3), AV.u, AV.u, AV.u, AV.u, AV.u, AV.u, AV.u, AV.u, AV.u], []⟩
noncomputable def L0_cmp_Or_int_r3 (y0 : Int) (y1 : List AV) (y2 y3 : Int) : Out := Lm fun k => l0_cmp_Or_int_r3 k y0 y1 y2 y3
theorem lt0_cmp_Or_int_r3 (c : Nat) (y0 : Int) (y1 : List AV) (y2 y3 : Int) : Lt (fun k => l0_cmp_Or_int_r3 (k + c) y0 y1 y2 y3) (L0_cmp_Or_int_r3 y0 y1 y2 y3) := Lt.loop c fun k => l0_cmp_Or_int_r3 k y0 y1 y2 y3
attribute [irreducible] l0_cmp_Or_int_r3
theorem e0_cmp_isNaN_int (k : Nat) (x0 : Int) : call C0 (k + 5) cmp_isNaN_int [(AV.i .i64 x0)] = t_cmp_isNaN_int (fun c => callP C0 (callF C0 (k + c))) x0 := by kernel_rfl
theorem d0_cmp_isNaN_int (x0 : Int) {o : List AV} (h : t_cmp_isNaN_int (fun _ => DC C0) x0 = some o) : DC C0 cmp_isNaN_int [(AV.i .i64 x0)] = some o := DC.fin (by rfl) (fun k => e0_cmp_isNaN_int k x0) Lt.ret h
theorem e0_cmp_Compare_int (k : Nat) (x0 x1 : Int) : call C0 (k + 29) cmp_Compare_int [(AV.i .i64 x0), (AV.i .i64 x1)] = t_cmp_Compare_int (fun c => callP C0 (callF C0 (k + c))) x0 x1 := by kernel_rfl
theorem d0_cmp_Compare_int (x0 x1 : Int) {o : List AV} (h : t_cmp_Compare_int (fun _ => DC C0) x0 x1 = some o) : DC C0 cmp_Compare_int [(AV.i .i64 x0), (AV.i .i64 x1)] = some o := DC.fin (by rfl) (fun k => e0_cmp_Compare_int k x0 x1) (Lt.bind (DC.lt 25) fun o1 => (Lt.bind (DC.lt 23) fun o2 => (Lt.ite (Lt.ite Lt.ret Lt.ret) (Lt.ite Lt.ret (Lt.ite Lt.ret (Lt.ite Lt.ret Lt.ret)))))) h
theorem e0_cmp_Or_int_r3 (k : Nat) (y0 : Int) (y1 : List AV) (y2 y3 : Int) : l0_cmp_Or_int_r3 (k + 16) y0 y1 y2 y3 = t_cmp_Or_int_r3 (fun c => callP C0 (callF C0 (k + c))) (fun c => l0_cmp_Or_int_r3 (k + c)) y0 y1 y2 y3 := by kernel_rfl
theorem d0_cmp_Or_int_r3 (y0 : Int) (y1 : List AV) (y2 y3 : Int) {o : List AV} (h : t_cmp_Or_int_r3 (fun _ => DC C0) (fun _ => L0_cmp_Or_int_r3) y0 y1 y2 y3 = some o) : L0_cmp_Or_int_r3 y0 y1 y2 y3 = some o := Lt.fin (fun k => e0_cmp_Or_int_r3 k y0 y1 y2 y3) (Lt.ite (Lt.ite (Lt.ite Lt.ret (lt0_cmp_Or_int_r3 0 _ _ _ _)) Lt.no) Lt.ret) h
theorem e0_cmp_Or_int (k : Nat) (x0 : List AV) : call C0 (k + 11) cmp_Or_int [(AV.l T_int x0)] = t_cmp_Or_int (fun c => callP C0 (callF C0 (k + c))) (fun c => l0_cmp_Or_int_r3 (k + c)) x0 := by kernel_rfl
theorem d0_cmp_Or_int (x0 : List AV) {o : List AV} (h : t_cmp_Or_int (fun _ => DC C0) (fun _ => L0_cmp_Or_int_r3) x0 = some o) : DC C0 cmp_Or_int [(AV.l T_int x0)] = some o := DC.fin (by rfl) (fun k => e0_cmp_Or_int k x0) (lt0_cmp_Or_int_r3 0 _ _ _ _) h
theorem e0_items_order (k : Nat) (x0 x1 : Int) (x2 x3 : Int) : call C0 (k + 5) items_order [(AV.g [(AV.i .i64 x0), (AV.i .i64 x1)]), (AV.g [(AV.i .i64 x2), (AV.i .i64 x3)])] = t_items_order (fun c => callP C0 (callF C0 (k + c))) x0 x1 x2 x3 := by kernel_rfl
theorem d0_items_order (x0 x1 : Int) (x2 x3 : Int) {o : List AV} (h : t_items_order (fun _ => DC C0) x0 x1 x2 x3 = some o) : DC C0 items_order [(AV.g [(AV.i .i64 x0), (AV.i .i64 x1)]), (AV.g [(AV.i .i64 x2), (AV.i .i64 x3)])] = some o := DC.fin (by rfl) (fun k => e0_items_order k x0 x1 x2 x3) (Lt.bind (DC.lt 1) fun o1 => (Lt.bind (DC.lt 1) fun o2 => (Lt.bind (DC.lt 1) fun o3 => Lt.ret))) h
end Go.Proofs.YteklakapimggeaaGreatDoor.Den
namespace Go.Proofs.YteklakapimggeaaGreatDoor.Den
open Go Go.Proofs
set_option linter.unusedVariables false
set_option linter.unusedSimpArgs false
theorem cmp0 (x y : Int) : DC C0 cmp_Compare_int [.i .i64 x, .i .i64 y] = some [.i .i64 (cmpI2 x y)] := by
 have hn : ∀ x : Int, DC C0 cmp_isNaN_int [.i .i64 x] = some [.b false] := fun x => by
  apply d0_cmp_isNaN_int
  simp [t_cmp_isNaN_int]
 apply d0_cmp_Compare_int
 simp [t_cmp_Compare_int, hn, cmpI2]
 split
 ·rfl
 ·split <;> rfl
theorem or0 (x y : Int) : DC C0 cmp_Or_int [.l T_int [.i .i64 x, .i .i64 y]] = some [.i .i64 (if x ≠ 0 then x else y)] := by
 have h2 : L0_cmp_Or_int_r3 0 [.i .i64 x, .i .i64 y] 2 2 = some [.i .i64 0] := by
  apply d0_cmp_Or_int_r3
  simp [t_cmp_Or_int_r3]
 have h1 : L0_cmp_Or_int_r3 0 [.i .i64 x, .i .i64 y] 2 1 = some [.i .i64 y] := by
  apply d0_cmp_Or_int_r3
  have w : IntKind.wrap .i64 ((1 : Int) + 1) = 2 := by decide
  simp only [t_cmp_Or_int_r3, w, h2]
  by_cases q : y = 0 <;> simp [q]
 have h0 : L0_cmp_Or_int_r3 0 [.i .i64 x, .i .i64 y] 2 0 = some [.i .i64 (if x ≠ 0 then x else y)] := by
  apply d0_cmp_Or_int_r3
  have w : IntKind.wrap .i64 ((0 : Int) + 1) = 1 := by decide
  simp only [t_cmp_Or_int_r3, w, h1]
  by_cases q : x = 0 <;> simp [q]
 apply d0_cmp_Or_int
 simpa [t_cmp_Or_int] using h0
theorem ord0 (x y : Itm) : DC C0 items_order [itemAV x, itemAV y] = some [.i .i64 (ordI x y)] := by
 apply d0_items_order
 simp only [t_items_order, cmp0, or0, Option.bind_some, List.headD_cons, int_i]
 rfl
theorem call0_ok (k : Nat) (n : FuncId) : CalleeAt C0 n (call C0 k n) :=
 call_ok hlay0 hnam0 hmix0 (fun h => by cases h) (fun n q f h _ => by cases h) (fun n h => by cases h) (fun n pf h => by cases h) k n
theorem int_of {Cf : Cfg} (htb : Cf.tb = []) (hlx : Cf.lax = false) {n : FuncId} {f : Func} {xs : List AV} {vals : Array Value} {W : World} {k : Nat} {r : Int} (hmain : CalleeAt Cf n (call Cf k n)) (h3 : ∀ T, T = 3 → (lay Cf 0 T 0 0 (.i .i64 r)).1 = .i .i64 r ∧ (lay Cf 0 T 0 0 (.b true)).2 = []) (hf : Cf.P.funcs[n]? = some f) (hbody : f.body.isSome = true) (hlen : xs.length = f.params.size + f.nfree) (henter : enterL Cf 0 (Cf.pm n) (parL f) xs = (xs, [])) (hrefs : refE Cf 0 (Cf.pm n) (parL f) = [])
  (hres : f.resultTypes = #[3]) (hrm : Cf.rm n = []) (h : call Cf k n xs = some [.i .i64 r]) (hn : vals.size = xs.length) (hv : ∀ (j : Nat) a v, xs[j]? = some a → vals[j]? = some v → VR Cf W (fun b => b < W.heap.size) noSig a v) :
  Calls Cf.P n vals W fun e W' => e = .returned (.int .i64 r) ∧ Kept W W' := by
 have hs : Sim Cf (fun b => b < W.heap.size) noSig [] W := ⟨fun id => by simp [BlkAt], fun id _ _ hl => absurd rfl hl, fun id _ hl => absurd rfl hl, fun _ _ => rfl, fun _ hb => hb, fun q hq => by rw [htb] at hq; simp at hq⟩
 have := hmain hf hbody hlen h (F0 := fun b => b < W.heap.size) (σ0 := noSig) (w := W) (vals := vals) (by rw [henter]; exact hs) hn (by rw [henter]) (by rw [henter]; exact hv)
 refine Calls.mono this fun e W' ⟨val, he, F1, σ1, S1, vs, plss, ks, src, h1, hstp, h3', h4, h5, h6, _, _, _, hval⟩ => ?_
 have hstp : Stp Cf (fun b => b < W.heap.size) noSig [] W F1 σ1 S1 W' := by rw [henter] at hstp; exact hstp
 rw [hrefs, hres] at h6
 obtain ⟨v, rfl⟩ : ∃ v, vs = [v] := by
  match vs, h4 with
  | [v], _ => exact ⟨v, rfl⟩
 obtain ⟨pls, rfl⟩ : ∃ v, plss = [v] := by
  match plss, h3' with
  | [v], _ => exact ⟨v, rfl⟩
 have hl := h6 0 0 3 (.i .i64 r) pls v (by rw [hrm]; rfl) rfl rfl rfl
 have hp : pls.length = 0 := by rw [← hl.1 0 0 (.b true), (h3 3 rfl).2]; rfl
 have hvr := (hl.2 noSig 0 0 fun i hi => by omega).1
 rw [(h3 3 rfl).1] at hvr
 have hr := hvr.one_inv (by simp) (by simp) (by simp)
 cases hr
 refine ⟨by rw [he, hval, hres]; rfl, hstp.os, hstp.tape, hstp.output, hstp.drawn.resolve_left (by rw [hlx]; simp), hstp.heap, fun b hb => hstp.keep b hb fun id hl => absurd rfl hl⟩
theorem vr_item {Cf : Cfg} {W : World} {F : Nat → Prop} {σ : Sig} (x : Itm) : VR Cf W F σ (itemAV x) (.agg #[.int .i64 x.1, .int .i64 x.2]) :=
 .agg (cs := [.int .i64 x.1, .int .i64 x.2]) (.g [[.int .i64 x.1], [.int .i64 x.2]] rfl fun j a c h1 h2 => by
  match j, h1, h2 with
  | 0, h1, h2 => cases h1; cases h2; exact .i
  | 1, h1, h2 => cases h1; cases h2; exact .i)
theorem lay0_i (r : Int) : ∀ T, T = 3 → (lay C0 0 T 0 0 (.i .i64 r)).1 = .i .i64 r ∧ (lay C0 0 T 0 0 (.b true)).2 = [] := by
 intro T hT
 subst hT
 have hu : C0.und 3 = some (.int .i64) := by kernel_rfl
 have hd : C0.P.depth = C0.P.depth - 1 + 1 := by kernel_rfl
 have e1 : ∀ a, view C0 C0.P.depth 3 a = .i .i64 a.int := fun a => by rw [hd]; simp [view, hu]
 simp [lay, dat, hu, e1]
theorem order_calls (x y : Itm) (W : World) : Calls Tryz.prog items_order #[.agg #[.int .i64 x.1, .int .i64 x.2], .agg #[.int .i64 y.1, .int .i64 y.2]] W fun e W' => e = .returned (.int .i64 (ordI x y)) ∧ ∃ q os, W' = Go.Sort.grow (W.drewN q) os := by
 obtain ⟨k, hk⟩ := DC.run_ (C := C0) rfl (ord0 x y)
 refine (int_of (Cf := C0) rfl rfl (call0_ok k items_order) (lay0_i _) (f := Tryz.f88) Tryz.func88 (by kernel_rfl) (by kernel_rfl) (xs := [itemAV x, itemAV y]) (by kernel_rfl) (by kernel_rfl) (by kernel_rfl) (by kernel_rfl) hk rfl fun j a v h1 h2 => ?_).mono fun e W' ⟨h1, h2⟩ => ⟨h1, h2.form⟩
 match j, h1, h2 with
 | 0, h1, h2 => cases h1; cases h2; exact vr_item x
 | 1, h1, h2 => cases h1; cases h2; exact vr_item y
end Go.Proofs.YteklakapimggeaaGreatDoor.Den
namespace Go.Proofs.YteklakapimggeaaGreatDoor.Den
open Go Go.Proofs Go.Sort
set_option linter.unusedVariables false
set_option linter.unusedSimpArgs false
def encItm (x : Itm) : List Value := [.int .i64 x.1, .int .i64 x.2]
theorem ordLt (x y : Itm) : ltOf ordI x y = decide (ltI x y) := decide_eq_decide.mpr (ordI_neg x y)
theorem swo_items : SWO (ltOf ordI) where
 irrefl x := by rw [ordLt]; exact decide_eq_false (ltI_irr x)
 trans x y z h1 h2 := by
  rw [ordLt, decide_eq_true_eq] at *
  exact ltI_trans h1 h2
 ntrans x y z h1 h2 := by
  rw [ordLt, decide_eq_false_iff_not] at *
  intro h
  rcases ltI_tri x y with k | k | k
  ·exact h1 k
  ·subst k; exact h2 h
  ·rcases ltI_tri y z with q | q | q
   ·exact h2 q
   ·subst q; exact h1 h
   ·exact ltI_asy _ _ h (ltI_trans q k)
theorem cmp_lays (blk off size : Nat) (w : World) : CmpLays Tryz.prog items_order #[] encItm 2 ordI blk off size w :=
 fun _ _ _ _ x y => order_calls x y _
theorem flat_at2 (d : Array Itm) (j : Nat) (h : j < d.size) : (flatK encItm 2 d)[j * 2]! = .int .i64 (d[j]!).1 ∧ (flatK encItm 2 d)[j * 2 + 1]! = .int .i64 (d[j]!).2 := by
 rw [get_flatK _ _ _ _ (by omega), get_flatK _ _ _ _ (by omega)]
 rw [show j * 2 / 2 = j by omega, show j * 2 % 2 = 0 by omega, show (j * 2 + 1) / 2 = j by omega, show (j * 2 + 1) % 2 = 1 by omega]
 exact ⟨rfl, rfl⟩
theorem sorted_world {w : World} {b o m : Nat} {cur : Array Value} {t : TypeId} (d : Array Itm) (os : Array Obj) (hh : w.heap[b]? = some (.cells cur t (0, 0))) : Kept (w.setRow b (putCells id o (flatK encItm 2 d) cur)) (sortWorldK encItm 2 w b o m d os) := by
 have hb : b < w.heap.size := by
  rcases Nat.lt_or_ge b w.heap.size with h | h
  ·exact h
  ·rw [Array.getElem?_eq_none h] at hh; cases hh
 have hsz : (w.setRow b (putCells id o (flatK encItm 2 d) cur)).heap.size = w.heap.size := by simp [World.setRow]
 refine ⟨rfl, rfl, rfl, ?_, ?_, fun c hc => ?_⟩
 ·show w.drawn ≤ w.drawn + m
  omega
 ·rw [hsz]
  show w.heap.size ≤ ((w.heap.modify b _) ++ os).size
  simp
 ·rw [hsz] at hc
  show ((w.heap.modify b (onCells (putCells id o (flatK encItm 2 d)))) ++ os)[c]? = _
  rw [Array.getElem?_append, if_pos (by simpa using hc), Array.getElem?_modify]
  by_cases e : b = c
  ·subst e
   rw [if_pos rfl, hh, setRow_heap w b cur _ t (0, 0) hh]
   rfl
  ·rw [if_neg e]
   exact (setRow_other w b c _ fun q => e q.symm).symm
section
variable {C : Cfg}
theorem sort_ok (hl : layB C = true) (hP : C.P = Tryz.prog) (hpm : C.pm 87 = [1, 0]) (hrm : C.rm 87 = []) (h38 : C.und 38 = some (.slice 43)) (hfn : (lay C 0 154 1 2 (.fn 88 [] [])) = (.fn 88 [] [], [])) (hsz : C.sz 43 = 2) (hu8 : isU8 C 43 = false)
  (hv43 : ∀ a, Wt C 43 a → a = itemAV (itmOf a)) (hw43 : ∀ x : Itm, Wt C 43 (itemAV x)) : CalleeAt C 87 sortD := by
 intro f xs o hf hb hn hg F0 σ0 w vals hs hv hlen hvr
 unfold sortD at hg
 split at hg
 ·rename_i e ys fn
  split at hg
  ·rename_i hc
   obtain ⟨rfl, rfl, hsmall⟩ := hc
   obtain rfl := Option.some.inj hg
   rw [hP] at hf
   rw [Tryz.func87] at hf
   obtain rfl := Option.some.inj hf
   have he : enterL C 0 (C.pm 87) (parL Tryz.f87) [.l 43 ys, .fn 88 [] []] = ([.w 43 0, .fn 88 [] []], [.arr 43 ys]) := by
    have e2 : parL Tryz.f87 = [38, 154] := rfl
    rw [hpm, e2]
    simp [enterL, lay, h38, AV.list] at hfn ⊢
    exact hfn
   have hre : refE C 0 (C.pm 87) (parL Tryz.f87) = [(38, .w 43 0)] := by
    have e2 : parL Tryz.f87 = [38, 154] := rfl
    rw [hpm, e2]
    simp [refE, lay, h38]
   rw [he] at hs hlen hvr ⊢
   obtain ⟨v0, v1, rfl⟩ : ∃ v0 v1, vals = #[v0, v1] := by
    obtain ⟨l⟩ := vals
    match l, hv with
    | [a, b], _ => exact ⟨a, b, rfl⟩
    | [], h => simp at h
    | [_], h => simp at h
    | _ :: _ :: _ :: _, h => simp at h
   have hr0 := (hvr 0 _ v0 rfl rfl).one_inv (by simp) (by simp) (by simp)
   have hr1 := (hvr 1 _ v1 rfl rfl).one_inv (by simp) (by simp) (by simp)
   obtain rfl : v1 = .func (.func 88) #[] #[] := by
    cases hr1 with
    | fn cs ds h1 h2 h3 h4 =>
     match cs, ds, h1, h2 with
     | [], [], _, _ => rfl
   -- what the evaluator tells of what is left
   have fin : ∀ (S1 : List Blk) (w' : World) (zs : List AV), S1 = [.arr 43 zs] → Sim C F0 σ0 S1 w' → Stp C F0 σ0 [.arr 43 ys] w F0 σ0 S1 w' → zs = sortL ys → (∀ b, F0 b → w'.heap[b]? = w.heap[b]?) → Ends C 87 Tryz.f87 [.l 43 (sortL ys)] F0 σ0 [.arr 43 ys] w (.tuple #[]) w' := by
    intro S1 w' zs hS1 hs' hst hz hF
    subst hS1 hz
    have hv0 : VR C w' F0 σ0 (.w 43 0) v0 := (hvr 0 _ v0 rfl rfl).mono hF (fun _ h => h) fun _ _ => rfl
    obtain ⟨pls, p1, p2, p3⟩ := laySlice hs' (m := 1) (.inl rfl) (T := 38) (e := 43) (a := .w 43 0) (xs := sortL ys) h38 rfl (by rw [hu8]; rfl) (.inl rfl) rfl hv0
    obtain ⟨q1, q2, q3⟩ := p3 0 (.inr ⟨_, rfl⟩)
    refine ⟨F0, σ0, _, [v0], [pls], [], [0], hs', hst, rfl, rfl, by rw [hre]; rfl, fun j m T x pls' v hj hx hp hv => ?_, ?_, rfl, fun k T a pls' hk hp => ?_, rfl⟩
    ·rw [hre] at hj
     have hR : (rmL (C.rm 87) Tryz.f87.resultTypes.toList) = [] := rfl
     rw [hR] at hj
     cases j with
     | succ j => simp at hx
     | zero =>
      simp at hj hx hp hv
      obtain ⟨rfl, rfl⟩ := hj
      subst hx hp hv
      rw [more_nil]
      exact p1
    ·simpa [ownId] using p2
    ·rw [hre] at hk
     cases k with
     | succ k => simp at hk
     | zero =>
      simp at hk
      obtain ⟨rfl, rfl⟩ := hk
      have hp' : [pls][0]? = some pls' := hp
      simp at hp'
      subst hp'
      exact ⟨0, .inr ⟨_, rfl⟩, q1⟩
   have hb0 := hs.blk 0
   have hS0 : ([Blk.arr 43 ys] : List Blk).getD 0 .dead = .arr 43 ys := rfl
   rw [hS0] at hb0
   rw [hP]
   cases hr0 with
   | w0 h1 h2 =>
    rw [h1] at hb0
    have hys : ys = [] := hb0
    subst hys
    refine Calls.mono (AnyF.slices_SortFunc_none Tryz.laysSF _ 0 _ w) fun e w' hq => ?_
    obtain ⟨rfl, rfl⟩ := hq
    exact ⟨_, rfl, fin _ w' [] rfl hs .refl (by simp [sortL]) fun _ _ => rfl⟩
   | w h1 h2 h3 =>
    rename_i b oo n c cap
    rw [h1] at hb0
    obtain ⟨_, rfl, hc, cur, t, hh, hzz, cells, hxs⟩ := hb0
    rw [hsz] at hzz
    obtain ⟨d, hd⟩ : ∃ d : Array Itm, d = (ys.map itmOf).toArray := ⟨_, rfl⟩
    have hds : d.size = ys.length := by rw [hd]; simp
    have hget : ∀ j (hj : j < ys.length), ys[j] = itemAV (d[j]!) := fun j hj => by
     have := hv43 _ (hxs j _ (List.getElem?_eq_getElem hj)).1
     rw [this, hd]
     simp [hj]
    have hcell : ∀ j (hj : j < ys.length), cells j = encItm (d[j]!) := fun j hj => by
     obtain ⟨_, r2, r3, _⟩ := hxs j _ (List.getElem?_eq_getElem hj)
     rw [hget j hj] at r2
     generalize cells j = cj at r2 ⊢
     generalize d[j]! = x at r2 ⊢
     unfold itemAV at r2
     cases r2 with
     | g css k1 k2 =>
      match css, k1 with
      | [c1, c2], _ =>
       have q1 := k2 0 _ c1 rfl rfl
       have q2 := k2 1 _ c2 rfl rfl
       cases q1
       cases q2
       rfl
    have hblk : (σ0 0).blk = some b := by rw [h1]; rfl
    have hlt : b < w.heap.size := by
     rcases Nat.lt_or_ge b w.heap.size with h | h
     ·exact h
     ·rw [Array.getElem?_eq_none h] at hh; cases hh
    have hH : HoldsK encItm 2 w b oo d := fun j hj => by
     rw [size_flatK] at hj
     have hjd : j / 2 < ys.length := by omega
     obtain ⟨_, _, _, r4⟩ := hxs (j / 2) _ (List.getElem?_eq_getElem hjd)
     refine ⟨?_, by simp [World.frozen?, hh]⟩
     rw [hcell _ hjd, hsz] at r4
     rcases Nat.mod_two_eq_zero_or_one j with h | h
     ·have := (flat_at2 d (j / 2) (by omega)).1
      rw [show j / 2 * 2 = j by omega] at this
      rw [this]
      have := r4 0 _ rfl
      rw [show oo + j / 2 * 2 + 0 = oo + j by omega] at this
      exact this
     ·have := (flat_at2 d (j / 2) (by omega)).2
      rw [show j / 2 * 2 + 1 = j by omega] at this
      rw [this]
      have := r4 1 _ rfl
      rw [show oo + j / 2 * 2 + 1 = oo + j by omega] at this
      exact this
    have eg : ∀ args w, (callFunc 88 args).run Tryz.prog w = .ok (.enter 88 args) w := enters_of Tryz.func88 (by kernel_rfl) rfl
    have hcall := AnyQ.slices_SortFunc_total Tryz.laysSF 2 Tryz.isAgg43 Tryz.sizeOf43 encItm (fun _ => rfl) (fun x v hv => by simp [encItm] at hv; rcases hv with rfl | rfl <;> rfl) ordI swo_items 88 #[] b oo cap d w eg (cmp_lays b oo d.size w) hH hlt (by omega) (fun x y h1 h2 => by
     rw [ordLt, decide_eq_false_iff_not] at h1 h2
     rcases ltI_tri x y with k | k | k
     ·exact absurd k h1
     ·exact k
     ·exact absurd k h2)
    rw [hds] at hcall
    refine Calls.mono hcall fun e w' hq => ?_
    obtain ⟨rfl, m, os, rfl⟩ := hq
    obtain ⟨sd, hsd⟩ : ∃ sd, sd = (d.toList.mergeSort fun x y => !(ltOf ordI) y x) := ⟨_, rfl⟩
    rw [← hsd]
    have hsdl : sd.length = ys.length := by rw [hsd, List.length_mergeSort]; simp [hds]
    have hsl : sortL ys = sd.map itemAV := by
     rw [hsd]
     unfold sortL ltOf
     rw [hd]
    have hK := sorted_world (m := m) sd.toArray os (o := oo) hh
    have hnew : ∀ i, (putCells id oo (flatK encItm 2 sd.toArray) cur)[i]? = if oo ≤ i ∧ i < oo + sd.length * 2 ∧ i < cur.size then some ((flatK encItm 2 sd.toArray)[i - oo]!) else cur[i]? := fun i => by
     unfold putCells
     rw [Array.getElem?_mapIdx]
     by_cases hi : i < cur.size
     ·rw [Array.getElem?_eq_getElem hi]
      simp only [Option.map_some, size_flatK, List.size_toArray, id]
      by_cases q : oo ≤ i ∧ i < oo + sd.length * 2
      ·rw [if_pos q, if_pos ⟨q.1, q.2, hi⟩]
      ·rw [if_neg q, if_neg fun h => q ⟨h.1, h.2.1⟩]
     ·rw [Array.getElem?_eq_none (by omega), if_neg fun h => hi h.2.2]
      rfl
    have hnsz : (putCells id oo (flatK encItm 2 sd.toArray) cur).size = cur.size := by simp [putCells]
    have hlv : live [Blk.arr 43 ys] 0 := by unfold live; rw [hS0]; simp
    have hFk : ∀ c, F0 c → (w.setRow b (putCells id oo (flatK encItm 2 sd.toArray) cur)).heap[c]? = w.heap[c]? := fun c hc => setRow_other w b c _ fun e => hs.out 0 b hlv hblk (e ▸ hc)
    obtain ⟨m1, m2⟩ := hs.set hlv hblk (putCells id oo (flatK encItm 2 sd.toArray) cur) (.arr 43 (sd.map itemAV)) (by
     rw [h1]
     refine ⟨rfl, by rw [List.length_map, hsdl], by rw [List.length_map, hsdl]; exact hc, _, t, setRow_heap w b cur _ t (0, 0) hh, by rw [hnsz, hsz]; exact hzz, fun j => encItm (sd.getD j (0, 0)), fun j v hv => ?_⟩
     rw [List.getElem?_map] at hv
     obtain ⟨x, hx, rfl⟩ := Option.map_eq_some_iff.mp hv
     have hj := getElem?_lt hx
     have hxd : sd.getD j (0, 0) = x := by rw [List.getD_eq_getElem?_getD, hx]; rfl
     dsimp only
     rw [hxd]
     refine ⟨hw43 x, ?_, by rw [hsz]; rfl, rangeAt_set hh fun i u hu => ?_⟩
     ·exact .g [[.int .i64 x.1], [.int .i64 x.2]] rfl fun j a c h1 h2 => by
       match j, h1, h2 with
       | 0, h1, h2 => cases h1; cases h2; exact .i
       | 1, h1, h2 => cases h1; cases h2; exact .i
     ·rw [hsz]
      have hxa : (sd.toArray)[j]! = x := by
       have : sd[j]? = some x := hx
       simp [this]
      have hjs : j < sd.toArray.size := by simpa using hj
      have hf2 := flat_at2 sd.toArray j hjs
      rw [hxa] at hf2
      match i, hu with
      | 0, hu =>
       cases hu
       rw [hnew, if_pos ⟨by omega, by omega, by omega⟩, show oo + j * 2 + 0 - oo = j * 2 by omega, hf2.1]
      | 1, hu =>
       cases hu
       rw [hnew, if_pos ⟨by omega, by omega, by omega⟩, show oo + j * 2 + 1 - oo = j * 2 + 1 by omega, hf2.2])
    have hset : ([Blk.arr 43 ys] : List Blk).set 0 (.arr 43 (sd.map itemAV)) = [.arr 43 (sd.map itemAV)] := rfl
    rw [hset] at m1 m2
    refine ⟨_, rfl, fin _ _ _ rfl (m1.ext hK.size hK.keep) ?_ hsl.symm fun c hc => ?_⟩
    ·refine m2.trans ⟨hK.os, hK.tape, hK.output, .inr hK.drawn, hK.size, fun c hc _ => hK.keep c hc, fun _ h => h, fun _ h => .inl h, fun id c h1 h2 => .inr ⟨id, h1, h2⟩⟩
    ·rw [hK.keep c (by have := m1.fin c hc; exact this), hFk c hc]
  ·cases hg
 ·cases hg
end
end Go.Proofs.YteklakapimggeaaGreatDoor.Den
namespace Go.Proofs.YteklakapimggeaaGreatDoor.Den
open Go Go.Proofs Go.RowKit
set_option linter.unusedVariables false
set_option linter.unusedSimpArgs false
theorem ta130 (w : World) : (Instr.typeAssert .nilIface 20 194 true).run Tryz.prog w = .ok (.tuple #[.int .i64 0, .bool false]) w := by kernel_rfl
theorem ta41 (w : World) : (Instr.typeAssert .nilIface 20 83 true).run Tryz.prog w = .ok (.tuple #[.agg #[.int .i64 0, .int .i64 0], .bool false]) w := by kernel_rfl
set_option maxHeartbeats 4000000 in
set_option maxRecDepth 100000 in
theorem idle130 (v0 v1 v2 : Value) (w : World) : CallsD Tryz.prog 130 #[v0, v1, v2] .returning w fun e u' w' => e = .returned (.tuple #[]) ∧ u' = .returning ∧ w' = w := by
 refine callsD_of_wpS Tryz.func130 rfl fun c₀ cs hu => ?_
 apply wpS_seq
 apply wpS_region
 simp [wpOpsS, go_sem, recoverD, hu, Tryz.ntmps130, Exit.thenS, ta130]
 apply wpS_seq
 apply wpS_region
 simp [wpOpsS, go_sem, Exit.thenS]
 refine wpS_cond (t := false) (by simp [Act.eval]) ?_
 simp only [Bool.false_eq_true, if_false]
 refine wpS_of_wp (wp_skip ?_)
 cases c₀
 simp_all [bodyPostS, results, Tryz.results130]
set_option maxHeartbeats 4000000 in
set_option maxRecDepth 100000 in
theorem idle41 (v0 v1 v2 : Value) (w : World) : CallsD Tryz.prog 41 #[v0, v1, v2] .returning w fun e u' w' => e = .returned (.tuple #[]) ∧ u' = .returning ∧ w'.os = w.os ∧ w'.tape = w.tape ∧ w'.output = w.output ∧ w.drawn ≤ w'.drawn ∧ w.heap.size ≤ w'.heap.size ∧ ∀ b, b < w.heap.size → w'.heap[b]? = w.heap[b]? := by
 refine callsD_of_wpS Tryz.func41 rfl fun c₀ cs hu => ?_
 apply wpS_seq
 apply wpS_region
 simp [wpOpsS, go_sem, recoverD, hu, Tryz.ntmps41, Exit.thenS, ta41]
 apply wpS_seq
 apply wpS_region
 simp [wpOpsS, go_sem, Exit.thenS]
 refine wpS_cond (t := false) (by simp [Act.eval]) ?_
 simp only [Bool.false_eq_true, if_false]
 refine wpS_of_wp (wp_skip ?_)
 cases c₀
 simp_all [bodyPostS, results, Tryz.results41]
 exact ⟨rfl, rfl, fun b hb => by rw [show ∀ o, (w.alloc o).heap = w.heap.push o from fun _ => rfl, Array.getElem?_push, if_neg (by omega), Array.getElem?_eq_getElem hb]⟩
theorem hid : IdleOk C := by
 intro n hn f hf vals w hv
 have key : n = 41 ∨ n = 130 := by
  have e : C.idle n = [41, 130].contains n := rfl
  rw [e] at hn
  simpa using hn
 have hf' : Tryz.prog.funcs[n]? = some f := hf
 have h3 : ∀ {k : Nat} {v : Array Value}, v.size = k → k = 3 → ∃ a b c, v = #[a, b, c] := fun {k v} h h' => by
  obtain ⟨l⟩ := v
  match l, h with
  | [a, b, c], _ => exact ⟨a, b, c, rfl⟩
  | [], h => simp at h; omega
  | [_], h => simp at h; omega
  | [_, _], h => simp at h; omega
  | _ :: _ :: _ :: _ :: _, h => simp at h; omega
 rcases key with rfl | rfl
 ·rw [Tryz.func41] at hf'
  cases hf'
  obtain ⟨a, b, c, rfl⟩ := h3 hv (by kernel_rfl)
  exact (idle41 a b c w).mono fun e u' w' ⟨h1, h2, h3⟩ => ⟨⟨_, h1⟩, h2, h3⟩
 ·rw [Tryz.func130] at hf'
  cases hf'
  obtain ⟨a, b, c, rfl⟩ := h3 hv (by kernel_rfl)
  exact (idle130 a b c w).mono fun e u' w' ⟨h1, h2, h3⟩ => ⟨⟨_, h1⟩, h2, by rw [h3]; exact ⟨rfl, rfl, rfl, Nat.le_refl _, Nat.le_refl _, fun _ _ => rfl⟩⟩
end Go.Proofs.YteklakapimggeaaGreatDoor.Den
namespace Go.Proofs.YteklakapimggeaaGreatDoor.Den
open Go Go.Proofs
set_option linter.unusedVariables false
theorem hx : ExtOk C := by
 intro n q f he hf
 have e : C.ext n = getT none n [(109, some (4, IntKind.i64)), (166, some (1, .u32)), (182, some (2, .u32)), (189, some (5, .i32)), (194, some (3, .i32)), (188, some (6, .i64)), (190, some (7, .i64)), (191, some (8, .i64)), (193, some (9, .i64))] := rfl
 rw [e] at he
 have hf' : Tryz.prog.funcs[n]? = some f := hf
 simp only [getT] at he
 split at he
 ·rename_i g; subst g; cases he; rw [Tryz.func109] at hf'; cases hf'; exact ⟨by kernel_rfl, by kernel_rfl, by kernel_rfl, by kernel_rfl⟩
 split at he
 ·rename_i g; subst g; cases he; rw [Tryz.func166] at hf'; cases hf'; exact ⟨by kernel_rfl, by kernel_rfl, by kernel_rfl, by kernel_rfl⟩
 split at he
 ·rename_i g; subst g; cases he; rw [Tryz.func182] at hf'; cases hf'; exact ⟨by kernel_rfl, by kernel_rfl, by kernel_rfl, by kernel_rfl⟩
 split at he
 ·rename_i g; subst g; cases he; rw [Tryz.func189] at hf'; cases hf'; exact ⟨by kernel_rfl, by kernel_rfl, by kernel_rfl, by kernel_rfl⟩
 split at he
 ·rename_i g; subst g; cases he; rw [Tryz.func194] at hf'; cases hf'; exact ⟨by kernel_rfl, by kernel_rfl, by kernel_rfl, by kernel_rfl⟩
 split at he
 ·rename_i g; subst g; cases he; rw [Tryz.func188] at hf'; cases hf'; exact ⟨by kernel_rfl, by kernel_rfl, by kernel_rfl, by kernel_rfl⟩
 split at he
 ·rename_i g; subst g; cases he; rw [Tryz.func190] at hf'; cases hf'; exact ⟨by kernel_rfl, by kernel_rfl, by kernel_rfl, by kernel_rfl⟩
 split at he
 ·rename_i g; subst g; cases he; rw [Tryz.func191] at hf'; cases hf'; exact ⟨by kernel_rfl, by kernel_rfl, by kernel_rfl, by kernel_rfl⟩
 split at he
 ·rename_i g; subst g; cases he; rw [Tryz.func193] at hf'; cases hf'; exact ⟨by kernel_rfl, by kernel_rfl, by kernel_rfl, by kernel_rfl⟩
 ·cases he
theorem c_und3 : C.und 3 = some (.int .i64) := by kernel_rfl
theorem c_und5 : C.und 5 = some (.int .u8) := by kernel_rfl
theorem c_und9 : C.und 9 = some .string := by kernel_rfl
theorem c_und37 : C.und 37 = some (.slice 3) := by kernel_rfl
theorem c_sz3 : C.sz 3 = 1 := by kernel_rfl
theorem c_dep : C.P.depth = C.P.depth - 1 + 1 := by kernel_rfl
theorem c_pty : pty C 114 [1] = some 112 := by kernel_rfl
theorem c_poff : poff C 114 [1] = 1 := by kernel_rfl
theorem c_szb : C.sz 112 = 1 := by kernel_rfl
theorem hps : PrimSOk C := by
 intro n g hg F σ S w slot args vals q o ho hs hsl hn hv h hlen
 have e : C.primS n = getT none n [(52, some bstrD)] := rfl
 rw [e] at hg
 simp only [getT] at hg
 split at hg
 ·rename_i e; subst e; cases hg; exact bstr_ok hlay rfl c_und5 ⟨c_pty, c_poff, c_szb⟩ ho hs hsl hn hv h
 ·cases hg
theorem itm_view (a : AV) : view C C.P.depth 43 a = .g [.i .i64 (a.fld 0).int, .i .i64 (a.fld 1).int] := by kernel_rfl
theorem itm_sh (a b : Int) : sh C 8 43 (.g [.i .i64 a, .i .i64 b]) = true := by kernel_rfl
theorem hprim : ∀ n pf, C.prim n = some pf → CalleeAt C n pf := by
 intro n pf h
 have e : C.prim n = getT none n [(51, some itoaD), (87, some sortD), (98, some ixbD), (80, some precD)] := rfl
 rw [e] at h
 simp only [getT] at h
 split at h
 ·rename_i g; subst g; cases h; exact @itoa_ok C rfl (List.Mem.head _) rfl rfl c_und3 c_und9 c_dep
 split at h
 ·rename_i g; subst g; cases h; exact @sort_ok C hlay rfl rfl rfl (by kernel_rfl) (by kernel_rfl) (by kernel_rfl) (by kernel_rfl) (fun a h => h.2.symm.trans (itm_view a)) fun x => ⟨sh_sound 8 43 _ (itm_sh x.1 x.2), itm_view _⟩
 split at h
 ·rename_i g; subst g; cases h; exact @ixb_ok C rfl rfl rfl c_und3 c_und5 c_und9 c_dep
 split at h
 ·rename_i g; subst g; cases h; exact @prec_ok C rfl rfl rfl rfl c_und3 c_und37 c_sz3 c_dep
 ·cases h
theorem main_ok (k : Nat) (n : FuncId) : CalleeAt C n (call C k n) := call_ok hlay hnam hmix hps hx hid hprim k n
end Go.Proofs.YteklakapimggeaaGreatDoor.Den
