/- Proved here: a part of the evaluator for the model's functions, and that a call does what it says; the parts are told one by one. No condition. -/
import Derived.Test.YtfnepeilccainaaEq
import Derived.Below
/- Proved here: each function does what the evaluator says, for the program's settings. No condition. -/
namespace Go.Proofs.Ytfnepeilccainaa.Den
open Go Go.Proofs
set_option linter.unusedVariables false
theorem hx : ExtOk C := by
  intro n q f he hf
  have key : (n = 33 ∧ q = (2, .i64)) ∨ (n = 43 ∧ q = (1, .i64)) ∨ (n = 49 ∧ q = (3, .i64)) ∨ (n = 38 ∧ q = (1, .u32)) ∨ (n = 40 ∧ q = (2, .u32)) ∨ (n = 50 ∧ q = (4, .i64)) := by
    have e : C.ext n = getT none n [(33, some (2, IntKind.i64)), (43, some (1, .i64)), (49, some (3, .i64)), (38, some (1, .u32)), (40, some (2, .u32)), (50, some (4, .i64))] := rfl
    rw [e] at he
    simp only [getT] at he
    split at he
    · simp_all
    split at he
    · simp_all
    split at he
    · simp_all
    split at he
    · simp_all
    split at he
    · simp_all
    split at he
    · simp_all
    · cases he
  have hf' : Try.prog.funcs[n]? = some f := hf
  rcases key with ⟨rfl, rfl⟩ | ⟨rfl, rfl⟩ | ⟨rfl, rfl⟩ | ⟨rfl, rfl⟩ | ⟨rfl, rfl⟩ | ⟨rfl, rfl⟩
  · rw [Try.func33] at hf'; cases hf'; exact ⟨by kernel_rfl, by kernel_rfl, by kernel_rfl, by kernel_rfl⟩
  · rw [Try.func43] at hf'; cases hf'; exact ⟨by kernel_rfl, by kernel_rfl, by kernel_rfl, by kernel_rfl⟩
  · rw [Try.func49] at hf'; cases hf'; exact ⟨by kernel_rfl, by kernel_rfl, by kernel_rfl, by kernel_rfl⟩
  · rw [Try.func38] at hf'; cases hf'; exact ⟨by kernel_rfl, by kernel_rfl, by kernel_rfl, by kernel_rfl⟩
  · rw [Try.func40] at hf'; cases hf'; exact ⟨by kernel_rfl, by kernel_rfl, by kernel_rfl, by kernel_rfl⟩
  · rw [Try.func50] at hf'; cases hf'; exact ⟨by kernel_rfl, by kernel_rfl, by kernel_rfl, by kernel_rfl⟩
theorem c_sz53 : C.sz 53 = 1 := by kernel_rfl
theorem c_u53 : isU8 C 53 = false := by kernel_rfl
theorem c_sz31 : C.sz 31 = 3 := by kernel_rfl
theorem c_und5 : C.und 5 = some (.int .u8) := by kernel_rfl
theorem c_pty : pty C 72 [1] = some 70 := by kernel_rfl
theorem c_poff : poff C 72 [1] = 1 := by kernel_rfl
theorem c_sz70 : C.sz 70 = 1 := by kernel_rfl
theorem hps : PrimSOk C := by
  intro n g hg F σ S w slot args vals q o ho hs hsl hn hv h hlen
  have e : C.primS n = getT none n [(45, some insD), (36, some repD), (23, some delD), (26, some bstrD)] := rfl
  rw [e] at hg
  simp only [getT] at hg
  split at hg
  · rename_i e; subst e; cases hg; exact ins_ok hlay rfl c_sz53 c_u53 ho hs hsl hn hv h
  split at hg
  · rename_i e; subst e; cases hg; exact rep_ok hlay rfl c_sz53 c_u53 ho hs hsl hn hv h
  split at hg
  · rename_i e; subst e; cases hg; exact del_ok hlay rfl c_sz31 ho hs hsl hn hv h
  split at hg
  · rename_i e; subst e; cases hg; exact bstr_ok hlay rfl c_und5 ⟨c_pty, c_poff, c_sz70⟩ ho hs hsl hn hv h
  · cases hg
theorem main_ok (k : Nat) (n : FuncId) : CalleeAt C n (call C k n) := call_ok hlay hnam hmix hps hx (fun n pf h => by cases h) k n
end Go.Proofs.Ytfnepeilccainaa.Den

/- Proved here: where the evaluator says 'true', the call tells true, and what there was is as it was. No condition. -/
namespace Go.Proofs.Ytfnepeilccainaa.Den
open Go Go.Proofs Go.RowKit
set_option linter.unusedVariables false
theorem row_of {n : FuncId} {f : Func} {xs : List AV} {vals : Array Value} {W : World} {k : Nat} (hf : Try.prog.funcs[n]? = some f) (hbody : f.body.isSome = true) (hlen : xs.length = f.params.size + f.nfree) (henter : enterL C 0 (C.pm n) (parL f) xs = (xs, [])) (hrefs : refE C 0 (C.pm n) (parL f) = [])
    (hres : f.resultTypes = #[4]) (hrm : C.rm n = []) (h : call C k n xs = some [.b true]) (hn : vals.size = xs.length) (hv : ∀ (j : Nat) a v, xs[j]? = some a → vals[j]? = some v → VR C W (fun b => b < W.heap.size) noSig a v) :
    Calls Try.prog n vals W fun e W' => e = .returned (.bool true) ∧ Below W.heap.size W W' := by
  have hs : Sim C (fun b => b < W.heap.size) noSig [] W := ⟨fun id => by simp [BlkAt], fun id _ _ hl => absurd rfl hl, fun id _ hl => absurd rfl hl, fun _ _ => rfl, fun _ hb => hb⟩
  have := main_ok k n hf hbody hlen h (F0 := fun b => b < W.heap.size) (σ0 := noSig) (w := W) (vals := vals) (by rw [henter]; exact hs) hn (by rw [henter]) (by rw [henter]; exact hv)
  refine Calls.mono this fun e W' ⟨val, he, F1, σ1, S1, vs, plss, ks, src, h1, hstp, h3, h4, h5, h6, _, _, _, hval⟩ => ?_
  have hstp : Stp (fun b => b < W.heap.size) noSig [] W F1 σ1 S1 W' := by rw [henter] at hstp; exact hstp
  rw [hrefs, hres] at h6
  obtain ⟨v, rfl⟩ : ∃ v, vs = [v] := by
    match vs, h4 with
    | [v], _ => exact ⟨v, rfl⟩
  obtain ⟨pls, rfl⟩ : ∃ v, plss = [v] := by
    match plss, h3 with
    | [v], _ => exact ⟨v, rfl⟩
  have hl := h6 0 0 4 (.b true) pls v (by rw [hrm]; rfl) rfl rfl rfl
  have hp : pls.length = 0 := by rw [← hl.1 0 0 (.b true)]; rfl
  have hvr := (hl.2 noSig 0 0 fun i hi => by omega).1
  have e1 : (lay C 0 4 0 0 (.b true)).1 = .b true := by kernel_rfl
  rw [e1] at hvr
  have hr := hvr.one_inv (by simp) (by simp) (by simp)
  cases hr
  refine ⟨by rw [he, hval, hres]; rfl, hstp.os, hstp.tape, hstp.output, hstp.heap, fun b hb => hstp.keep b hb fun id hl => absurd rfl hl⟩
theorem vr_s {W : World} {F : Nat → Prop} {σ : Sig} (s : ByteArray) : VR C W F σ (.s s) (.string s) := .one (by simp) .s
end Go.Proofs.Ytfnepeilccainaa.Den
