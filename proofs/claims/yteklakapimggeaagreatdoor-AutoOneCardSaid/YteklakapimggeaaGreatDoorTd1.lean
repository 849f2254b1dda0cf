/- Proved here: a part of the proof, told one step at a time: ThComp. No condition but those each theorem names. -/
import Derived.Test.YteklakapimggeaaGreatDoorTc1
import Derived.Test.YteklakapimggeaaGreatDoorRg1
import Derived.KernelRfl
namespace Go.Proofs.YteklakapimggeaaGreatDoor.Den
open Go Go.Proofs
set_option linter.unusedVariables false
set_option linter.unusedSimpArgs false
def addL (g : Gr) (L : List Itm) : List Itm := ((List.range g.prods.length).filter fun p => L.any fun x => decide (nxt g x = (g.prods.getD p default).left ∧ nxt g x ≠ 0)).map fun (p : Nat) => (((p : Int), 0) : Itm)
def cloL (g : Gr) : Nat → List Itm → List Itm
 | 0, L => L
 | n + 1, L => cloL g n (L ++ addL g L)
def clsd (g : Gr) (L : List Itm) : Bool := (addL g L).all fun x => decide (x ∈ L)
theorem mem_addL {g : Gr} {L : List Itm} {y : Itm} : y ∈ addL g L ↔ ∃ p, p < g.prods.length ∧ y = ((p : Int), 0) ∧ ∃ x ∈ L, nxt g x = (g.prods.getD p default).left ∧ nxt g x ≠ 0 := by
 unfold addL
 rw [List.mem_map]
 constructor
 ·rintro ⟨p, hp, rfl⟩
  rw [List.mem_filter, List.mem_range, List.any_eq_true] at hp
  obtain ⟨h1, x, h2, h3⟩ := hp
  exact ⟨p, h1, rfl, x, h2, of_decide_eq_true h3⟩
 ·rintro ⟨p, h1, rfl, x, h2, h3⟩
  refine ⟨p, ?_, rfl⟩
  rw [List.mem_filter, List.mem_range, List.any_eq_true]
  exact ⟨h1, x, h2, decide_eq_true h3⟩
theorem cloL_sub (g : Gr) : ∀ (n : Nat) (L : List Itm) (x : Itm), x ∈ L → x ∈ cloL g n L
 | 0, L, x, h => h
 | n + 1, L, x, h => cloL_sub g n _ x (List.mem_append_left _ h)
theorem cloL_clo {g : Gr} {K : List Itm} : ∀ (n : Nat) (L : List Itm), (∀ x ∈ L, Clo g K x) → ∀ x ∈ cloL g n L, Clo g K x
 | 0, L, h => h
 | n + 1, L, h => cloL_clo n _ fun x hx => by
  rcases List.mem_append.mp hx with q | q
  ·exact h x q
  ·obtain ⟨p, h1, rfl, y, h2, h3, h4⟩ := mem_addL.mp q
   exact (h y h2).step h1 h3 h4
theorem clo_iff {g : Gr} {K : List Itm} {n : Nat} (h : clsd g (cloL g n K) = true) {x : Itm} : Clo g K x ↔ x ∈ cloL g n K := by
 constructor
 ·intro hc
  induction hc with
  | base hx => exact cloL_sub g n K _ hx
  | step _ h1 h2 h3 ih => exact of_decide_eq_true (List.all_eq_true.mp h _ (mem_addL.mpr ⟨_, h1, rfl, _, ih, h2, h3⟩))
 ·exact cloL_clo n K (fun x hx => .base hx) x
def gtoC (g : Gr) (L : List Itm) (s : Int) : List Itm := (allI g).filter fun y => L.any fun x => decide (nxt g x = s ∧ s ≠ 0 ∧ y = (x.1, x.2 + 1))
theorem gto_eq {g : Gr} {K : List Itm} {n : Nat} (h : clsd g (cloL g n K) = true) (s : Int) : gto g K s = gtoC g (cloL g n K) s := by
 classical
 unfold gto pick gtoC
 refine List.filter_congr fun y _ => ?_
 rw [Bool.eq_iff_iff, decide_eq_true_eq, List.any_eq_true]
 constructor
 ·rintro ⟨x, h1, h2⟩
  exact ⟨x, (clo_iff h).mp h1, decide_eq_true h2⟩
 ·rintro ⟨x, h1, h2⟩
  exact ⟨x, (clo_iff h).mpr h1, of_decide_eq_true h2⟩
def stpC (g : Gr) (L : List Itm) (out : List St) (row : List Int) (s : Nat) : List St × List Int :=
 if gtoC g L s = [] then (out, row.set s (-1)) else
  match fndK (gtoC g L s) (out.map (·.ker)) 0 with
  | some j => (out, row.set s (j : Int))
  | none => (out ++ [⟨gtoC g L s, []⟩], row.set s (out.length : Int))
def innC (g : Gr) (L : List Itm) : Nat → Nat → List St → List Int → List St × List Int
 | 0, _, out, row => (out, row)
 | m + 1, s, out, row => innC g L m (s + 1) (stpC g L out row s).1 (stpC g L out row s).2
theorem inn_eq {g : Gr} {K : List Itm} {n : Nat} (h : clsd g (cloL g n K) = true) : ∀ (m s : Nat) (out : List St) (row : List Int), inn g K m s out row = innC g (cloL g n K) m s out row
 | 0, s, out, row => rfl
 | m + 1, s, out, row => by
  have e : stp g K out row s = stpC g (cloL g n K) out row s := by
   unfold stp stpC
   rw [gto_eq h]
   rfl
  rw [inn, innC, e, inn_eq h m]
def bldC (g : Gr) (c n : Nat) : Nat → Nat → List St → Option (Option (List St))
 | 0, _, out => some (some out)
 | m + 1, i, out => if i < out.length then
   if clsd g (cloL g c (out.getD i default).ker) = true then
    (if 240 < (putR i (innC g (cloL g c (out.getD i default).ker) (n - 1) 1 out (row0 n))).length then some none else bldC g c n m (i + 1) (putR i (innC g (cloL g c (out.getD i default).ker) (n - 1) 1 out (row0 n))))
   else none
  else some (some out)
theorem bld_eq {g : Gr} {c n : Nat} : ∀ (m i : Nat) (out : List St) (r : Option (List St)), bldC g c n m i out = some r → bld g n m i out = r
 | 0, i, out, r, h => Option.some.inj h
 | m + 1, i, out, r, h => by
  rw [bldC] at h
  rw [bld]
  split at h
  ·rename_i h1
   rw [if_pos h1]
   split at h
   ·rename_i h2
    rw [inn_eq h2]
    split at h
    ·rename_i h3
     rw [if_pos h3]
     exact Option.some.inj h
    ·rename_i h3
     rw [if_neg h3]
     exact bld_eq m _ _ r h
   ·cases h
  ·rename_i h1
   rw [if_neg h1]
   exact Option.some.inj h
def g0 : Gr := ⟨[⟨⟨#[97]⟩, [.g [.i .i64 1, .g [.i .u64 0, .i .u64 8589934592, .i .u64 0, .i .u64 0]]], false⟩], [⟨#[115]⟩], [(0, 0), (0, 0)], [⟨2, [1, 2], 1⟩, ⟨2, [], 0⟩], 2⟩
theorem g0_run (k : Nat) : callS C (k + 3000) 81 [g0.av] = some [.b true] := by kernel_rfl
theorem g0_D : D check_Sound [g0.av] = some [.b true] := D_fin (c := 3000) (by rfl) (fun k => by rw [← callS_eq]; exact g0_run k) Lt.ret rfl
theorem g0_us : us g0 = true := by
 have h := (snd1 g0).symm.trans g0_D
 simp only [Option.some.injEq, List.cons.injEq, AV.b.injEq, and_true] at h
 unfold us
 rw [h]
 rfl
def l0 : List St := [⟨[(-1, 0)], [-1, 1, 2]⟩, ⟨[(0, 1)], [-1, 1, 3]⟩, ⟨[(-1, 1)], [-1, -1, -1]⟩, ⟨[(0, 2)], [-1, -1, -1]⟩]
theorem g0_auto : bldC g0 4 3 241 0 [⟨[(-1, 0)], []⟩] = some (some l0) := by kernel_rfl
theorem g0_alls : alls g0 + 1 = 3 := by kernel_rfl
theorem g0_built : built g0 = [sts l0, .i .i64 0] := by
 unfold built auto
 rw [if_pos g0_us, g0_alls, bld_eq _ _ _ _ g0_auto]
 rfl
theorem g0_av : AV.g [(AV.l T_api_Rule (AV.list (AV.fld (List.headD w_o .u) 0))), (AV.l T_string (AV.list (AV.fld (List.headD w_o .u) 1))), (AV.l T_api_Level (AV.list (AV.fld (List.headD w_o .u) 2))), (AV.l T_api_Prod (AV.list (AV.fld (List.headD w_o .u) 3))), (AV.i .i64 (AV.int (AV.fld (List.headD w_o .u) 4)))] = g0.av := by kernel_rfl
theorem wakes_ok : D law17_wakes [] = some [.b true] := by
 apply d_law17_wakes
 have h1 : D gram_Parse [(AV.s ⟨#[116, 111, 107, 101, 110, 32, 97, 32, 47, 97, 47, 59, 32, 115, 58, 32, 97, 32, 115, 32, 124, 32, 59]⟩)] = some w_o := D_parse
 have h2 := build1 g0
 rw [g0_built] at h2
 have e1 : D ref04_Same [.l T_int [.i .i64 (-1), .i .i64 1, .i .i64 2], .l T_int [.i .i64 (-1), .i .i64 1, .i .i64 2]] = some [.b true] := same04 [-1, 1, 2] [-1, 1, 2] (by simp)
 have e2 : D ref04_Same [.l T_int [.i .i64 (-1), .i .i64 1, .i .i64 3], .l T_int [.i .i64 (-1), .i .i64 1, .i .i64 3]] = some [.b true] := same04 [-1, 1, 3] [-1, 1, 3] (by simp)
 have k1 : (AV.l T_int (AV.list (AV.fld ((AV.list (List.headD [sts l0, .i .i64 0] .u)).getD 0 .u) 1))) = .l T_int [.i .i64 (-1), .i .i64 1, .i .i64 2] := by kernel_rfl
 have k2 : (AV.l T_int (AV.list (AV.fld ((AV.list (List.headD [sts l0, .i .i64 0] .u)).getD 1 .u) 1))) = .l T_int [.i .i64 (-1), .i .i64 1, .i .i64 3] := by kernel_rfl
 have k3 : (List.length (AV.list (List.headD [sts l0, .i .i64 0] .u))) = 4 := by kernel_rfl
 have k4 : AV.int (List.headD (List.tail [sts l0, .i .i64 0]) .u) = 0 := by kernel_rfl
 unfold t_law17_wakes
 refine Eq.trans (congrArg (fun o => Option.bind o _) h1) ?_
 rw [Option.bind_some, g0_av]
 simp only [h2, Option.bind_some, k1, k2, k3, k4, e1, e2]
 rfl
end Go.Proofs.YteklakapimggeaaGreatDoor.Den
