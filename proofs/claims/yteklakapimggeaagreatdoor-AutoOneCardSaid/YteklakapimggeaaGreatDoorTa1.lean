/- Proved here: a part of the proof, told one step at a time: ThPlain, ThBase, TaA, TaB, TaC. No condition but those each theorem names. -/
import Derived.Test.YteklakapimggeaaGreatDoorKf
import Derived.Test.YteklakapimggeaaGreatDoorQf1
namespace Go.Proofs.YteklakapimggeaaGreatDoor.Den
open Go Go.Proofs
set_option linter.unusedVariables false
set_option linter.unusedSimpArgs false
theorem sorted_ext {α : Type} {lt : α → α → Prop} (irr : ∀ a, ¬ lt a a) (asy : ∀ a b, lt a b → ¬ lt b a) : ∀ {l m : List α}, l.Pairwise lt → m.Pairwise lt → (∀ x, x ∈ l ↔ x ∈ m) → l = m
 | [], [], _, _, _ => rfl
 | [], b :: m, _, _, h => by have := (h b).mpr (by simp); simp at this
 | a :: l, [], _, _, h => by have := (h a).mp (by simp); simp at this
 | a :: l, b :: m, hl, hm, h => by
  rw [List.pairwise_cons] at hl hm
  have hab : a = b := by
   have h1 := (h a).mp (by simp)
   have h2 := (h b).mpr (by simp)
   rw [List.mem_cons] at h1 h2
   rcases h1 with h1 | h1
   ·exact h1
   rcases h2 with h2 | h2
   ·exact h2.symm
   exact absurd (hm.1 a h1) (asy _ _ (hl.1 b h2))
  subst hab
  congr 1
  refine sorted_ext irr asy hl.2 hm.2 fun x => ?_
  have := h x
  rw [List.mem_cons, List.mem_cons] at this
  constructor
  ·intro hx
   rcases this.mp (.inr hx) with q | q
   ·subst q; exact absurd (hl.1 x hx) (irr x)
   ·exact q
  ·intro hx
   rcases this.mpr (.inr hx) with q | q
   ·subst q; exact absurd (hm.1 x hx) (irr x)
   ·exact q
theorem upTo {P : Nat → Prop} (n : Nat) (h0 : P n) (hs : ∀ j, j < n → P (j + 1) → P j) : ∀ j, j ≤ n → P j := by
 have : ∀ m j, j + m = n → P j := by
  intro m
  induction m with
  | zero => intro j hj; rw [show j = n by omega]; exact h0
  | succ m ih => intro j hj; exact hs j (by omega) (ih (j + 1) (by omega))
 intro j hj
 exact this (n - j) j (by omega)
abbrev Itm := Int × Int
def ltI (x y : Itm) : Prop := x.1 < y.1 ∨ (x.1 = y.1 ∧ x.2 < y.2)
instance (x y : Itm) : Decidable (ltI x y) := inferInstanceAs (Decidable (_ ∨ _))
theorem ltI_irr (a : Itm) : ¬ ltI a a := by unfold ltI; omega
theorem ltI_asy (a b : Itm) (h : ltI a b) : ¬ ltI b a := by unfold ltI at *; omega
theorem ltI_trans {a b c : Itm} (h : ltI a b) (h2 : ltI b c) : ltI a c := by unfold ltI at *; omega
theorem ltI_tri (a b : Itm) : ltI a b ∨ a = b ∨ ltI b a := by
 obtain ⟨a1, a2⟩ := a
 obtain ⟨b1, b2⟩ := b
 simp only [ltI, Prod.mk.injEq]
 omega
theorem ordI_neg (x y : Itm) : ordI x y < 0 ↔ ltI x y := by
 unfold ordI cmpI2 ltI
 repeat' split
 all_goals omega
def dedup {α : Type} [DecidableEq α] : List α → List α
 | [] => []
 | [a] => [a]
 | a :: b :: l => if a = b then dedup (b :: l) else a :: dedup (b :: l)
theorem mem_dedup {α : Type} [DecidableEq α] : ∀ (l : List α) (x : α), x ∈ dedup l ↔ x ∈ l
 | [], x => Iff.rfl
 | [a], x => Iff.rfl
 | a :: b :: l, x => by
  unfold dedup
  have ih := mem_dedup (b :: l) x
  by_cases h : a = b
  ·subst h
   rw [if_pos rfl, ih]
   simp
  ·rw [if_neg h, List.mem_cons, ih]
   simp only [List.mem_cons]
theorem dedup_lt : ∀ {l : List Itm}, l.Pairwise (fun x y => ltI x y ∨ x = y) → (dedup l).Pairwise ltI
 | [], _ => .nil
 | [a], _ => by simp [dedup]
 | a :: b :: l, h => by
  unfold dedup
  have h' := h
  rw [List.pairwise_cons] at h
  have ih := dedup_lt h.2
  by_cases q : a = b
  ·rw [if_pos q]; exact ih
  ·rw [if_neg q, List.pairwise_cons]
   refine ⟨fun x hx => ?_, ih⟩
   rw [mem_dedup] at hx
   rcases h.1 x hx with k | k
   ·exact k
   ·subst k
    rw [List.mem_cons] at hx
    rcases hx with k | k
    ·exact absurd k q
    ·have h1 := h.1 b (by simp)
     have h2 := (List.pairwise_cons.mp h.2).1 a k
     rcases h1 with h1 | h1
     ·rcases h2 with h2 | h2
      ·exact absurd h2 (ltI_asy _ _ h1)
      ·exact absurd h2.symm q
     ·exact absurd h1 q
def srt (l : List Itm) : List Itm := dedup (l.mergeSort fun x y => !decide (ordI y x < 0))
theorem mem_srt (l : List Itm) (x : Itm) : x ∈ srt l ↔ x ∈ l := by
 unfold srt
 rw [mem_dedup, List.mem_mergeSort]
theorem srt_lt (l : List Itm) : (srt l).Pairwise ltI := by
 unfold srt
 refine dedup_lt ?_
 have := List.pairwise_mergeSort (le := fun x y => !decide (ordI y x < 0)) (l := l) (fun a b c h1 h2 => by
  simp only [Bool.not_eq_true', decide_eq_false_iff_not, ordI_neg] at h1 h2 ⊢
  intro h
  rcases ltI_tri b c with k | k | k
  ·exact h1 (ltI_trans k h)
  ·subst k; exact h1 h
  ·exact h2 k) (fun a b => by
  simp only [Bool.or_eq_true, Bool.not_eq_true', decide_eq_false_iff_not, ordI_neg]
  by_cases h : ltI b a
  ·exact .inr (ltI_asy _ _ h)
  ·exact .inl h)
 refine this.imp ?_
 intro a b h
 simp only [Bool.not_eq_true', decide_eq_false_iff_not, ordI_neg] at h
 rcases ltI_tri a b with k | k | k
 ·exact .inl k
 ·exact .inr k
 ·exact absurd k h
structure Prd where
 left : Int
 right : List Int
 prec : Int
instance : Inhabited Prd := ⟨⟨0, [], 0⟩⟩
structure Rul where
 name : ByteArray
 re : List AV
 skip : Bool
instance : Inhabited Rul := ⟨⟨⟨#[]⟩, [], false⟩⟩
structure Gr where
 rules : List Rul
 nonts : List ByteArray
 levels : List Itm
 prods : List Prd
 start : Int
def terms (g : Gr) : Nat := (g.rules.filter fun r => !r.skip).length
def alls (g : Gr) : Nat := terms g + g.nonts.length
def side (g : Gr) (p : Int) : List Int := if p = -1 then [g.start] else (g.prods.getD p.toNat default).right
def nxt (g : Gr) (x : Itm) : Int := if x.2 < ((side g x.1).length : Int) then (side g x.1).getD x.2.toNat 0 else 0
def IsI (g : Gr) (x : Itm) : Prop := -1 ≤ x.1 ∧ x.1 < (g.prods.length : Int) ∧ 0 ≤ x.2 ∧ x.2 ≤ ((side g x.1).length : Int)
instance (g : Gr) (x : Itm) : Decidable (IsI g x) := inferInstanceAs (Decidable (_ ∧ _ ∧ _ ∧ _))
def allI (g : Gr) : List Itm := (List.range (g.prods.length + 1)).flatMap fun (p : Nat) => (List.range ((side g ((p : Int) - 1)).length + 1)).map fun (d : Nat) => (((p : Int) - 1, (d : Int)) : Itm)
theorem mem_allI (g : Gr) (x : Itm) : x ∈ allI g ↔ IsI g x := by
 obtain ⟨p, d⟩ := x
 simp only [allI, List.mem_flatMap, List.mem_range, List.mem_map, Prod.mk.injEq, IsI]
 constructor
 ·rintro ⟨q, hq, e, he, rfl, rfl⟩
  exact ⟨by omega, by omega, by omega, by omega⟩
 ·rintro ⟨h1, h2, h3, h4⟩
  refine ⟨(p + 1).toNat, by omega, d.toNat, ?_, by omega, by omega⟩
  rw [show (((p + 1).toNat : Nat) : Int) - 1 = p by omega]
  omega
theorem pw_range (n : Nat) : (List.range n).Pairwise (· < ·) := List.pairwise_lt_range
theorem allI_lt (g : Gr) : (allI g).Pairwise ltI := by
 unfold allI
 rw [List.pairwise_flatMap]
 constructor
 ·intro p _
  rw [List.pairwise_map]
  refine (pw_range _).imp ?_
  intro a b h
  exact .inr ⟨rfl, by show (a : Int) < b; omega⟩
 ·refine (pw_range _).imp ?_
  intro a b h x hx y hy
  rw [List.mem_map] at hx hy
  obtain ⟨d, _, rfl⟩ := hx
  obtain ⟨e, _, rfl⟩ := hy
  refine .inl ?_
  show (a : Int) - 1 < (b : Int) - 1
  omega
inductive Clo (g : Gr) (K : List Itm) : Itm → Prop
 | base {x : Itm} : x ∈ K → Clo g K x
 | step {x : Itm} {p : Nat} : Clo g K x → p < g.prods.length → nxt g x = (g.prods.getD p default).left → nxt g x ≠ 0 → Clo g K ((p : Int), 0)
theorem Clo.is {g : Gr} {K : List Itm} (hK : ∀ x ∈ K, IsI g x) {x : Itm} (h : Clo g K x) : IsI g x := by
 induction h with
 | base h => exact hK _ h
 | step _ hp _ _ => exact ⟨by show (-1 : Int) ≤ _; omega, by show (_ : Int) < _; omega, Int.le_refl _, by show (0 : Int) ≤ _; omega⟩
theorem Clo.mono {g : Gr} {K L : List Itm} (h : ∀ x ∈ K, Clo g L x) {x : Itm} (hx : Clo g K x) : Clo g L x := by
 induction hx with
 | base h' => exact h _ h'
 | step _ h1 h2 h3 ih => exact ih.step h1 h2 h3
open Classical in
noncomputable def pick (g : Gr) (P : Itm → Prop) : List Itm := (allI g).filter fun x => decide (P x)
open Classical in
theorem mem_pick {g : Gr} {P : Itm → Prop} {x : Itm} : x ∈ pick g P ↔ IsI g x ∧ P x := by
 unfold pick
 rw [List.mem_filter, mem_allI, decide_eq_true_eq]
theorem pick_lt (g : Gr) (P : Itm → Prop) : (pick g P).Pairwise ltI := (allI_lt g).sublist List.filter_sublist
theorem pick_eq {g : Gr} {P : Itm → Prop} {l : List Itm} (h : l.Pairwise ltI) (hm : ∀ x, x ∈ l ↔ IsI g x ∧ P x) : l = pick g P :=
 sorted_ext ltI_irr ltI_asy h (pick_lt g P) fun x => (hm x).trans mem_pick.symm
theorem pick_congr {g : Gr} {P Q : Itm → Prop} (h : ∀ x, IsI g x → (P x ↔ Q x)) : pick g P = pick g Q :=
 pick_eq (pick_lt g P) fun x => mem_pick.trans ⟨fun q => ⟨q.1, (h x q.1).mp q.2⟩, fun q => ⟨q.1, (h x q.1).mpr q.2⟩⟩
theorem srt_pick {g : Gr} {P : Itm → Prop} {l : List Itm} (hm : ∀ x, x ∈ l ↔ IsI g x ∧ P x) : srt l = pick g P :=
 pick_eq (srt_lt l) fun x => (mem_srt l x).trans (hm x)
noncomputable def clo (g : Gr) (K : List Itm) : List Itm := pick g (Clo g K)
def Got (g : Gr) (K : List Itm) (s : Int) (y : Itm) : Prop := ∃ x, Clo g K x ∧ nxt g x = s ∧ s ≠ 0 ∧ y = (x.1, x.2 + 1)
noncomputable def gto (g : Gr) (K : List Itm) (s : Int) : List Itm := pick g (Got g K s)
theorem mem_clo {g : Gr} {K : List Itm} (hK : ∀ x ∈ K, IsI g x) {x : Itm} : x ∈ clo g K ↔ Clo g K x :=
 mem_pick.trans ⟨fun h => h.2, fun h => ⟨h.is hK, h⟩⟩
theorem nxt_lt {g : Gr} {x : Itm} (h : nxt g x ≠ 0) : x.2 < ((side g x.1).length : Int) := by
 unfold nxt at h
 split at h
 ·assumption
 ·exact absurd rfl h
theorem IsI.succ {g : Gr} {x : Itm} (h : IsI g x) (hn : nxt g x ≠ 0) : IsI g (x.1, x.2 + 1) := by
 have := nxt_lt hn
 obtain ⟨h1, h2, h3, h4⟩ := h
 exact ⟨h1, h2, by show (0 : Int) ≤ x.2 + 1; omega, by show x.2 + 1 ≤ ((side g x.1).length : Int); omega⟩
theorem mem_gto {g : Gr} {K : List Itm} (hK : ∀ x ∈ K, IsI g x) {s : Int} {y : Itm} : y ∈ gto g K s ↔ Got g K s y := by
 refine mem_pick.trans ⟨fun h => h.2, fun h => ⟨?_, h⟩⟩
 obtain ⟨x, hx, hn, hs, rfl⟩ := h
 exact (hx.is hK).succ (by rw [hn]; exact hs)
theorem gto_clo {g : Gr} {K : List Itm} (hK : ∀ x ∈ K, IsI g x) (s : Int) : gto g (clo g K) s = gto g K s := by
 refine pick_congr fun y _ => ?_
 constructor
 ·rintro ⟨x, hx, h⟩
  exact ⟨x, hx.mono fun z hz => (mem_clo hK).mp hz, h⟩
 ·rintro ⟨x, hx, h⟩
  exact ⟨x, .base ((mem_clo hK).mpr hx), h⟩
theorem w64 {x : Int} (h : -9223372036854775808 ≤ x) (h2 : x < 9223372036854775808) : IntKind.wrap .i64 x = x := by
 rw [IntKind.wrap_i64]
 omega
theorem wsucc {j : Nat} (h : j < 9223372036854775807) : IntKind.wrap .i64 ((j : Int) + (1 : Int)) = ((j + 1 : Nat) : Int) := by
 rw [w64 (by omega) (by omega)]; omega
section
variable (k : IntKind) (n : Int) (x : Bool) (s : ByteArray) (e : TypeId) (xs : List AV)
@[simp] theorem int_i : AV.int (.i k n) = n := rfl
@[simp] theorem int_u : AV.int .u = 0 := rfl
@[simp] theorem bool_b : AV.bool (.b x) = x := rfl
@[simp] theorem bool_u : AV.bool .u = false := rfl
@[simp] theorem str_s : AV.str (.s s) = s := rfl
@[simp] theorem str_u : AV.str .u = ⟨#[]⟩ := rfl
@[simp] theorem list_l : AV.list (.l e xs) = xs := rfl
@[simp] theorem list_u : AV.list .u = [] := rfl
@[simp] theorem fld_u (j : Nat) : AV.fld .u j = .u := rfl
end
@[simp] theorem fld_g (fs : List AV) (j : Nat) : AV.fld (.g fs) j = fs.getD j .u := rfl
@[simp] theorem unM_map (T : TypeId) (es : List (AV × AV)) : unM (AV.l T (es.map fun q => AV.g [q.1, q.2])) = es := by
 unfold unM AV.list
 rw [List.map_map]
 exact List.map_id' es
abbrev its (l : List Itm) : AV := .l T_api_Item (l.map itemAV)
abbrev nums (l : List Int) : AV := .l T_int (l.map (AV.i .i64))
def Prd.av (p : Prd) : AV := .g [.i .i64 p.left, nums p.right, .i .i64 p.prec]
def Rul.av (r : Rul) : AV := .g [.s r.name, .l T_api_Cell r.re, .b r.skip]
abbrev Gr.av (g : Gr) : AV := .g [.l T_api_Rule (g.rules.map Rul.av), .l T_string (g.nonts.map AV.s), .l T_api_Level (g.levels.map itemAV), .l T_api_Prod (g.prods.map Prd.av), .i .i64 g.start]
@[simp] theorem av_l (p : Prd) : p.av.fld 0 = .i .i64 p.left := rfl
@[simp] theorem av_r (p : Prd) : p.av.fld 1 = nums p.right := rfl
@[simp] theorem av_p (p : Prd) : p.av.fld 2 = .i .i64 p.prec := rfl
@[simp] theorem av_n (r : Rul) : r.av.fld 0 = .s r.name := rfl
@[simp] theorem av_re (r : Rul) : r.av.fld 1 = .l T_api_Cell r.re := rfl
@[simp] theorem av_s (r : Rul) : r.av.fld 2 = .b r.skip := rfl
@[simp] theorem av_1 (x : Itm) : (itemAV x).fld 0 = .i .i64 x.1 := rfl
@[simp] theorem av_2 (x : Itm) : (itemAV x).fld 1 = .i .i64 x.2 := rfl
theorem itemAV_eq (x : Itm) : AV.g [.i .i64 x.1, .i .i64 x.2] = itemAV x := rfl
section
variable {β : Type} (f : β → AV) (o : Option β)
@[simp] theorem o_int (o : Option Int) (k : IntKind) : AV.int ((Option.map (AV.i k) o).getD .u) = o.getD 0 := by cases o <;> rfl
@[simp] theorem o_bool (o : Option Bool) : AV.bool ((Option.map AV.b o).getD .u) = o.getD false := by cases o <;> rfl
@[simp] theorem o_str (o : Option ByteArray) : AV.str ((Option.map AV.s o).getD .u) = o.getD ⟨#[]⟩ := by cases o <;> rfl
@[simp] theorem o_l (o : Option Prd) : AV.int (AV.fld ((Option.map Prd.av o).getD .u) 0) = (o.getD default).left := by cases o <;> rfl
@[simp] theorem o_r (o : Option Prd) : AV.list (AV.fld ((Option.map Prd.av o).getD .u) 1) = (o.getD default).right.map (AV.i .i64) := by cases o <;> rfl
@[simp] theorem o_p (o : Option Prd) : AV.int (AV.fld ((Option.map Prd.av o).getD .u) 2) = (o.getD default).prec := by cases o <;> rfl
@[simp] theorem o_n (o : Option Rul) : AV.str (AV.fld ((Option.map Rul.av o).getD .u) 0) = (o.getD default).name := by cases o <;> rfl
@[simp] theorem o_re (o : Option Rul) : AV.list (AV.fld ((Option.map Rul.av o).getD .u) 1) = (o.getD default).re := by cases o <;> rfl
@[simp] theorem o_s (o : Option Rul) : AV.bool (AV.fld ((Option.map Rul.av o).getD .u) 2) = (o.getD default).skip := by cases o <;> rfl
@[simp] theorem o_1 (o : Option Itm) : AV.int (AV.fld ((Option.map itemAV o).getD .u) 0) = (o.getD (0, 0)).1 := by cases o <;> rfl
@[simp] theorem o_2 (o : Option Itm) : AV.int (AV.fld ((Option.map itemAV o).getD .u) 1) = (o.getD (0, 0)).2 := by cases o <;> rfl
end
theorem cs (n : Nat) : ((n + 1 : Nat) : Int) = (n : Int) + 1 := rfl
theorem beqI (a b : Int) : (a == b) = decide (a = b) := by
 by_cases h : a = b
 ·subst h; simp
 ·rw [decide_eq_false h, beq_eq_false_iff_ne]; exact h
section
variable {α β : Type}
theorem Ev.const (r : α) : Ev (fun _ => r) r := ⟨0, fun _ _ => rfl⟩
theorem Ev.add {f : Nat → α} {r : α} (c : Nat) (h : Ev f r) : Ev (fun k => f (k + c)) r := by
  obtain ⟨K, hK⟩ := h
  exact ⟨K, fun k hk => hK _ (by omega)⟩
theorem Ev.shift {f g : Nat → α} {r : α} {c : Nat} (h : ∀ k, f (k + c) = g k) (hg : Ev g r) : Ev f r := by
  obtain ⟨K, hK⟩ := hg
  refine ⟨K + c, fun k hk => ?_⟩
  obtain ⟨j, rfl⟩ : ∃ j, k = j + c := ⟨k - c, by omega⟩
  rw [h, hK j (by omega)]
theorem Ev.call {n : FuncId} {args : List AV} {o : Out} (c : Nat) (h : Ev (fun k => call C k n args) o) (hp : C.prim n = none := by rfl) : Ev (fun k => callP C (callF C (k + c)) n args) o := by
  obtain ⟨K, hK⟩ := h
  refine ⟨K, fun k hk => ?_⟩
  show callP C (callF C (k + c)) n args = o
  unfold callP
  rw [hp]
  exact hK (k + c) (by omega)
theorem Ev.prim {n : FuncId} {args : List AV} {o : Out} {pf : List AV → Option (List AV)} (c : Nat) (hp : C.prim n = some pf) (h : pf args = o) : Ev (fun k => callP C (callF C (k + c)) n args) o := by
  refine ⟨0, fun k _ => ?_⟩
  show callP C (callF C (k + c)) n args = o
  unfold callP
  rw [hp]
  exact h
theorem Ev.bind {x : Nat → Option α} {f : Nat → α → Option β} {o : α} {r : Option β} (h : Ev x (some o)) (h2 : Ev (fun k => f k o) r) : Ev (fun k => (x k).bind (f k)) r := by
  obtain ⟨K, hK⟩ := h
  obtain ⟨J, hJ⟩ := h2
  refine ⟨K + J, fun k hk => ?_⟩
  show (x k).bind (f k) = r
  rw [hK k (by omega)]
  exact hJ k (by omega)
theorem Ev.pos {p : Prop} [Decidable p] {a b : Nat → α} {r : α} (h : p) (ha : Ev a r) : Ev (fun k => if p then a k else b k) r := by
  simpa only [if_pos h] using ha
theorem Ev.neg {p : Prop} [Decidable p] {a b : Nat → α} {r : α} (h : ¬ p) (ha : Ev b r) : Ev (fun k => if p then a k else b k) r := by
  simpa only [if_neg h] using ha
theorem Ev.of {f : Nat → α} {r : α} (h : ∀ k, f k = r) : Ev f r := ⟨0, fun k _ => h k⟩
end
def Both (f g : Nat → Out) (P : Bool → Prop) : Prop := ∃ b, Ev f (some [.b b]) ∧ Ev g (some [.b b]) ∧ P b
theorem Both.same {f g : Nat → Out} {P : Bool → Prop} (b : Bool) (hf : Ev f (some [.b b])) (hg : Ev g (some [.b b])) (hP : P b) : Both f g P := ⟨b, hf, hg, hP⟩
def wt (x : Int) : Int := if x = 1 ∨ x = 2 then 0 else if x = 3 ∨ x = 4 then 2 else if x = 5 ∨ x = 6 ∨ x = 7 then 1 else -1
theorem wt_ev (x : Int) : Ev (fun k => call C k regex_wants [.i .i64 x]) (some [.i .i64 (wt x)]) := by
  refine Ev.shift (fun k => e_regex_wants k x) (Ev.of fun k => ?_)
  unfold t_regex_wants
  try dsimp only
  unfold wt
  by_cases h1 : x = 1
  · subst h1; rfl
  by_cases h2 : x = 2
  · subst h2; rfl
  by_cases h3 : x = 3
  · subst h3; rfl
  by_cases h4 : x = 4
  · subst h4; rfl
  by_cases h5 : x = 5
  · subst h5; rfl
  by_cases h6 : x = 6
  · subst h6; rfl
  by_cases h7 : x = 7
  · subst h7; rfl
  simp [h1, h2, h3, h4, h5, h6, h7]
theorem wt_ev' (x : Int) : Ev (fun k => call C k ref06_Wants [.i .i64 x]) (some [.i .i64 (wt x)]) := by
  refine Ev.shift (fun k => e_ref06_Wants k x) (Ev.of fun k => ?_)
  unfold t_ref06_Wants
  try dsimp only
  unfold wt
  by_cases h1 : x = 1
  · subst h1; rfl
  by_cases h2 : x = 2
  · subst h2; rfl
  by_cases h3 : x = 3
  · subst h3; rfl
  by_cases h4 : x = 4
  · subst h4; rfl
  by_cases h5 : x = 5
  · subst h5; rfl
  by_cases h6 : x = 6
  · subst h6; rfl
  by_cases h7 : x = 7
  · subst h7; rfl
  have : ¬ (x ≥ 5 ∧ x ≤ 7) := by omega
  by_cases h8 : x ≥ 5
  · have h9 : ¬ x ≤ 7 := by omega
    simp [h1, h2, h3, h4, h5, h6, h7, h8, h9]
  · simp [h1, h2, h3, h4, h5, h6, h7, h8]
theorem wt_le (x : Int) : wt x ≤ 2 := by unfold wt; split; · omega
                                         split; · omega
                                         split <;> omega
theorem rx_loop (ys : List AV) (hb : ys.length ≤ 60) : ∀ (m j : Nat) (n : Int), j + m = ys.length → 0 ≤ n → n ≤ j →
    Both (fun k => l_regex_Right_r5 k n ys (ys.length : Int) (j : Int)) (fun k => l_ref06_Right_r5 k ys n (j : Int)) fun _ => True := by
  intro m
  induction m with
  | zero =>
    intro j n hj h0 h1
    refine Both.same (n == 1) ?_ ?_ trivial
    · refine Ev.shift (fun k => e_regex_Right_r5 k ..) ?_
      unfold t_regex_Right_r5
      try dsimp only
      exact Ev.neg (by simp; omega) (Ev.const _)
    · refine Ev.shift (fun k => e_ref06_Right_r5 k ..) ?_
      unfold t_ref06_Right_r5
      try dsimp only
      exact Ev.neg (by simp; omega) (Ev.const _)
  | succ m ih =>
    intro j n hj h0 h1
    have hlt : j < ys.length := by omega
    have c1 : decide ((j : Int) < (ys.length : Int)) = true := by simp; omega
    have c2 : (0 : Int) ≤ (j : Int) ∧ (j : Int) < (ys.length : Int) := by omega
    generalize hop : AV.int (AV.fld (ys.getD (Int.toNat (j : Int)) .u) 0) = op
    have hle := wt_le op
    by_cases hw : wt op < 0
    · refine Both.same false ?_ ?_ trivial
      · refine Ev.shift (fun k => e_regex_Right_r5 k ..) ?_
        unfold t_regex_Right_r5
        try dsimp only
        rw [hop]
        refine Ev.pos c1 (Ev.pos c2 ?_)
        refine Ev.bind (Ev.call 11 (wt_ev op)) ?_
        exact Ev.neg (by simp [AV.int, hw]) (Ev.const _)
      · refine Ev.shift (fun k => e_ref06_Right_r5 k ..) ?_
        unfold t_ref06_Right_r5
        try dsimp only
        rw [hop]
        refine Ev.pos c1 (Ev.pos c2 ?_)
        refine Ev.bind (Ev.call 14 (wt_ev' op)) ?_
        exact Ev.pos c2 (Ev.neg (by simp [AV.int, hw]) (Ev.const _))
    by_cases hn : wt op > n
    · refine Both.same false ?_ ?_ trivial
      · refine Ev.shift (fun k => e_regex_Right_r5 k ..) ?_
        unfold t_regex_Right_r5
        try dsimp only
        rw [hop]
        refine Ev.pos c1 (Ev.pos c2 ?_)
        refine Ev.bind (Ev.call 11 (wt_ev op)) ?_
        refine Ev.pos (by simp [AV.int]; omega) ?_
        exact Ev.neg (by simp [AV.int]; omega) (Ev.const _)
      · refine Ev.shift (fun k => e_ref06_Right_r5 k ..) ?_
        unfold t_ref06_Right_r5
        try dsimp only
        rw [hop]
        refine Ev.pos c1 (Ev.pos c2 ?_)
        refine Ev.bind (Ev.call 14 (wt_ev' op)) ?_
        refine Ev.pos c2 (Ev.pos (by simp [AV.int]; omega) ?_)
        exact Ev.neg (by simp [AV.int]; omega) (Ev.const _)
    generalize hz : (((AV.int (AV.fld (AV.fld (ys.getD (Int.toNat (j : Int)) .u) 1) 0)) == (0 : Int)) && (((AV.int (AV.fld (AV.fld (ys.getD (Int.toNat (j : Int)) .u) 1) 1)) == (0 : Int)) && (((AV.int (AV.fld (AV.fld (ys.getD (Int.toNat (j : Int)) .u) 1) 2)) == (0 : Int)) && (((AV.int (AV.fld (AV.fld (ys.getD (Int.toNat (j : Int)) .u) 1) 3)) == (0 : Int)) && true)))) = z
    by_cases hq : z = (op == 1)
    · refine Both.same false ?_ ?_ trivial
      · refine Ev.shift (fun k => e_regex_Right_r5 k ..) ?_
        unfold t_regex_Right_r5
        try dsimp only
        rw [hop, hz]
        refine Ev.pos c1 (Ev.pos c2 ?_)
        refine Ev.bind (Ev.call 11 (wt_ev op)) ?_
        refine Ev.pos (by simp [AV.int]; omega) ?_
        refine Ev.pos (by simp [AV.int]; omega) ?_
        refine Ev.pos (by rw [hq]; cases (op == 1) <;> rfl) (Ev.const _)
      · refine Ev.shift (fun k => e_ref06_Right_r5 k ..) ?_
        unfold t_ref06_Right_r5
        try dsimp only
        rw [hop, hz]
        refine Ev.pos c1 (Ev.pos c2 ?_)
        refine Ev.bind (Ev.call 14 (wt_ev' op)) ?_
        refine Ev.pos c2 (Ev.pos (by simp [AV.int]; omega) ?_)
        refine Ev.pos (by simp [AV.int]; omega) ?_
        exact Ev.pos c2 (Ev.pos (by rw [hq]; simp) (Ev.const _))
    obtain ⟨b, k1, k2, _⟩ := ih (j + 1) (n - wt op + 1) (by omega) (by omega) (by omega)
    refine Both.same b ?_ ?_ trivial
    · refine Ev.shift (fun k => e_regex_Right_r5 k ..) ?_
      unfold t_regex_Right_r5
      try dsimp only
      rw [hop, hz]
      refine Ev.pos c1 (Ev.pos c2 ?_)
      refine Ev.bind (Ev.call 11 (wt_ev op)) ?_
      refine Ev.pos (by simp [AV.int]; omega) ?_
      refine Ev.pos (by simp [AV.int]; omega) ?_
      refine Ev.neg (by revert hq; cases z <;> cases (op == 1) <;> simp) ?_
      have e1 : IntKind.wrap .i64 (n + (IntKind.wrap .i64 ((1 : Int) - (AV.int (List.headD [AV.i .i64 (wt op)] .u))))) = n - wt op + 1 := by
        show IntKind.wrap .i64 (n + (IntKind.wrap .i64 ((1 : Int) - wt op))) = _
        rw [w64 (x := 1 - wt op) (by omega) (by omega), w64 (by omega) (by omega)]
        omega
      rw [e1, wsucc (by omega)]
      exact k1.add 0
    · refine Ev.shift (fun k => e_ref06_Right_r5 k ..) ?_
      unfold t_ref06_Right_r5
      try dsimp only
      rw [hop, hz]
      refine Ev.pos c1 (Ev.pos c2 ?_)
      refine Ev.bind (Ev.call 14 (wt_ev' op)) ?_
      refine Ev.pos c2 (Ev.pos (by simp [AV.int]; omega) ?_)
      refine Ev.pos (by simp [AV.int]; omega) ?_
      refine Ev.pos c2 (Ev.neg (by revert hq; cases z <;> cases (op == 1) <;> simp) ?_)
      have e1 : IntKind.wrap .i64 ((IntKind.wrap .i64 (n - (AV.int (List.headD [AV.i .i64 (wt op)] .u)))) + (1 : Int)) = n - wt op + 1 := by
        show IntKind.wrap .i64 ((IntKind.wrap .i64 (n - wt op)) + (1 : Int)) = _
        rw [w64 (x := n - wt op) (by omega) (by omega), w64 (by omega) (by omega)]
      rw [e1, wsucc (by omega)]
      exact k2.add 0
theorem rx_ok (ys : List AV) : Both (fun k => call C k regex_Right [.l T_api_Cell ys]) (fun k => call C k ref06_Right [.l T_api_Cell ys]) fun _ => True := by
  by_cases h0 : ys.length = 0
  · refine Both.same false ?_ ?_ trivial
    · refine Ev.shift (fun k => e_regex_Right k ..) ?_
      unfold t_regex_Right
      try dsimp only
      exact Ev.neg (by simp [h0]) (Ev.const _)
    · refine Ev.shift (fun k => e_ref06_Right k ..) ?_
      unfold t_ref06_Right
      try dsimp only
      exact Ev.neg (by simp [h0]) (Ev.const _)
  by_cases h1 : ys.length ≤ 60
  · obtain ⟨b, k1, k2, _⟩ := rx_loop ys h1 ys.length 0 0 (by omega) (by omega) (by omega)
    refine Both.same b ?_ ?_ trivial
    · refine Ev.shift (fun k => e_regex_Right k ..) ?_
      unfold t_regex_Right
      try dsimp only
      refine Ev.pos (by simp; exact fun h => h0 (by rw [h]; rfl)) (Ev.neg (by simp; omega) ?_)
      exact k1.add 0
    · refine Ev.shift (fun k => e_ref06_Right k ..) ?_
      unfold t_ref06_Right
      try dsimp only
      refine Ev.pos (by simp; omega) (Ev.neg (by simp; omega) ?_)
      exact k2.add 0
  · refine Both.same false ?_ ?_ trivial
    · refine Ev.shift (fun k => e_regex_Right k ..) ?_
      unfold t_regex_Right
      try dsimp only
      refine Ev.pos (by simp; exact fun h => h0 (by rw [h]; rfl)) (Ev.pos (by simp; omega) (Ev.const _))
    · refine Ev.shift (fun k => e_ref06_Right k ..) ?_
      unfold t_ref06_Right
      try dsimp only
      refine Ev.pos (by simp; omega) (Ev.pos (by simp; omega) (Ev.const _))
theorem eqb (a : ByteArray) : (ByteArray.toList a == ByteArray.toList a) = true := by simp
theorem eqb_iff (a b : ByteArray) : (ByteArray.toList a == ByteArray.toList b) = decide (a = b) := by
  by_cases h : a = b
  · rw [h, eqb]; simp
  · rw [decide_eq_false h, beq_eq_false_iff_ne]
    intro q
    rw [ByteArray.toList_eq, ByteArray.toList_eq] at q
    exact h (by cases a; cases b; simp at q; simp [q])
def chr (s : ByteArray) (j : Nat) : Int := (((s.data.getD j 0).toNat : Nat) : Int)
theorem chr_ext {s : ByteArray} {p q i : Nat} (h : p + i < q) (hq : q ≤ s.size) : chr (s.extract p q) i = chr s (p + i) := by
  unfold chr
  rw [ByteArray.data_extract]
  simp only [Array.getD_eq_getD_getElem?]
  rw [Array.getElem?_extract, if_pos (by
    have : s.data.size = s.size := rfl
    omega)]
theorem ext_size {s : ByteArray} {p q : Nat} (hq : q ≤ s.size) : (s.extract p q).size = q - p := by
  rw [ByteArray.size_extract]
  omega
theorem ext_all (s : ByteArray) : s.extract 0 s.size = s := ByteArray.extract_zero_size
def letB (c : Int) : Bool := decide ((97 ≤ c ∧ c ≤ 122) ∨ (65 ≤ c ∧ c ≤ 90) ∨ c = 95)
theorem let_ev (c : Int) : Ev (fun k => call C k word_letter [.i .u8 c]) (some [.b (letB c)]) := by
  refine Ev.shift (fun k => e_word_letter k c) (Ev.of fun k => ?_)
  unfold t_word_letter
  try dsimp only
  unfold letB
  by_cases h1 : c ≥ 97
  · by_cases h2 : c ≤ 122
    · have : (97 ≤ c ∧ c ≤ 122) ∨ (65 ≤ c ∧ c ≤ 90) ∨ c = 95 := .inl ⟨h1, h2⟩
      simp [h1, h2]
    · have h3 : c ≥ 65 := by omega
      have h4 : ¬ c ≤ 90 := by omega
      have : ¬ (97 ≤ c ∧ c ≤ 122) := by omega
      by_cases h5 : c = 95
      · subst h5; omega
      · simp [h1, h2, h3, h4, h5]
  · by_cases h3 : c ≥ 65
    · by_cases h4 : c ≤ 90
      · have : ¬ (97 ≤ c) := by omega
        simp [h1, h3, h4, this]
      · by_cases h5 : c = 95
        · simp [h5]
        · simp [h1, h3, h4, h5]
    · by_cases h5 : c = 95
      · omega
      · simp [h1, h3, h5]
theorem let_ev' (c : Int) : Ev (fun k => call C k ref11_Letter [.i .u8 c]) (some [.b (letB c)]) := by
  refine Ev.shift (fun k => e_ref11_Letter k c) (Ev.of fun k => ?_)
  unfold t_ref11_Letter
  try dsimp only
  unfold letB
  by_cases h0 : c = 95
  · subst h0; rfl
  by_cases h1 : c ≥ 65
  · by_cases h2 : c ≤ 90
    · simp [h0, h1, h2]
    · by_cases h3 : c ≥ 97
      · simp [h0, h1, h2, h3]
      · simp [h0, h1, h2, h3]
  · have h3 : ¬ c ≥ 97 := by omega
    simp [h0, h1, h3]
def okC (s : ByteArray) (i : Nat) : Prop := letB (chr s i) = true ∨ (0 < i ∧ 48 ≤ chr s i ∧ chr s i ≤ 57)
def Nm (s : ByteArray) : Prop := 1 ≤ s.size ∧ s.size ≤ 16 ∧ ∀ i, i < s.size → okC s i
theorem name_loop (s : ByteArray) (hb : s.size ≤ 4000) : ∀ (m j : Nat), j + m = s.size → ∃ n : Nat, Ev (fun k => l_word_name_r2 k s (j : Int)) (some [.i .i64 (n : Int)]) ∧ n ≤ s.size ∧ (n ≠ 0 → n ≤ 16 ∧ ∀ i, j ≤ i → i < n → okC s i) ∧
    (s.size ≤ 16 → (∀ i, j ≤ i → i < s.size → okC s i) → n = s.size) := by
  intro m
  induction m with
  | zero =>
    intro j hj
    have hE : ∀ r : Nat, (if decide ((j : Int) > 16) = true then some [AV.i .i64 0] else some [AV.i .i64 (j : Int)]) = some [.i .i64 (r : Int)] → Ev (fun k => l_word_name_r2 k s (j : Int)) (some [.i .i64 (r : Int)]) := fun r hr => by
      refine Ev.shift (fun k => e_word_name_r2 k ..) ?_
      unfold t_word_name_r2
      try dsimp only
      refine Ev.neg (by simp; omega) ?_
      exact Ev.of fun k => hr
    by_cases h : j > 16
    · exact ⟨0, hE 0 (by rw [if_pos (by simp; omega)]; rfl), by omega, fun h => absurd rfl h, fun h1 _ => by omega⟩
    · exact ⟨j, hE j (by rw [if_neg (by simp; omega)]), by omega, fun _ => ⟨by omega, fun i h1 h2 => by omega⟩, fun _ _ => by omega⟩
  | succ m ih =>
    intro j hj
    have hlt : j < s.size := by omega
    have c1 : decide ((j : Int) < ((ByteArray.size s : Nat) : Int)) = true := by simp; omega
    have c2 : (0 : Int) ≤ (j : Int) ∧ (j : Int) < ((ByteArray.size s : Nat) : Int) := by omega
    have hc : (((s.data.getD (Int.toNat (j : Int)) 0).toNat : Nat) : Int) = chr s j := rfl
    obtain ⟨n, k1, k2, k3, k4⟩ := ih (j + 1) (by omega)
    have go_on : okC s j → Ev (fun k => l_word_name_r2 k s (j : Int)) (some [.i .i64 (n : Int)]) → ∃ n : Nat, Ev (fun k => l_word_name_r2 k s (j : Int)) (some [.i .i64 (n : Int)]) ∧ n ≤ s.size ∧ (n ≠ 0 → n ≤ 16 ∧ ∀ i, j ≤ i → i < n → okC s i) ∧ (s.size ≤ 16 → (∀ i, j ≤ i → i < s.size → okC s i) → n = s.size) := fun hok he => by
      refine ⟨n, he, k2, fun hn => ⟨(k3 hn).1, fun i h1 h2 => ?_⟩, fun h1 h2 => k4 h1 fun i h3 h4 => h2 i (by omega) h4⟩
      rcases Nat.eq_or_lt_of_le h1 with e | e
      · rw [← e]; exact hok
      · exact (k3 hn).2 i e h2
    have stop : ¬ okC s j → (∀ r : Nat, (if decide ((j : Int) > 16) = true then some [AV.i .i64 0] else some [AV.i .i64 (j : Int)]) = some [.i .i64 (r : Int)] → Ev (fun k => l_word_name_r2 k s (j : Int)) (some [.i .i64 (r : Int)])) → ∃ n : Nat, Ev (fun k => l_word_name_r2 k s (j : Int)) (some [.i .i64 (n : Int)]) ∧ n ≤ s.size ∧ (n ≠ 0 → n ≤ 16 ∧ ∀ i, j ≤ i → i < n → okC s i) ∧ (s.size ≤ 16 → (∀ i, j ≤ i → i < s.size → okC s i) → n = s.size) := fun hok hE => by
      by_cases h : j > 16
      · exact ⟨0, hE 0 (by rw [if_pos (by simp; omega)]; rfl), by omega, fun h => absurd rfl h, fun h1 _ => by omega⟩
      · exact ⟨j, hE j (by rw [if_neg (by simp; omega)]), by omega, fun _ => ⟨by omega, fun i h1 h2 => by omega⟩, fun _ h2 => absurd (h2 j (by omega) hlt) hok⟩
    have e1 := wsucc (j := j) (by omega)
    cases hl : letB (chr s j) with
    | true =>
      refine go_on (.inl hl) ?_
      refine Ev.shift (fun k => e_word_name_r2 k ..) ?_
      unfold t_word_name_r2
      try dsimp only
      rw [hc]
      refine Ev.pos c1 (Ev.pos c2 ?_)
      refine Ev.bind (Ev.call 10 (let_ev _)) ?_
      refine Ev.neg (by simp [AV.bool, hl]) ?_
      rw [e1]
      exact k1.add 1
    | false =>
      by_cases hj0 : 0 < j
      · by_cases h48 : 48 ≤ chr s j
        · by_cases h57 : chr s j ≤ 57
          · refine go_on (.inr ⟨hj0, h48, h57⟩) ?_
            refine Ev.shift (fun k => e_word_name_r2 k ..) ?_
            unfold t_word_name_r2
            try dsimp only
            rw [hc]
            refine Ev.pos c1 (Ev.pos c2 ?_)
            refine Ev.bind (Ev.call 10 (let_ev _)) ?_
            refine Ev.pos (by simp [AV.bool, hl]) ?_
            refine Ev.pos (by simp; omega) (Ev.pos c2 ?_)
            refine Ev.pos (by simp; omega) (Ev.pos c2 ?_)
            refine Ev.pos (by simp; omega) ?_
            rw [e1]
            exact k1.add 1
          · refine stop (fun q => by rcases q with q | q; · rw [hl] at q; cases q
                                     · exact h57 q.2.2) fun r hr => ?_
            refine Ev.shift (fun k => e_word_name_r2 k ..) ?_
            unfold t_word_name_r2
            try dsimp only
            rw [hc]
            refine Ev.pos c1 (Ev.pos c2 ?_)
            refine Ev.bind (Ev.call 10 (let_ev _)) ?_
            refine Ev.pos (by simp [AV.bool, hl]) ?_
            refine Ev.pos (by simp; omega) (Ev.pos c2 ?_)
            refine Ev.pos (by simp; omega) (Ev.pos c2 ?_)
            exact Ev.neg (by simp; omega) (Ev.of fun k => hr)
        · refine stop (fun q => by rcases q with q | q; · rw [hl] at q; cases q
                                   · exact h48 q.2.1) fun r hr => ?_
          refine Ev.shift (fun k => e_word_name_r2 k ..) ?_
          unfold t_word_name_r2
          try dsimp only
          rw [hc]
          refine Ev.pos c1 (Ev.pos c2 ?_)
          refine Ev.bind (Ev.call 10 (let_ev _)) ?_
          refine Ev.pos (by simp [AV.bool, hl]) ?_
          refine Ev.pos (by simp; omega) (Ev.pos c2 ?_)
          exact Ev.neg (by simp; omega) (Ev.of fun k => hr)
      · refine stop (fun q => by rcases q with q | q; · rw [hl] at q; cases q
                                 · exact hj0 q.1) fun r hr => ?_
        refine Ev.shift (fun k => e_word_name_r2 k ..) ?_
        unfold t_word_name_r2
        try dsimp only
        rw [hc]
        refine Ev.pos c1 (Ev.pos c2 ?_)
        refine Ev.bind (Ev.call 10 (let_ev _)) ?_
        refine Ev.pos (by simp [AV.bool, hl]) ?_
        exact Ev.neg (by simp; omega) (Ev.of fun k => hr)
theorem name_ev (s : ByteArray) (hb : s.size ≤ 4000) : ∃ n : Nat, Ev (fun k => call C k word_name [.s s]) (some [.i .i64 (n : Int)]) ∧ n ≤ s.size ∧ (n ≠ 0 → n ≤ 16 ∧ ∀ i, i < n → okC s i) ∧ (Nm s → n = s.size) := by
  obtain ⟨n, k1, k2, k3, k4⟩ := name_loop s hb s.size 0 (by omega)
  have k5 : L_word_name_r2 s 0 = some [.i .i64 (n : Int)] := Ev.lm k1
  have k6 : D word_name [.s s] = some [.i .i64 (n : Int)] := by
    apply d_word_name
    unfold t_word_name
    exact k5
  refine ⟨n, ev_D rfl k6, k2, fun hn => ⟨(k3 hn).1, fun i hi => (k3 hn).2 i (Nat.zero_le _) hi⟩, fun h => k4 h.2.1 fun i _ hi => h.2.2 i hi⟩
theorem rule_loop (s : ByteArray) (hb : s.size ≤ 4000) : ∀ (m j : Nat), s.size ≤ j + m → 1 ≤ j → ∃ n : Nat, Ev (fun k => l_word_rule_r4 k s (j : Int)) (some [.i .i64 (n : Int)]) ∧ (n = 0 ∨ (2 ≤ n ∧ n ≤ s.size)) := by
  intro m
  induction m using Nat.strongRecOn with
  | ind m ih =>
    intro j hm hj
    by_cases hlt : j < s.size
    · have c1 : decide ((j : Int) < ((ByteArray.size s : Nat) : Int)) = true := by simp; omega
      have c2 : (0 : Int) ≤ (j : Int) ∧ (j : Int) < ((ByteArray.size s : Nat) : Int) := by omega
      have hc : (((s.data.getD (Int.toNat (j : Int)) 0).toNat : Nat) : Int) = chr s j := rfl
      have e1 := wsucc (j := j) (by omega)
      obtain ⟨n1, p1, p2⟩ := ih (m - 1) (by omega) (j + 1) (by omega) (by omega)
      by_cases h10 : chr s j = 10
      · refine ⟨0, ?_, .inl rfl⟩
        refine Ev.shift (fun k => e_word_rule_r4 k ..) ?_
        unfold t_word_rule_r4
        try dsimp only
        rw [hc]
        refine Ev.pos c1 (Ev.pos c2 ?_)
        exact Ev.neg (by simp [h10]) (Ev.const _)
      by_cases h47 : chr s j = 47
      · refine ⟨j + 1, ?_, .inr (by omega)⟩
        refine Ev.shift (fun k => e_word_rule_r4 k ..) ?_
        unfold t_word_rule_r4
        try dsimp only
        rw [hc, e1]
        refine Ev.pos c1 (Ev.pos c2 ?_)
        refine Ev.pos (by simp [h47]) (Ev.pos c2 ?_)
        exact Ev.pos (by simp [h47]) (Ev.const _)
      by_cases h92 : chr s j = 92
      · by_cases hl2 : j + 1 < s.size
        · have hc2 : (((s.data.getD (Int.toNat ((j + 1 : Nat) : Int)) 0).toNat : Nat) : Int) = chr s (j + 1) := rfl
          by_cases h102 : chr s (j + 1) = 10
          · refine ⟨n1, ?_, p2⟩
            refine Ev.shift (fun k => e_word_rule_r4 k ..) ?_
            unfold t_word_rule_r4
            try dsimp only
            rw [hc, e1, hc2]
            refine Ev.pos c1 (Ev.pos c2 ?_)
            refine Ev.pos (by simp [h92]) (Ev.pos c2 ?_)
            refine Ev.neg (by simp [h92]) (Ev.pos c2 ?_)
            refine Ev.pos (by simp [h92]) ?_
            refine Ev.pos (by simp; omega) (Ev.pos (by omega) ?_)
            exact Ev.neg (by simp [h102]) (p1.add 0)
          · obtain ⟨n2, q1, q2⟩ := ih (m - 2) (by omega) (j + 2) (by omega) (by omega)
            refine ⟨n2, ?_, q2⟩
            refine Ev.shift (fun k => e_word_rule_r4 k ..) ?_
            unfold t_word_rule_r4
            try dsimp only
            rw [hc, e1, hc2]
            refine Ev.pos c1 (Ev.pos c2 ?_)
            refine Ev.pos (by simp [h92]) (Ev.pos c2 ?_)
            refine Ev.neg (by simp [h92]) (Ev.pos c2 ?_)
            refine Ev.pos (by simp [h92]) ?_
            refine Ev.pos (by simp; omega) (Ev.pos (by omega) ?_)
            refine Ev.pos (by simp [h102]) ?_
            rw [wsucc (by omega)]
            exact q1.add 0
        · refine ⟨n1, ?_, p2⟩
          refine Ev.shift (fun k => e_word_rule_r4 k ..) ?_
          unfold t_word_rule_r4
          try dsimp only
          rw [hc, e1]
          refine Ev.pos c1 (Ev.pos c2 ?_)
          refine Ev.pos (by simp [h92]) (Ev.pos c2 ?_)
          refine Ev.neg (by simp [h92]) (Ev.pos c2 ?_)
          refine Ev.pos (by simp [h92]) ?_
          exact Ev.neg (by simp; omega) (p1.add 0)
      · refine ⟨n1, ?_, p2⟩
        refine Ev.shift (fun k => e_word_rule_r4 k ..) ?_
        unfold t_word_rule_r4
        try dsimp only
        rw [hc, e1]
        refine Ev.pos c1 (Ev.pos c2 ?_)
        refine Ev.pos (by simp [h10]) (Ev.pos c2 ?_)
        refine Ev.neg (by simp [h47]) (Ev.pos c2 ?_)
        exact Ev.neg (by simp [h92]) (p1.add 0)
    · refine ⟨0, ?_, .inl rfl⟩
      refine Ev.shift (fun k => e_word_rule_r4 k ..) ?_
      unfold t_word_rule_r4
      try dsimp only
      exact Ev.neg (by simp; omega) (Ev.const _)
theorem rule_ev (s : ByteArray) (hb : s.size ≤ 4000) (h0 : 0 < s.size) : ∃ n : Nat, Ev (fun k => call C k word_rule [.s s]) (some [.i .i64 (n : Int)]) ∧ (n = 0 ∨ (2 ≤ n ∧ n ≤ s.size)) := by
  have hc : (((s.data.getD 0 0).toNat : Nat) : Int) = chr s 0 := rfl
  by_cases h47 : chr s 0 = 47
  · obtain ⟨n, k1, k2⟩ := rule_loop s hb s.size 1 (by omega) (by omega)
    refine ⟨n, ?_, k2⟩
    refine Ev.shift (fun k => e_word_rule k s) ?_
    unfold t_word_rule
    try dsimp only
    rw [hc]
    refine Ev.pos (by omega) ?_
    exact Ev.neg (by simp [h47]) (k1.add 0)
  · refine ⟨0, ?_, .inl rfl⟩
    refine Ev.shift (fun k => e_word_rule k s) ?_
    unfold t_word_rule
    try dsimp only
    rw [hc]
    refine Ev.pos (by omega) ?_
    exact Ev.pos (by simp [h47]) (Ev.const _)
def ixv (t : ByteArray) (c : Int) : Int := Lib.indexByte t.data.toList c.toNat.toUInt8
theorem ixb_ev (c : Nat) (t : ByteArray) (x : Int) : Ev (fun k => callP C (callF C (k + c)) 98 [.s t, .i .u8 x]) (some [.i .i64 (ixv t x)]) := Ev.prim (pf := ixbD) c rfl rfl
theorem sign_ev (s : ByteArray) (h0 : 0 < s.size) : ∃ n : Nat, Ev (fun k => call C k word_sign [.s s]) (some [.i .i64 (n : Int)]) ∧ n ≤ 1 := by
  by_cases h : ixv ⟨#[58, 59, 124, 37]⟩ (chr s 0) < 0
  · refine ⟨0, ?_, by omega⟩
    refine Ev.shift (fun k => e_word_sign k s) ?_
    unfold t_word_sign
    try dsimp only
    refine Ev.pos (by omega) ?_
    refine Ev.bind (ixb_ev 5 _ _) ?_
    exact Ev.pos (by show decide (ixv _ (chr s 0) < 0) = true; simp [h]) (Ev.const _)
  · refine ⟨1, ?_, by omega⟩
    refine Ev.shift (fun k => e_word_sign k s) ?_
    unfold t_word_sign
    try dsimp only
    refine Ev.pos (by omega) ?_
    refine Ev.bind (ixb_ev 5 _ _) ?_
    exact Ev.neg (by show ¬ decide (ixv _ (chr s 0) < 0) = true; simp; omega) (Ev.const _)
theorem blank_loop (s : ByteArray) (hb : s.size ≤ 4000) : ∀ (m j : Nat), j + m = s.size → (∃ n : Nat, Ev (fun k => l_word_blank_r2 k s (j : Int)) (some [.i .i64 (n : Int)]) ∧ n ≤ s.size) ∧ ∃ n : Nat, Ev (fun k => l_word_blank_r7 k s (j : Int)) (some [.i .i64 (n : Int)]) ∧ n ≤ s.size := by
  intro m
  induction m with
  | zero =>
    intro j hj
    have h0 : Ev (fun k => l_word_blank_r2 k s (j : Int)) (some [.i .i64 (j : Int)]) := by
      refine Ev.shift (fun k => e_word_blank_r2 k ..) ?_
      unfold t_word_blank_r2
      try dsimp only
      exact Ev.neg (by simp; omega) (Ev.const _)
    refine ⟨⟨j, h0, by omega⟩, j, ?_, by omega⟩
    refine Ev.shift (fun k => e_word_blank_r7 k ..) ?_
    unfold t_word_blank_r7
    try dsimp only
    exact Ev.neg (by simp; omega) (h0.add 1)
  | succ m ih =>
    intro j hj
    obtain ⟨⟨n0, p1, p2⟩, n1, q1, q2⟩ := ih (j + 1) (by omega)
    have c1 : decide ((j : Int) < ((ByteArray.size s : Nat) : Int)) = true := by simp; omega
    have c2 : (0 : Int) ≤ (j : Int) ∧ (j : Int) < ((ByteArray.size s : Nat) : Int) := by omega
    have hc : (((s.data.getD (Int.toNat (j : Int)) 0).toNat : Nat) : Int) = chr s j := rfl
    have e1 := wsucc (j := j) (by omega)
    have one10 : chr s j ≠ 10 → Ev (fun k => l_word_blank_r7 k s (j : Int)) (some [.i .i64 (n1 : Int)]) := fun h => by
      refine Ev.shift (fun k => e_word_blank_r7 k ..) ?_
      unfold t_word_blank_r7
      try dsimp only
      rw [hc, e1]
      refine Ev.pos c1 (Ev.pos c2 ?_)
      exact Ev.pos (by simp [h]) (q1.add 0)
    have zero : ∃ n : Nat, Ev (fun k => l_word_blank_r2 k s (j : Int)) (some [.i .i64 (n : Int)]) ∧ n ≤ s.size := by
      by_cases h : ixv ⟨#[9, 10, 13, 32]⟩ (chr s j) ≥ 0
      · refine ⟨n0, ?_, p2⟩
        refine Ev.shift (fun k => e_word_blank_r2 k ..) ?_
        unfold t_word_blank_r2
        try dsimp only
        rw [hc, e1]
        refine Ev.pos c1 (Ev.pos c2 ?_)
        refine Ev.bind (ixb_ev 9 _ _) ?_
        exact Ev.pos (by show decide (ixv _ (chr s j) ≥ 0) = true; simp; omega) (p1.add 1)
      by_cases h35 : chr s j = 35
      · refine ⟨n1, ?_, q2⟩
        refine Ev.shift (fun k => e_word_blank_r2 k ..) ?_
        unfold t_word_blank_r2
        try dsimp only
        rw [hc]
        refine Ev.pos c1 (Ev.pos c2 ?_)
        refine Ev.bind (ixb_ev 9 _ _) ?_
        refine Ev.neg (by show ¬ decide (ixv _ (chr s j) ≥ 0) = true; simp; omega) (Ev.pos c2 ?_)
        exact Ev.pos (by simp [h35]) ((one10 (by omega)).add 0)
      · refine ⟨j, ?_, by omega⟩
        refine Ev.shift (fun k => e_word_blank_r2 k ..) ?_
        unfold t_word_blank_r2
        try dsimp only
        rw [hc]
        refine Ev.pos c1 (Ev.pos c2 ?_)
        refine Ev.bind (ixb_ev 9 _ _) ?_
        refine Ev.neg (by show ¬ decide (ixv _ (chr s j) ≥ 0) = true; simp; omega) (Ev.pos c2 ?_)
        exact Ev.neg (by simp [h35]) (Ev.const _)
    refine ⟨zero, ?_⟩
    by_cases h : chr s j = 10
    · obtain ⟨n, r1, r2⟩ := zero
      refine ⟨n, ?_, r2⟩
      refine Ev.shift (fun k => e_word_blank_r7 k ..) ?_
      unfold t_word_blank_r7
      try dsimp only
      rw [hc]
      refine Ev.pos c1 (Ev.pos c2 ?_)
      exact Ev.neg (by simp [h]) (r1.add 1)
    · exact ⟨n1, one10 h, q2⟩
theorem blank_ev (s : ByteArray) (hb : s.size ≤ 4000) : ∃ n : Nat, Ev (fun k => call C k word_blank [.s s]) (some [.i .i64 (n : Int)]) ∧ n ≤ s.size := by
  obtain ⟨⟨n, k1, k2⟩, _⟩ := blank_loop s hb s.size 0 (by omega)
  exact ⟨n, Ev.shift (fun k => e_word_blank k s) (by unfold t_word_blank; exact k1.add 0), k2⟩
theorem ixv_let {c : Nat} (h : c < 256) (hl : letB (c : Int) = true) : ixv ⟨#[9, 10, 13, 32]⟩ (c : Int) = -1 := by
  have key : ∀ c : Fin 256, letB ((c.val : Nat) : Int) = true → ixv ⟨#[9, 10, 13, 32]⟩ ((c.val : Nat) : Int) = -1 := by decide +kernel
  exact key ⟨c, h⟩ hl
theorem blank_let (s : ByteArray) (h0 : 0 < s.size) (hl : letB (chr s 0) = true) : Ev (fun k => call C k word_blank [.s s]) (some [.i .i64 0]) := by
  refine Ev.shift (fun k => e_word_blank k s) ?_
  unfold t_word_blank
  try dsimp only
  have hc : (((s.data.getD (Int.toNat (0 : Int)) 0).toNat : Nat) : Int) = chr s 0 := rfl
  have h35 : chr s 0 ≠ 35 := fun h => by rw [h] at hl; cases hl
  have hix : ixv ⟨#[9, 10, 13, 32]⟩ (chr s 0) = -1 := ixv_let (UInt8.toNat_lt _) hl
  have main : Ev (fun k => l_word_blank_r2 k s 0) (some [.i .i64 0]) := by
    refine Ev.shift (fun k => e_word_blank_r2 k ..) ?_
    unfold t_word_blank_r2
    try dsimp only
    rw [hc]
    refine Ev.pos (by simp; omega) (Ev.pos (by omega) ?_)
    refine Ev.bind (ixb_ev 9 _ _) ?_
    refine Ev.neg (by show ¬ decide (ixv _ (chr s 0) ≥ 0) = true; rw [hix]; simp) (Ev.pos (by omega) ?_)
    exact Ev.neg (by simp [h35]) (Ev.const _)
  exact main.add 0
theorem blank_nil (s : ByteArray) (h0 : s.size = 0) : Ev (fun k => call C k word_blank [.s s]) (some [.i .i64 0]) := by
  refine Ev.shift (fun k => e_word_blank k s) ?_
  unfold t_word_blank
  try dsimp only
  have main : Ev (fun k => l_word_blank_r2 k s 0) (some [.i .i64 0]) := by
    refine Ev.shift (fun k => e_word_blank_r2 k ..) ?_
    unfold t_word_blank_r2
    try dsimp only
    exact Ev.neg (by simp [h0]) (Ev.const _)
  exact main.add 0
def Wds (ws : List AV) : Prop := ∀ w ∈ ws, (w.fld 0).int = 1 → Nm (w.fld 2).str
theorem Wds.add {ws : List AV} (h : Wds ws) {w : AV} (hw : (w.fld 0).int = 1 → Nm (w.fld 2).str) : Wds (ws ++ [w]) := fun x hx => by
  rcases List.mem_append.mp hx with hx | hx
  · exact h x hx
  · rw [List.mem_singleton.mp hx]; exact hw
theorem i0 (n : Int) : AV.int (List.headD [AV.i .i64 n] .u) = n := rfl
theorem all_loop (s : ByteArray) (hb : s.size ≤ 4000) : ∀ (m j : Nat) (ws : List AV), s.size ≤ j + m → j ≤ s.size → ws.length ≤ j → Wds ws →
    ∃ ws' a e, Ev (fun k => l_word_All_r5 k s ws (j : Int)) (some [.l T_api_Word ws', .i .i64 a, .i .i64 e]) ∧ Wds ws' := by
  intro m
  induction m using Nat.strongRecOn with
  | ind m ih =>
    intro j ws hm hj hlen hw
    by_cases hlt : j < s.size
    · have c1 : decide ((j : Int) < ((ByteArray.size s : Nat) : Int)) = true := by simp; omega
      have c2 : (0 : Int) ≤ (j : Int) ∧ (j : Int) ≤ ((ByteArray.size s : Nat) : Int) := by omega
      have hs' : (s.extract (Int.toNat (j : Int)) s.size) = s.extract j s.size := rfl
      have hz : (s.extract j s.size).size = s.size - j := ext_size (Nat.le_refl _)
      -- behind a word
      have next : ∀ (n : Nat) (w : AV), 1 ≤ n → j + n ≤ s.size → ((w.fld 0).int = 1 → Nm (w.fld 2).str) → ∃ b : Nat, Ev (fun k => call C k word_blank [.s (s.extract (j + n) s.size)]) (some [.i .i64 (b : Int)]) ∧
          ∃ ws' a e, Ev (fun k => l_word_All_r5 k s (ws ++ [w]) ((j + n + b : Nat) : Int)) (some [.l T_api_Word ws', .i .i64 a, .i .i64 e]) ∧ Wds ws' := fun n w h1 h2 h3 => by
        obtain ⟨b, k1, k2⟩ := blank_ev (s.extract (j + n) s.size) (by rw [ext_size (Nat.le_refl _)]; omega)
        rw [ext_size (Nat.le_refl _)] at k2
        refine ⟨b, k1, ih (m - n) (by omega) (j + n + b) (ws ++ [w]) (by omega) (by omega) (by simp; omega) (hw.add h3)⟩
      obtain ⟨n1, p1, p2, p3, _⟩ := name_ev (s.extract j s.size) (by omega)
      by_cases hn1 : n1 = 0
      · obtain ⟨n2, q1, q2⟩ := rule_ev (s.extract j s.size) (by omega) (by omega)
        by_cases hn2 : n2 = 0
        · obtain ⟨n3, r1, r2⟩ := sign_ev (s.extract j s.size) (by omega)
          by_cases hn3 : n3 = 0
          · refine ⟨[], (j : Int), 1, ?_, fun w hw => by simp at hw⟩
            refine Ev.shift (fun k => e_word_All_r5 k ..) ?_
            unfold t_word_All_r5
            try dsimp only
            refine Ev.pos c1 (Ev.pos c2 ?_)
            rw [hs']
            refine Ev.bind (Ev.call 65 p1) ?_
            refine Ev.pos (by rw [i0]; simp [hn1]) (Ev.pos c2 ?_)
            refine Ev.bind (Ev.call 47 q1) ?_
            refine Ev.pos (by rw [i0]; simp [hn2]) (Ev.pos c2 ?_)
            refine Ev.bind (Ev.call 29 r1) ?_
            exact Ev.pos (by rw [i0]; simp [hn3]) (Ev.const _)
          · have e3 : n3 = 1 := by omega
            subst e3
            obtain ⟨b, k1, ws', a, e, k2, k3⟩ := next 1 (.g [.i .i64 3, .i .i64 (j : Int), .s (s.extract j (j + 1))]) (by omega) (by omega) (fun h => by cases h)
            refine ⟨ws', a, e, ?_, k3⟩
            refine Ev.shift (fun k => e_word_All_r5 k ..) ?_
            unfold t_word_All_r5
            try dsimp only
            refine Ev.pos c1 (Ev.pos c2 ?_)
            rw [hs']
            refine Ev.bind (Ev.call 65 p1) ?_
            refine Ev.pos (by rw [i0]; simp [hn1]) (Ev.pos c2 ?_)
            refine Ev.bind (Ev.call 47 q1) ?_
            refine Ev.pos (by rw [i0]; simp [hn2]) (Ev.pos c2 ?_)
            refine Ev.bind (Ev.call 29 r1) ?_
            refine Ev.neg (by rw [i0]; simp) ?_
            have w1 : IntKind.wrap .i64 ((j : Int) + AV.int (List.headD [AV.i .i64 ((1 : Nat) : Int)] .u)) = ((j + 1 : Nat) : Int) := by
              rw [i0, w64 (by omega) (by omega)]; omega
            rw [w1]
            refine Ev.pos (by omega) (Ev.pos (by omega) ?_)
            refine Ev.pos ⟨by simp; omega, rfl⟩ (Ev.pos (by omega) ?_)
            refine Ev.bind (Ev.call 4 k1) ?_
            have w2 : IntKind.wrap .i64 (((j + 1 : Nat) : Int) + AV.int (List.headD [AV.i .i64 (b : Int)] .u)) = ((j + 1 + b : Nat) : Int) := by
              rw [i0, w64 (by have := (ext_size (s := s) (p := j + 1) (Nat.le_refl _)); omega) (by
                obtain ⟨b', kk1, kk2⟩ := blank_ev (s.extract (j + 1) s.size) (by rw [ext_size (Nat.le_refl _)]; omega)
                have := Ev.uniq k1 kk1
                simp at this
                rw [ext_size (Nat.le_refl _)] at kk2
                omega)]; omega
            rw [w2]
            exact k2.add 0
        · obtain ⟨b, k1, ws', a, e, k2, k3⟩ := next n2 (.g [.i .i64 2, .i .i64 (j : Int), .s ((s.extract j (j + n2)).extract 1 (n2 - 1))]) (by omega) (by omega) (fun h => by cases h)
          refine ⟨ws', a, e, ?_, k3⟩
          refine Ev.shift (fun k => e_word_All_r5 k ..) ?_
          unfold t_word_All_r5
          try dsimp only
          refine Ev.pos c1 (Ev.pos c2 ?_)
          rw [hs']
          refine Ev.bind (Ev.call 65 p1) ?_
          refine Ev.pos (by rw [i0]; simp [hn1]) (Ev.pos c2 ?_)
          refine Ev.bind (Ev.call 47 q1) ?_
          refine Ev.neg (by rw [i0]; simp; omega) ?_
          have w1 : IntKind.wrap .i64 ((j : Int) + AV.int (List.headD [AV.i .i64 (n2 : Int)] .u)) = ((j + n2 : Nat) : Int) := by
            rw [i0, w64 (by omega) (by omega)]; omega
          have w3 : IntKind.wrap .i64 (AV.int (List.headD [AV.i .i64 (n2 : Int)] .u) - (1 : Int)) = ((n2 - 1 : Nat) : Int) := by
            rw [i0, w64 (by omega) (by omega)]; omega
          rw [w1, w3]
          have z2 : (ByteArray.extract s (Int.toNat (j : Int)) (Int.toNat ((j + n2 : Nat) : Int))).size = n2 := by
            show (s.extract j (j + n2)).size = n2
            rw [ext_size (by omega)]; omega
          refine Ev.pos (by omega) (Ev.pos (by omega) ?_)
          refine Ev.pos (by rw [z2]; omega) (Ev.pos (by omega) ?_)
          refine Ev.pos ⟨by simp; omega, rfl⟩ (Ev.pos (by omega) ?_)
          refine Ev.bind (Ev.call 22 k1) ?_
          have w2 : IntKind.wrap .i64 (((j + n2 : Nat) : Int) + AV.int (List.headD [AV.i .i64 (b : Int)] .u)) = ((j + n2 + b : Nat) : Int) := by
            rw [i0, w64 (by omega) (by
              obtain ⟨b', kk1, kk2⟩ := blank_ev (s.extract (j + n2) s.size) (by rw [ext_size (Nat.le_refl _)]; omega)
              have := Ev.uniq k1 kk1
              simp at this
              rw [ext_size (Nat.le_refl _)] at kk2
              omega)]; omega
          rw [w2]
          exact k2.add 18
      · have hnm : Nm (s.extract j (j + n1)) := by
          obtain ⟨t1, t2⟩ := p3 hn1
          rw [hz] at p2
          refine ⟨by rw [ext_size (by omega)]; omega, by rw [ext_size (by omega)]; omega, fun i hi => ?_⟩
          rw [ext_size (by omega)] at hi
          have := t2 i (by omega)
          unfold okC at this ⊢
          rw [chr_ext (by omega) (by omega)] at this
          rw [chr_ext (by omega) (by omega)]
          exact this
        rw [hz] at p2
        obtain ⟨b, k1, ws', a, e, k2, k3⟩ := next n1 (.g [.i .i64 1, .i .i64 (j : Int), .s (s.extract j (j + n1))]) (by omega) (by omega) (fun _ => hnm)
        refine ⟨ws', a, e, ?_, k3⟩
        refine Ev.shift (fun k => e_word_All_r5 k ..) ?_
        unfold t_word_All_r5
        try dsimp only
        refine Ev.pos c1 (Ev.pos c2 ?_)
        rw [hs']
        refine Ev.bind (Ev.call 65 p1) ?_
        refine Ev.neg (by rw [i0]; simp; omega) ?_
        have w1 : IntKind.wrap .i64 ((j : Int) + AV.int (List.headD [AV.i .i64 (n1 : Int)] .u)) = ((j + n1 : Nat) : Int) := by
          rw [i0, w64 (by omega) (by omega)]; omega
        rw [w1]
        refine Ev.pos (by omega) (Ev.pos (by omega) ?_)
        refine Ev.pos ⟨by simp; omega, rfl⟩ (Ev.pos (by omega) ?_)
        refine Ev.bind (Ev.call 40 k1) ?_
        have w2 : IntKind.wrap .i64 (((j + n1 : Nat) : Int) + AV.int (List.headD [AV.i .i64 (b : Int)] .u)) = ((j + n1 + b : Nat) : Int) := by
          rw [i0, w64 (by omega) (by
            obtain ⟨b', kk1, kk2⟩ := blank_ev (s.extract (j + n1) s.size) (by rw [ext_size (Nat.le_refl _)]; omega)
            have := Ev.uniq k1 kk1
            simp at this
            rw [ext_size (Nat.le_refl _)] at kk2
            omega)]; omega
        rw [w2]
        exact k2.add 36
    · refine ⟨ws, 0, 0, ?_, hw⟩
      refine Ev.shift (fun k => e_word_All_r5 k ..) ?_
      unfold t_word_All_r5
      try dsimp only
      exact Ev.neg (by simp; omega) (Ev.const _)
theorem all_ev (s : ByteArray) : ∃ ws a e, Ev (fun k => call C k word_All [.s s]) (some [.l T_api_Word ws, .i .i64 a, .i .i64 e]) ∧ Wds ws := by
  by_cases h : s.size ≤ 4000
  · obtain ⟨b, k1, k2⟩ := blank_ev s h
    obtain ⟨ws, a, e, p1, p2⟩ := all_loop s h s.size b [] (by omega) k2 (by simp) (fun w hw => by simp at hw)
    refine ⟨ws, a, e, ?_, p2⟩
    refine Ev.shift (fun k => e_word_All k s) ?_
    unfold t_word_All
    try dsimp only
    refine Ev.neg (by simp; omega) ?_
    refine Ev.bind (Ev.call 5 k1) ?_
    exact p1.add 0
  · refine ⟨[], 0, 3, ?_, fun w hw => by simp at hw⟩
    refine Ev.shift (fun k => e_word_All k s) ?_
    unfold t_word_All
    try dsimp only
    exact Ev.pos (by simp; omega) (Ev.const _)
theorem all_nm (s : ByteArray) (h : Nm s) : Ev (fun k => call C k word_All [.s s]) (some [.l T_api_Word [.g [.i .i64 1, .i .i64 0, .s s]], .i .i64 0, .i .i64 0]) := by
  obtain ⟨h1, h2, h3⟩ := h
  have hl : letB (chr s 0) = true := by
    rcases h3 0 (by omega) with q | q
    · exact q
    · omega
  obtain ⟨n, k1, k2, _, k4⟩ := name_ev s (by omega)
  obtain rfl := k4 ⟨h1, h2, h3⟩
  refine Ev.shift (fun k => e_word_All k s) ?_
  unfold t_word_All
  try dsimp only
  refine Ev.neg (by simp; omega) ?_
  refine Ev.bind (Ev.call 5 (blank_let s (by omega) hl)) ?_
  have hs' : (s.extract (Int.toNat (0 : Int)) s.size) = s := ext_all s
  have main : Ev (fun k => l_word_All_r5 k s [] 0) (some [.l T_api_Word [.g [.i .i64 1, .i .i64 0, .s s]], .i .i64 0, .i .i64 0]) := by
    refine Ev.shift (fun k => e_word_All_r5 k ..) ?_
    unfold t_word_All_r5
    try dsimp only
    refine Ev.pos (by simp; omega) (Ev.pos (by omega) ?_)
    rw [hs']
    refine Ev.bind (Ev.call 65 k1) ?_
    refine Ev.neg (by rw [i0]; simp; intro q; rw [q] at h1; simp at h1) ?_
    have w1 : IntKind.wrap .i64 ((0 : Int) + AV.int (List.headD [AV.i .i64 ((s.size : Nat) : Int)] .u)) = ((s.size : Nat) : Int) := by
      rw [i0, w64 (by omega) (by omega)]; omega
    rw [w1]
    refine Ev.pos (by omega) (Ev.pos (by omega) ?_)
    refine Ev.pos ⟨by simp, rfl⟩ (Ev.pos (by omega) ?_)
    have hz : (s.extract (Int.toNat ((s.size : Nat) : Int)) s.size).size = 0 := by
      show (s.extract s.size s.size).size = 0
      rw [ext_size (Nat.le_refl _)]; omega
    refine Ev.bind (Ev.call 40 (blank_nil _ hz)) ?_
    have w2 : IntKind.wrap .i64 (((s.size : Nat) : Int) + AV.int (List.headD [AV.i .i64 0] .u)) = ((s.size : Nat) : Int) := by
      rw [i0, w64 (by omega) (by omega)]; omega
    rw [w2]
    have e1 : s.extract (Int.toNat (0 : Int)) (Int.toNat ((s.size : Nat) : Int)) = s := ext_all s
    rw [e1]
    have : Ev (fun k => l_word_All_r5 k s ([] ++ [.g [.i .i64 1, .i .i64 0, .s s]]) ((s.size : Nat) : Int)) (some [.l T_api_Word [.g [.i .i64 1, .i .i64 0, .s s]], .i .i64 0, .i .i64 0]) := by
      refine Ev.shift (fun k => e_word_All_r5 k ..) ?_
      unfold t_word_All_r5
      try dsimp only
      exact Ev.neg (by simp) (Ev.const _)
    exact this.add 36
  exact main.add 0
def resv : List ByteArray := [⟨#[116, 111, 107, 101, 110]⟩, ⟨#[115, 107, 105, 112]⟩, ⟨#[108, 101, 102, 116]⟩, ⟨#[114, 105, 103, 104, 116]⟩, ⟨#[110, 111, 110, 101]⟩, ⟨#[115, 116, 97, 114, 116]⟩]
instance decMemB (s : ByteArray) (l : List ByteArray) : Decidable (s ∈ l) := decidable_of_iff (l.any (fun a => decide (a = s)) = true) (by simp)
theorem has_loop (l : List ByteArray) (s : ByteArray) (hb : l.length ≤ 16777216) : ∀ j, j ≤ l.length → ∃ r : Int, L_slices_Index_string_r2 (l.map AV.s) s (l.length : Int) (j : Int) = some [.i .i64 r] ∧ (0 ≤ r ↔ s ∈ l.drop j) := by
  refine upTo _ ⟨-1, ?_, by simp⟩ fun j hj ⟨r, h1, h2⟩ => ?_
  · apply d_slices_Index_string_r2
    simp [t_slices_Index_string_r2]
  · have hd : l.drop j = l[j] :: l.drop (j + 1) := List.drop_eq_getElem_cons hj
    by_cases h : s = l[j]
    · refine ⟨(j : Int), ?_, by rw [hd, ← h]; exact ⟨fun _ => List.mem_cons_self, fun _ => Int.natCast_nonneg j⟩⟩
      apply d_slices_Index_string_r2
      simp [t_slices_Index_string_r2, hj, ← h]
    · refine ⟨r, ?_, by rw [h2, hd, List.mem_cons]; simp only [h, false_or]⟩
      apply d_slices_Index_string_r2
      simp only [t_slices_Index_string_r2, wsucc (j := j) (by omega), h1]
      simp [hj, eqb_iff, h]
theorem has_ev (l : List ByteArray) (s : ByteArray) (hb : l.length ≤ 16777216) : D slices_Contains_string [.l T_string (l.map AV.s), .s s] = some [.b (decide (s ∈ l))] := by
  obtain ⟨r, h1, h2⟩ := has_loop l s hb 0 (by omega)
  have h3 : D slices_Index_string [.l T_string (l.map AV.s), .s s] = some [.i .i64 r] := by
    apply d_slices_Index_string
    simpa [t_slices_Index_string] using h1
  apply d_slices_Contains_string
  simp only [List.drop_zero] at h2
  simp [t_slices_Contains_string, h3, h2]
def nameB (s : ByteArray) : Prop := Nm s ∧ s ∉ resv
theorem named_ev (s : ByteArray) : ∃ b, Ev (fun k => call C k check_named [.s s]) (some [.b b]) ∧ (b = true ↔ nameB s) := by
  by_cases hr : s ∈ resv
  · refine ⟨false, ?_, by simp [nameB, hr]⟩
    refine Ev.shift (fun k => e_check_named k s) ?_
    unfold t_check_named
    try dsimp only
    refine Ev.bind (Ev.call 7 (ev_D rfl (has_ev resv s (by simp [resv])))) ?_
    exact Ev.pos (by simp [AV.bool, hr]) (Ev.const _)
  by_cases hn : Nm s
  · refine ⟨true, ?_, by simp [nameB, hr, hn]⟩
    refine Ev.shift (fun k => e_check_named k s) ?_
    unfold t_check_named
    try dsimp only
    refine Ev.bind (Ev.call 7 (ev_D rfl (has_ev resv s (by simp [resv])))) ?_
    refine Ev.neg (by simp [AV.bool, hr]) ?_
    refine Ev.bind (Ev.call 3 (all_nm s hn)) ?_
    refine Ev.pos rfl (Ev.pos rfl (Ev.pos ⟨by decide, by simp [AV.list]⟩ ?_))
    refine Ev.pos rfl (Ev.pos ⟨by decide, by simp [AV.list]⟩ ?_)
    refine Ev.of fun k => ?_
    show some [AV.b (ByteArray.toList s == ByteArray.toList s)] = _
    rw [eqb]
  · refine ⟨false, ?_, by simp [nameB, hn]⟩
    obtain ⟨ws, a, e, k1, k2⟩ := all_ev s
    refine Ev.shift (fun k => e_check_named k s) ?_
    unfold t_check_named
    try dsimp only
    refine Ev.bind (Ev.call 7 (ev_D rfl (has_ev resv s (by simp [resv])))) ?_
    refine Ev.neg (by simp [AV.bool, hr]) ?_
    refine Ev.bind (Ev.call 3 k1) ?_
    by_cases he : e = 0
    · refine Ev.pos (by show (e == 0) = true; simp [he]) ?_
      match ws, k2 with
      | [], _ => exact Ev.neg (by show ¬ (((([] : List AV).length : Nat) : Int) == (1 : Int)) = true; simp) (Ev.const _)
      | _ :: _ :: ws, _ => exact Ev.neg (by show ¬ ((((_ :: _ :: ws : List AV).length : Nat) : Int) == (1 : Int)) = true; simp; omega) (Ev.const _)
      | [w], k2 =>
        refine Ev.pos rfl (Ev.pos ⟨by decide, by simp [AV.list]⟩ ?_)
        show Ev (fun k => if (AV.int (w.fld 0) == 1) = true then _ else _) _
        by_cases h1 : (w.fld 0).int = 1
        · refine Ev.pos (by simp [h1]) (Ev.pos ⟨by decide, by simp [AV.list]⟩ ?_)
          refine Ev.of fun k => ?_
          show some [AV.b (ByteArray.toList (w.fld 2).str == ByteArray.toList s)] = _
          rw [eqb_iff]
          have : ¬ (w.fld 2).str = s := fun q => hn (q ▸ k2 w (by simp) h1)
          simp [this]
        · exact Ev.neg (by simp [h1]) (Ev.const _)
    · exact Ev.neg (by show ¬ (e == 0) = true; simp [he]) (Ev.const _)
theorem resv_ev (s : ByteArray) : Ev (fun k => call C k ref12_Reserved [.s s]) (some [.b (decide (s ∈ resv))]) := by
  refine Ev.shift (fun k => e_ref12_Reserved k s) (Ev.of fun k => ?_)
  unfold t_ref12_Reserved
  try dsimp only
  simp only [eqb_iff, resv, List.mem_cons, List.not_mem_nil, or_false]
  by_cases h1 : s = ⟨#[116, 111, 107, 101, 110]⟩
  · simp [h1]
  by_cases h2 : s = ⟨#[115, 107, 105, 112]⟩
  · simp [h2]
  by_cases h3 : s = ⟨#[108, 101, 102, 116]⟩
  · simp [h3]
  by_cases h4 : s = ⟨#[114, 105, 103, 104, 116]⟩
  · simp [h4]
  by_cases h5 : s = ⟨#[110, 111, 110, 101]⟩
  · simp [h5]
  simp [h1, h2, h3, h4, h5]
theorem named_loop (s : ByteArray) (hb : s.size ≤ 16) : ∀ (m j : Nat), j + m = s.size → ∃ b, Ev (fun k => l_ref13_named_r4 k s (j : Int)) (some [.b b]) ∧ (b = true ↔ ∀ i, j ≤ i → i < s.size → okC s i) := by
  intro m
  induction m with
  | zero =>
    intro j hj
    refine ⟨true, ?_, by simp; intro i h1 h2; omega⟩
    refine Ev.shift (fun k => e_ref13_named_r4 k ..) ?_
    unfold t_ref13_named_r4
    try dsimp only
    exact Ev.neg (by simp; omega) (Ev.const _)
  | succ m ih =>
    intro j hj
    have hlt : j < s.size := by omega
    have c1 : decide ((j : Int) < ((ByteArray.size s : Nat) : Int)) = true := by simp; omega
    have c2 : (0 : Int) ≤ (j : Int) ∧ (j : Int) < ((ByteArray.size s : Nat) : Int) := by omega
    have hc : (((s.data.getD (Int.toNat (j : Int)) 0).toNat : Nat) : Int) = chr s j := rfl
    have e1 := wsucc (j := j) (by omega)
    obtain ⟨b, k1, k2⟩ := ih (j + 1) (by omega)
    have yes : okC s j → (b = true ↔ ∀ i, j ≤ i → i < s.size → okC s i) := fun h => by
      rw [k2]
      refine ⟨fun q i h1 h2 => ?_, fun q i h1 h2 => q i (by omega) h2⟩
      rcases Nat.eq_or_lt_of_le h1 with e | e
      · rw [← e]; exact h
      · exact q i e h2
    have no : ¬ okC s j → (false = true ↔ ∀ i, j ≤ i → i < s.size → okC s i) := fun h => by
      simp
      exact ⟨j, Nat.le_refl _, hlt, h⟩
    cases hl : letB (chr s j) with
    | true =>
      refine ⟨b, ?_, yes (.inl hl)⟩
      refine Ev.shift (fun k => e_ref13_named_r4 k ..) ?_
      unfold t_ref13_named_r4
      try dsimp only
      rw [hc, e1]
      refine Ev.pos c1 (Ev.pos c2 ?_)
      by_cases h48 : chr s j ≥ 48
      · refine Ev.pos (by simp; omega) (Ev.pos c2 (Ev.pos c2 ?_))
        refine Ev.bind (Ev.call 8 (let_ev' _)) ?_
        exact Ev.neg (by simp [AV.bool, hl]) (k1.add 0)
      · refine Ev.neg (by simp; omega) (Ev.pos c2 ?_)
        refine Ev.bind (Ev.call 8 (let_ev' _)) ?_
        exact Ev.neg (by simp [AV.bool, hl]) (k1.add 0)
    | false =>
      by_cases h48 : chr s j ≥ 48
      · by_cases h0 : j = 0
        · refine ⟨false, ?_, no fun q => by rcases q with q | q; · rw [hl] at q; cases q
                                            · omega⟩
          refine Ev.shift (fun k => e_ref13_named_r4 k ..) ?_
          unfold t_ref13_named_r4
          try dsimp only
          rw [hc, e1]
          refine Ev.pos c1 (Ev.pos c2 ?_)
          refine Ev.pos (by simp; omega) (Ev.pos c2 (Ev.pos c2 ?_))
          refine Ev.bind (Ev.call 8 (let_ev' _)) ?_
          refine Ev.pos (by simp [AV.bool, hl]) ?_
          exact Ev.neg (by simp [h0]) (Ev.const _)
        · by_cases h57 : chr s j ≤ 57
          · refine ⟨b, ?_, yes (.inr ⟨by omega, h48, h57⟩)⟩
            refine Ev.shift (fun k => e_ref13_named_r4 k ..) ?_
            unfold t_ref13_named_r4
            try dsimp only
            rw [hc, e1]
            refine Ev.pos c1 (Ev.pos c2 ?_)
            refine Ev.pos (by simp; omega) (Ev.pos c2 (Ev.pos c2 ?_))
            refine Ev.bind (Ev.call 8 (let_ev' _)) ?_
            refine Ev.pos (by simp [AV.bool, hl]) ?_
            refine Ev.pos (by simp; omega) ?_
            exact Ev.neg (by simp; omega) (k1.add 0)
          · refine ⟨false, ?_, no fun q => by rcases q with q | q; · rw [hl] at q; cases q
                                              · omega⟩
            refine Ev.shift (fun k => e_ref13_named_r4 k ..) ?_
            unfold t_ref13_named_r4
            try dsimp only
            rw [hc, e1]
            refine Ev.pos c1 (Ev.pos c2 ?_)
            refine Ev.pos (by simp; omega) (Ev.pos c2 (Ev.pos c2 ?_))
            refine Ev.bind (Ev.call 8 (let_ev' _)) ?_
            refine Ev.pos (by simp [AV.bool, hl]) ?_
            refine Ev.pos (by simp; omega) ?_
            exact Ev.pos (by simp; omega) (Ev.const _)
      · refine ⟨false, ?_, no fun q => by rcases q with q | q; · rw [hl] at q; cases q
                                          · omega⟩
        refine Ev.shift (fun k => e_ref13_named_r4 k ..) ?_
        unfold t_ref13_named_r4
        try dsimp only
        rw [hc, e1]
        refine Ev.pos c1 (Ev.pos c2 ?_)
        refine Ev.neg (by simp; omega) (Ev.pos c2 ?_)
        refine Ev.bind (Ev.call 8 (let_ev' _)) ?_
        refine Ev.pos (by simp [AV.bool, hl]) ?_
        by_cases h0 : j = 0
        · exact Ev.neg (by simp [h0]) (Ev.const _)
        · exact Ev.pos (by simp; omega) (Ev.const _)
theorem named_ev' (s : ByteArray) : ∃ b, Ev (fun k => call C k ref13_named [.s s]) (some [.b b]) ∧ (b = true ↔ nameB s) := by
  by_cases h1 : s.size < 1
  · refine ⟨false, ?_, by simp [nameB, Nm]; omega⟩
    refine Ev.shift (fun k => e_ref13_named k s) ?_
    unfold t_ref13_named
    try dsimp only
    exact Ev.neg (by simp; omega) (Ev.const _)
  by_cases h2 : s.size > 16
  · refine ⟨false, ?_, by simp [nameB, Nm]; omega⟩
    refine Ev.shift (fun k => e_ref13_named k s) ?_
    unfold t_ref13_named
    try dsimp only
    refine Ev.pos (by simp; omega) ?_
    exact Ev.neg (by simp; omega) (Ev.const _)
  by_cases hr : s ∈ resv
  · refine ⟨false, ?_, by simp [nameB, hr]⟩
    refine Ev.shift (fun k => e_ref13_named k s) ?_
    unfold t_ref13_named
    try dsimp only
    refine Ev.pos (by simp; omega) ?_
    refine Ev.pos (by simp; omega) ?_
    refine Ev.bind (Ev.call 10 (resv_ev s)) ?_
    exact Ev.pos (by simp [AV.bool, hr]) (Ev.const _)
  · obtain ⟨b, k1, k2⟩ := named_loop s (by omega) s.size 0 (by omega)
    refine ⟨b, ?_, ?_⟩
    · refine Ev.shift (fun k => e_ref13_named k s) ?_
      unfold t_ref13_named
      try dsimp only
      refine Ev.pos (by simp; omega) ?_
      refine Ev.pos (by simp; omega) ?_
      refine Ev.bind (Ev.call 10 (resv_ev s)) ?_
      exact Ev.neg (by simp [AV.bool, hr]) (k1.add 0)
    · rw [k2]
      exact ⟨fun q => ⟨⟨by omega, by omega, fun i hi => q i (Nat.zero_le _) hi⟩, hr⟩, fun q i _ hi => q.1.2.2 i hi⟩
end Go.Proofs.YteklakapimggeaaGreatDoor.Den
