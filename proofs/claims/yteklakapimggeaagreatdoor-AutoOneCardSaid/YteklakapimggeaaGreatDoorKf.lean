/- Proved here: a part of the proof, told one step at a time: DenZU, DenLim, DenStr, DenStrB, DenPrimD, DenPrimE, DenPrimF, DenAny, DenGo, DenFast, DenRun. No condition but those each theorem names. -/
import Derived.Test.YteklakapimggeaaGreatDoorKe
import Derived.Test.YteklakapimggeaaGreatDoorKa
import Derived.Test.YteklakapimggeaaGreatDoorChecked
import Derived.Lib.UnsafeStr
import Derived.Lib.Builder
import Derived.Shelf.RegionOpenPlain
import Derived.WalkKit
import Derived.Deep.RegionLaw
import Derived.Lib.Walk
import Derived.Lib.LaidTab
import Derived.Lib.ItoaNum
import Derived.Lib.Bytealg
import Derived.Sort.Grow
import Derived.Deep.Draws
import Derived.Test.YteklakapimggeaaGreatDoorShelf
import Derived.Test.YteklakapimggeaaGreatDoorSortLay
import Derived.Deep.Slices
import Derived.Deep.Fields
import Derived.OpenShut
import Derived.ChangeOld
import Derived.ChangeSame
import Derived.ChangeArms
import Derived.Lib.SmallJoins
namespace Go.Proofs.YteklakapimggeaaGreatDoor.Den
open Go
set_option linter.unusedVariables false
set_option linter.unusedSimpArgs false
section
variable {C : Cfg} {F : Nat → Prop} {σ : Sig} {S : List Blk} {w w' : World} {slot : Nat}
structure Turned (w w' : World) (b : Nat) : Prop where
 os : w'.os = w.os
 tape : w'.tape = w.tape
 output : w'.output = w.output
 drawn : w.drawn ≤ w'.drawn
 size : w.heap.size ≤ w'.heap.size
 keep : ∀ c, c < w.heap.size → c ≠ b → w'.heap[c]? = w.heap[c]?
theorem Turned.refl {b : Nat} : Turned w w b := ⟨rfl, rfl, rfl, Nat.le_refl _, Nat.le_refl _, fun _ _ _ => rfl⟩
theorem Turned.trans {w1 w2 w3 : World} {b : Nat} (h : Turned w1 w2 b) (k : Turned w2 w3 b) : Turned w1 w3 b :=
 ⟨k.os.trans h.os, k.tape.trans h.tape, k.output.trans h.output, Nat.le_trans h.drawn k.drawn, Nat.le_trans h.size k.size, fun c h1 h2 => (k.keep c (Nat.lt_of_lt_of_le h1 h.size) h2).trans (h.keep c h1 h2)⟩
theorem Turned.drew {b : Nat} (n : Nat) : Turned w { w with drawn := w.drawn + n } b := ⟨rfl, rfl, rfl, Nat.le_add_right _ _, Nat.le_refl _, fun _ _ _ => rfl⟩
theorem Turned.setCell {b o : Nat} {v : Value} : Turned w (w.setCell ⟨b, o, none⟩ v) b :=
 ⟨rfl, rfl, rfl, Nat.le_refl _, by simp [World.setCell], fun c h1 h2 => by
  simp only [World.setCell, Array.getElem?_modify]
  rw [if_neg (fun e => h2 e.symm)]⟩
theorem Turned.setCells {b : Nat} : ∀ (vs : List Value) (o : Nat) (w : World), Turned w (w.setCells b o vs) b
 | [], o, w => .refl
 | v :: vs, o, w => by
  rw [World.setCells]
  exact Turned.setCell.trans (Turned.setCells vs (o + 1) _)
theorem Turned.alloc {b : Nat} (ob : Obj) : Turned w (w.alloc ob) b :=
 ⟨rfl, rfl, rfl, Nat.le_refl _, by show w.heap.size ≤ (w.heap.push ob).size; simp, fun c h1 _ => alloc_keep w ob h1⟩
theorem Sim.becomes (hs : Sim C F σ S w) (hsl : Slot σ S slot) {ks : List Nat} {b : Nat} {B : Blk} {p : Place} (ht : Turned w w' b) (hp : p.blk = some b) (hb : w.heap.size ≤ b ∨ ∃ id ∈ ks, live S id ∧ (σ id).blk = some b) (hB : (∀ d, F d → w'.heap[d]? = w.heap[d]?) → BlkAt C w' F (σ.put slot p) B p) :
  Sim C F (σ.put slot p) ((kill ks S).set slot B) w' ∧ Stp C F σ S w F (σ.put slot p) ((kill ks S).set slot B) w' := by
 have hlt : slot < (kill ks S).length := by rw [kill_length]; exact hsl.lt
 have hlive : ∀ i, live ((kill ks S).set slot B) i → i ≠ slot → live S i ∧ i ∉ ks := fun i h hn => by
  unfold live at h
  rw [getD_set_ne hn, getD_kill] at h
  by_cases q : i ∈ ks
  ·simp [q] at h
  ·rw [if_neg (by simpa using q)] at h; exact ⟨h, q⟩
 have hF : ∀ c, F c → c ≠ b := fun c hc e => by
  rcases hb with q | ⟨id, _, q2, q3⟩
  ·have := hs.fin c hc; omega
  ·exact hs.out id b q2 q3 (e ▸ hc)
 have hbn : ∀ i c, live S i → i ∉ ks → (σ i).blk = some c → c ≠ b ∧ c < w.heap.size := fun i c hi hn hc => by
  have hclt := hs.lt hi hc
  refine ⟨fun e => ?_, hclt⟩
  rcases hb with q | ⟨id, q1, q2, q3⟩
  ·omega
  ·exact hn (hs.inj i id c hi q2 hc (e ▸ q3) ▸ q1)
 have hFk : ∀ d, F d → w'.heap[d]? = w.heap[d]? := fun d hd => ht.keep d (hs.fin d hd) (hF d hd)
 refine ⟨⟨fun i => ?_, fun i i' c h1 h2 h3 h4 => ?_, fun i c h1 h2 hFc => ?_, fun i hi => ?_, fun c hc => Nat.lt_of_lt_of_le (hs.fin c hc) ht.size, hs.tabk hFk fun _ h => h⟩, ⟨ht.os, ht.tape, ht.output, .inr ht.drawn, ht.size, fun c hc hn => ht.keep c hc fun e => ?_, fun _ h => h, fun _ h => .inl h, fun i c h1 h2 => ?_⟩⟩
 ·by_cases q : i = slot
  ·subst q
   rw [getD_set_self hlt, put_self]
   exact hB hFk
  ·rw [getD_set_ne q, put_ne q, getD_kill]
   by_cases q2 : i ∈ ks
   ·rw [if_pos (by simpa using q2)]; exact trivial
   ·rw [if_neg (by simpa using q2)]
    by_cases hi : live S i
    ·exact (hs.blk i).mono hFk (fun _ h => h) (put_ext hsl.no) fun c hc => ht.keep c (hbn i c hi q2 hc).2 (hbn i c hi q2 hc).1
    ·have : S.getD i .dead = .dead := Classical.byContradiction fun h => hi h
     rw [this]
     exact trivial
 ·by_cases q : i = slot
  ·by_cases q' : i' = slot
   ·rw [q, q']
   ·rw [q, put_self, hp] at h3
    rw [put_ne q'] at h4
    obtain ⟨l1, l2⟩ := hlive i' h2 q'
    exact absurd (Option.some.inj h3).symm (hbn i' c l1 l2 h4).1
  ·by_cases q' : i' = slot
   ·rw [q', put_self, hp] at h4
    rw [put_ne q] at h3
    obtain ⟨l1, l2⟩ := hlive i h1 q
    exact absurd (Option.some.inj h4).symm (hbn i c l1 l2 h3).1
   ·rw [put_ne q] at h3
    rw [put_ne q'] at h4
    exact hs.inj i i' c (hlive i h1 q).1 (hlive i' h2 q').1 h3 h4
 ·by_cases q : i = slot
  ·rw [q, put_self, hp] at h2
   exact hF c hFc (Option.some.inj h2).symm
  ·rw [put_ne q] at h2
   exact hs.out i c (hlive i h1 q).1 h2 hFc
 ·have hi' : S.length ≤ i := by simpa [kill_length] using hi
  rw [put_ne (by have := hsl.lt; omega)]
  exact hs.top i hi'
 ·rcases hb with q | ⟨id, _, q2, q3⟩
  ·omega
  ·exact hn id q2 (by rw [q3, e])
 ·by_cases q : i = slot
  ·rw [q, put_self, hp] at h2
   obtain rfl := Option.some.inj h2
   rcases hb with q | ⟨id, _, q2, q3⟩
   ·exact .inl q
   ·exact .inr ⟨id, q2, q3⟩
  ·rw [put_ne q] at h2
   exact .inr ⟨i, (hlive i h1 q).1, h2⟩
theorem Sim.post_row (hs : Sim C F σ S w) {o : Oper} (ho : slotsOf o.op = 8) (hsl : Slot σ S slot) {ks : List Nat} {b o1 c cap : Nat} {e : TypeId} {ys : List AV} (ht : Turned w w' b) (hb : w.heap.size ≤ b ∨ ∃ id ∈ ks, live S id ∧ (σ id).blk = some b) (hcap : ys.length ≤ cap) (hc : cap ≤ c)
  (hA : (∀ d, F d → w'.heap[d]? = w.heap[d]?) → ArrAt C w' F e ys b o1 c) : Post C o F σ S w slot (.w e slot) ((kill ks S).set slot (.arr e ys)) [] (.slice (some ⟨b, o1, none⟩) ys.length cap) w' := by
 obtain ⟨s1, t1⟩ := hs.becomes (B := .arr e ys) (p := .arr b o1 ys.length c e) hsl ht rfl hb fun hF => ⟨rfl, rfl, hA hF⟩
 refine ⟨F, _, s1, t1, put_ext hsl.no, fun id hid => by simp at hid, .one (by simp) (.w put_self hcap hc), by rw [List.length_set, kill_length], fun j hj h1 h2 => ?_⟩
 have hne : j ≠ slot := by rw [ho] at hj; omega
 rw [getD_set_ne hne, getD_kill, put_ne hne]
 refine ⟨?_, h2⟩
 split
 ·rfl
 ·exact h1
theorem arr_single {e : TypeId} (h1 : C.sz e = 1) {ys : List AV} {vs : List Value} {b o1 c : Nat} {cur : Array Value} {t : TypeId} (hh : w'.heap[b]? = some (.cells cur t (0, 0))) (ht : isU8 C e = true → t = e) (hc : o1 + c ≤ cur.size) (hn : ys.length ≤ c) (hv : vs.length = ys.length) (hcell : ∀ j v, vs[j]? = some v → cur[o1 + j]? = some v) (hr : ∀ (j : Nat) y v, ys[j]? = some y → vs[j]? = some v → Wt C e y ∧ R C w' F noSig y [v]) : ArrAt C w' F e ys b o1 c := by
 refine ⟨hn, cur, ⟨t, ht⟩, hh, by rw [h1]; omega, fun j => [vs.getD j undef], fun j y hy => ?_⟩
 obtain ⟨v, hv'⟩ := getElem?_of_lt (l := vs) (j := j) (by have := getElem?_lt hy; omega)
 have hd : vs.getD j undef = v := by rw [List.getD_eq_getElem?_getD, hv']; rfl
 obtain ⟨r1, r2⟩ := hr j y v hy hv'
 refine ⟨r1, by dsimp only; rw [hd]; exact r2, by rw [h1]; rfl, fun k u hu => ?_⟩
 dsimp only at hu
 rw [hd] at hu
 cases k with
 | zero =>
  simp only [List.getElem?_cons_zero, Option.some.injEq] at hu
  subst hu
  rw [h1, Nat.mul_one, Nat.add_zero]
  simp [World.cell?, hh, hcell j _ hv']
 | succ k => simp at hu
theorem ArrAt.single {e : TypeId} (h1 : C.sz e = 1) {xs : List AV} {b o1 c : Nat} (h : ArrAt C w F e xs b o1 c) : ∃ (cur : Array Value) (t : TypeId) (vs : List Value), w.heap[b]? = some (.cells cur t (0, 0)) ∧ (isU8 C e = true → t = e) ∧ o1 + c ≤ cur.size ∧ xs.length ≤ c ∧ vs.length = xs.length ∧ (∀ j v, vs[j]? = some v → cur[o1 + j]? = some v) ∧ (∀ v ∈ vs, v.oneCell' = true) ∧ ∀ (j : Nat) x v, xs[j]? = some x → vs[j]? = some v → Wt C e x ∧ R C w F noSig x [v] := by
 obtain ⟨hc, cur, t, hh, hz, cells, hx⟩ := h
 rw [h1, Nat.mul_one] at hz
 have hone : ∀ (j : Nat) x, xs[j]? = some x → ∃ v, cells j = [v] := fun j x hj => by
  obtain ⟨_, _, h3, _⟩ := hx j x hj
  rw [h1] at h3
  match hq : cells j, h3 with
  | [v], _ => exact ⟨v, rfl⟩
 have hat : ∀ (j : Nat) v, ((List.range xs.length).map fun j => (cells j).headD undef)[j]? = some v → ∃ x, xs[j]? = some x ∧ cells j = [v] := fun j v hj => by
  rw [List.getElem?_map] at hj
  obtain ⟨k, hk, rfl⟩ := Option.map_eq_some_iff.mp hj
  have hlt := getElem?_lt hk
  rw [List.length_range] at hlt
  rw [List.getElem?_range hlt] at hk
  obtain rfl := Option.some.inj hk
  obtain ⟨x, hx'⟩ := getElem?_of_lt hlt
  obtain ⟨u, hu⟩ := hone _ x hx'
  exact ⟨x, hx', by rw [hu]; rfl⟩
 refine ⟨cur, t.1, (List.range xs.length).map fun j => (cells j).headD undef, hh, t.2, hz, hc, by simp, fun j v hj => ?_, fun v hv => ?_, fun j x v hxj hj => ?_⟩
 ·obtain ⟨x, hx', hcj⟩ := hat j v hj
  obtain ⟨_, _, _, h4⟩ := hx j x hx'
  have := h4 0 v (by rw [hcj]; rfl)
  rw [h1, Nat.mul_one, Nat.add_zero] at this
  simpa [World.cell?, hh] using this
 ·obtain ⟨j, hj⟩ := List.getElem?_of_mem hv
  obtain ⟨x, hx', hcj⟩ := hat j v hj
  exact (hx j x hx').2.1.plain v (by rw [hcj]; simp)
 ·obtain ⟨x', hx', hcj⟩ := hat j v hj
  rw [hxj] at hx'
  cases hx'
  have := hx j x hxj
  rw [hcj] at this
  exact ⟨this.1, this.2.1⟩
def rowSet (cur : Array Value) (oo : Nat) (vs : List Value) : Array Value := (cur.toList.take oo ++ vs ++ cur.toList.drop (oo + vs.length)).toArray
theorem rowSet_size {cur : Array Value} {oo : Nat} {vs : List Value} (h : oo + vs.length ≤ cur.size) : (rowSet cur oo vs).size = cur.size := by
 simp only [rowSet, List.size_toArray, List.length_append, List.length_take, List.length_drop, Array.length_toList]
 omega
theorem rowSet_at {cur : Array Value} {oo : Nat} {vs : List Value} (h : oo + vs.length ≤ cur.size) (k : Nat) : (rowSet cur oo vs)[k]? = if oo ≤ k ∧ k < oo + vs.length then vs[k - oo]? else cur[k]? := by
 unfold rowSet
 have hl : (cur.toList.take oo).length = oo := by rw [List.length_take, Array.length_toList]; omega
 rw [List.getElem?_toArray, List.getElem?_append, List.length_append, hl]
 by_cases h1 : k < oo + vs.length
 ·rw [if_pos h1, List.getElem?_append, hl]
  by_cases h2 : k < oo
  ·rw [if_pos h2, if_neg (by omega), List.getElem?_take_of_lt h2, Array.getElem?_toList]
  ·rw [if_neg h2, if_pos (by omega)]
 ·rw [if_neg h1, if_neg (by omega), List.getElem?_drop, Array.getElem?_toList]
  congr 1
  omega
theorem setCells_heap {b oo : Nat} {vs : List Value} {cur : Array Value} {t : TypeId} (hh : w.heap[b]? = some (.cells cur t (0, 0))) (hl : oo + vs.length ≤ cur.size) (h1 : ∀ v ∈ vs, v.oneCell' = true) : (w.setCells b oo vs).heap[b]? = some (.cells (rowSet cur oo vs) t (0, 0)) := by
 rw [setCells_row hh hl h1]
 exact setRow_heap w b cur _ t (0, 0) hh
theorem ins_row {cur0 : Array Value} {o1 ii : Nat} {cs : List Value} {u : Value} (h0 : ∀ j, j < ii → cur0[o1 + j]? = cs[j]?) (hi : ii ≤ cs.length) (hsz : o1 + cs.length + 1 ≤ cur0.size) : ∀ j n, (cs.take ii ++ u :: cs.drop ii)[j]? = some n → (rowSet (rowSet cur0 (o1 + (ii + 1)) (cs.drop ii)) (o1 + ii) [u])[o1 + j]? = some n := by
 intro j n hj
 have hd : (cs.drop ii).length = cs.length - ii := List.length_drop ..
 have hs1 : (rowSet cur0 (o1 + (ii + 1)) (cs.drop ii)).size = cur0.size := rowSet_size (by rw [hd]; omega)
 rw [rowSet_at (by rw [hs1]; simp; omega), rowSet_at (by rw [hd]; omega), hd]
 have ht : (cs.take ii).length = ii := by rw [List.length_take]; omega
 rw [List.getElem?_append, ht] at hj
 simp only [List.length_cons, List.length_nil]
 by_cases h1 : j < ii
 ·rw [if_pos h1, List.getElem?_take_of_lt h1] at hj
  rw [if_neg (by omega), if_neg (by omega), h0 j h1]
  exact hj
 ·rw [if_neg h1] at hj
  by_cases h2 : j = ii
  ·subst h2
   rw [if_pos (by omega), Nat.sub_self]
   rw [Nat.sub_self] at hj
   exact hj
  ·rw [if_neg (by omega)]
   obtain ⟨k, rfl⟩ : ∃ k, j = ii + 1 + k := ⟨j - ii - 1, by omega⟩
   rw [show ii + 1 + k - ii = k + 1 by omega, List.getElem?_cons_succ] at hj
   have := getElem?_lt hj
   rw [hd] at this
   rw [if_pos (by omega), show o1 + (ii + 1 + k) - (o1 + (ii + 1)) = k by omega]
   exact hj
theorem zip_of {α β : Type} {Q : α → β → Prop} {xs : List α} {cs : List β} (hn : cs.length = xs.length) (h : ∀ (j : Nat) x c, xs[j]? = some x → cs[j]? = some c → Q x c) : ∃ zs : List (α × β), xs = zs.map (·.1) ∧ cs = zs.map (·.2) ∧ ∀ p ∈ zs, Q p.1 p.2 := by
 refine ⟨xs.zip cs, ?_, ?_, fun p hp => ?_⟩
 ·rw [List.map_fst_zip (by omega)]
 ·rw [List.map_snd_zip (by omega)]
 ·obtain ⟨j, hj⟩ := List.getElem?_of_mem hp
  rw [List.getElem?_zip_eq_some] at hj
  exact h j p.1 p.2 hj.1 hj.2
theorem zip_at {α β : Type} {Q : α → β → Prop} {zs : List (α × β)} (h : ∀ p ∈ zs, Q p.1 p.2) (j : Nat) (x : α) (c : β) (hx : (zs.map (·.1))[j]? = some x) (hc : (zs.map (·.2))[j]? = some c) : Q x c := by
 rw [List.getElem?_map] at hx hc
 cases hz : zs[j]? with
 | none => rw [hz] at hx; cases hx
 | some p =>
  rw [hz] at hx hc
  cases hx
  cases hc
  exact h p (List.mem_of_getElem? hz)
end
end Go.Proofs.YteklakapimggeaaGreatDoor.Den
namespace Go.Proofs.YteklakapimggeaaGreatDoor.Den
open Go
set_option linter.unusedVariables false
def Ev {α : Type} (f : Nat → α) (r : α) : Prop := ∃ K, ∀ k, K ≤ k → f k = r
section
variable {α β : Type}
theorem Ev.uniq {f : Nat → α} {r q : α} (h : Ev f r) (g : Ev f q) : r = q := by
 obtain ⟨K, hK⟩ := h
 obtain ⟨J, hJ⟩ := g
 rw [← hK (K + J) (by omega), hJ (K + J) (by omega)]
open Classical in
noncomputable def Lm (f : Nat → Option α) : Option α := if h : ∃ o, Ev f (some o) then some h.choose else none
theorem Ev.lm {f : Nat → Option α} {o : α} (h : Ev f (some o)) : Lm f = some o := by
 unfold Lm
 rw [dif_pos ⟨o, h⟩]
 exact Ev.uniq (Exists.choose_spec (⟨o, h⟩ : ∃ o, Ev f (some o))) h
theorem Lm.ev {f : Nat → Option α} {o : α} (h : Lm f = some o) : Ev f (some o) := by
 unfold Lm at h
 split at h
 ·rename_i q
  rw [← h]
  exact q.choose_spec
 ·cases h
theorem Lm.const (r : Option α) : Lm (fun _ => r) = r := by
 cases r with
 | some o => exact Ev.lm ⟨0, fun _ _ => rfl⟩
 | none =>
  unfold Lm
  rw [dif_neg]
  rintro ⟨o, K, h⟩
  exact absurd (h K (Nat.le_refl _)) (by simp)
def Lt (f : Nat → Option α) (F : Option α) : Prop := ∀ o, F = some o → Ev f (some o)
theorem Lt.no {f : Nat → Option α} : Lt f none := fun o h => by cases h
theorem Lt.ret {r : α} : Lt (fun _ => some r) (some r) := fun o h => ⟨0, fun _ _ => h⟩
theorem Lt.ite {p : Prop} [Decidable p] {a b : Nat → Option α} {A B : Option α} (ha : Lt a A) (hb : Lt b B) : Lt (fun k => if p then a k else b k) (if p then A else B) := fun o h => by
 by_cases q : p
 ·simp only [if_pos q] at h ⊢
  exact ha o h
 ·simp only [if_neg q] at h ⊢
  exact hb o h
theorem Lt.loop (c : Nat) (f : Nat → Option α) : Lt (fun k => f (k + c)) (Lm f) := fun o h => by
 obtain ⟨K, hK⟩ := Lm.ev h
 exact ⟨K, fun k hk => hK _ (by omega)⟩
theorem Lt.bind {x : Nat → Option α} {f : Nat → α → Option β} {A : Option α} {F : α → Option β} (hx : Lt x A) (hf : ∀ v, Lt (fun k => f k v) (F v)) : Lt (fun k => (x k).bind (f k)) (A.bind F) := fun o h => by
 cases A with
 | none => cases h
 | some v =>
  obtain ⟨K, hK⟩ := hx v rfl
  obtain ⟨J, hJ⟩ := hf v o h
  refine ⟨K + J, fun k hk => ?_⟩
  show (x k).bind (f k) = _
  rw [hK k (by omega)]
  exact hJ k (by omega)
theorem Lt.fin {f g : Nat → Option α} {G : Option α} {c : Nat} (h : ∀ k, f (k + c) = g k) (hg : Lt g G) {o : α} (ho : G = some o) : Lm f = some o := by
 obtain ⟨K, hK⟩ := hg o ho
 refine Ev.lm ⟨K + c, fun k hk => ?_⟩
 obtain ⟨j, rfl⟩ : ∃ j, k = j + c := ⟨k - c, by omega⟩
 rw [h, hK j (by omega)]
theorem callP_no {C : Cfg} {call : CallF} {n : FuncId} {args : List AV} (h : C.prim n = none) : callP C call n args = call.f n args := by
 unfold callP
 rw [h]
theorem callP_yes {C : Cfg} {call : CallF} {n : FuncId} {args : List AV} {pf : List AV → Option (List AV)} (h : C.prim n = some pf) : callP C call n args = pf args := by
 unfold callP
 rw [h]
noncomputable def DC (C : Cfg) (n : FuncId) (args : List AV) : Out := Lm fun k => callP C (callF C k) n args
theorem DC.prim {C : Cfg} {n : FuncId} {args : List AV} {pf : List AV → Option (List AV)} (h : C.prim n = some pf) : DC C n args = pf args := by
 unfold DC
 simp only [callP_yes h]
 exact Lm.const _
theorem DC.run_ {C : Cfg} {n : FuncId} {args : List AV} {o : List AV} (hp : C.prim n = none) (h : DC C n args = some o) : ∃ k, call C k n args = some o := by
 obtain ⟨K, hK⟩ := Lm.ev h
 exact ⟨K, (callP_no hp).symm.trans (hK K (Nat.le_refl _))⟩
theorem DC.fin {C : Cfg} {n : FuncId} {args : List AV} {g : Nat → Out} {G : Out} {c : Nat} (hp : C.prim n = none) (h : ∀ k, call C (k + c) n args = g k) (hg : Lt g G) {o : List AV} (ho : G = some o) : DC C n args = some o :=
 Lt.fin (f := fun k => callP C (callF C k) n args) (c := c) (g := g) (fun k => (callP_no (C := C) (call := callF C (k + c)) (n := n) (args := args) hp).trans (h k)) hg ho
theorem DC.lt {C : Cfg} {n : FuncId} {args : List AV} (c : Nat) : Lt (fun k => callP C (callF C (k + c)) n args) (DC C n args) := Lt.loop c fun k => callP C (callF C k) n args
end
end Go.Proofs.YteklakapimggeaaGreatDoor.Den
namespace Go.Proofs.YteklakapimggeaaGreatDoor.Den
open Go Go.Proofs Go.Shelf Go.RowKit Go.Lib
set_option linter.unusedVariables false
set_option linter.unusedSimpArgs false
theorem run_unsafeString_at {P : Program} (w : World) (pt it ty e : TypeId) (hp : P.underlying pt = some (.pointer e)) (hc : P.cellsOf e = 1) (g o cells : Nat) (hsh : w.shape? g = some (e, cells)) (l : List UInt8) (h0 : l ≠ []) (hn : o + l.length ≤ cells) (h63 : l.length ≤ 9223372036854775807)
  (hcell : ∀ j x, l[j]? = some x → w.cell? ((⟨g, o, none⟩ : Addr).add j) = some (.int .u8 x.toNat)) :
  (Builtin.unsafeString_ #[pt, it] ty #[.pointer (some ⟨g, o, none⟩), .int .i64 l.length]).run P w = .ok (.string ⟨l.toArray⟩) (w.freeze ⟨g, o, none⟩ l.length) := by
 have hl : l.length ≠ 0 := by simpa using h0
 have hlb := run_loadBytes (P := P) w l ⟨g, o, none⟩ .empty hcell
 have hlies := Go.Proofs.YteklakapimggeaaGreatDoor.Den.lies_bytes (P := P) hc (count := cells / P.cellsOf e) (off := o) (n := l.length) (by rw [hc]; simpa using hn)
 have h63' : ¬ (9223372036854775807 : Int) < (l.length : Int) := by omega
 have hdef : Builtin.unsafeString_ #[pt, it] ty #[.pointer (some ⟨g, o, none⟩), .int .i64 l.length] =
   (do
    let n ← asInt (.int .i64 l.length)
    if n < 0 then runtimePanic (.error "unsafe.String: len out of range")
    if n > IntKind.i64.max then unsupported (.unsafePointer "String: a length above the largest int")
    if n = 0 then pure (.string .empty)
    else if ← variablesAt ⟨g, o, none⟩ (← Go.elemOf pt) n.toNat then do
     let s ← loadBytes ⟨g, o, none⟩ .empty n.toNat
     freeze ⟨g, o, none⟩ n.toNat
     pure (.string s)
    else unsupported (.unsafePointer "String: not so many bytes at ptr")) := rfl
 rw [hdef]
 have hmax : IntKind.i64.max = 9223372036854775807 := rfl
 have hneg : ¬ (l.length : Int) < 0 := by omega
 simp [asInt, asIntOf, hmax, h63', hneg, hl, variablesAt, hsh, Go.elemOf, run_underlying hp, hlies, hlb]
set_option maxHeartbeats 2000000 in
set_option maxRecDepth 100000 in
theorem str_row (b g o n cap : Nat) (l : List UInt8) (w : World) (hb : w.cell? ⟨b, 1, none⟩ = some (.slice (some ⟨g, o, none⟩) l.length cap)) (h0 : l ≠ []) (hcap : l.length ≤ cap) (h63 : l.length ≤ 9223372036854775807) (hsh : w.shape? g = some (5, n)) (hn : o + l.length ≤ n)
  (hcell : ∀ j x, l[j]? = some x → w.cell? ⟨g, o + j, none⟩ = some (.int .u8 x.toNat)) :
  Calls Tryz.prog 52 #[.pointer (some ⟨b, 0, none⟩)] w fun e w' => e = .returned (.string ⟨l.toArray⟩) ∧ w' = w.drew.freeze ⟨g, o, none⟩ l.length := by
 have hl0 : l.length ≠ 0 := by simpa using h0
 have c1 : w.drew.cell? ⟨b, 1, none⟩ = some (.slice (some ⟨g, o, none⟩) l.length cap) := hb
 have hSD : (Builtin.unsafeSliceData_ #[112] 151 #[.slice (some ⟨g, o, none⟩) l.length cap]).run Tryz.prog w.drew = .ok (.pointer (some ⟨g, o, none⟩)) w.drew :=
  Lib.run_unsafeSliceData_row _ _ _ _ _ _ (by omega)
 have hUS : (Builtin.unsafeString_ #[151, 3] 9 #[.pointer (some ⟨g, o, none⟩), .int .i64 l.length]).run Tryz.prog w.drew = .ok (.string ⟨l.toArray⟩) (w.drew.freeze ⟨g, o, none⟩ l.length) :=
  run_unsafeString_at w.drew 151 3 9 5 Tryz.underlying151 (by kernel_rfl) g o n hsh l h0 hn h63 fun j x hx => by rw [Addr.add_lit]; exact hcell j x hx
 have mixed := (show Tryz.prog.follows .mixedOrders = true by kernel_rfl)
 have t72 := Tryz.underlying114; have a72 := Tryz.isAgg114; have z72 := Tryz.sizeOf114; have v72 := Tryz.zeroValue114; have u72 := run_underlying Tryz.underlying114
 have t37 := Tryz.underlying112; have a37 := Tryz.isAgg112; have z37 := Tryz.sizeOf112; have v37 := Tryz.zeroValue112; have u37 := run_underlying Tryz.underlying112
 have t127 := Tryz.underlying151; have a127 := Tryz.isAgg151; have z127 := Tryz.sizeOf151; have v127 := Tryz.zeroValue151; have u127 := run_underlying Tryz.underlying151
 have t3 := Tryz.underlying3; have a3 := Tryz.isAgg3; have z3 := Tryz.sizeOf3; have v3 := Tryz.zeroValue3; have u3 := run_underlying Tryz.underlying3
 have t9 := Tryz.underlying9; have a9 := Tryz.isAgg9; have z9 := Tryz.sizeOf9; have v9 := Tryz.zeroValue9; have u9 := run_underlying Tryz.underlying9
 have t5 := Tryz.underlying5; have a5 := Tryz.isAgg5; have z5 := Tryz.sizeOf5; have v5 := Tryz.zeroValue5; have u5 := run_underlying Tryz.underlying5
 go_enter Tryz.func52, Tryz.ntmps52
 go_wp2
 go_region_o
 all_goals (go_wp2; go_ret; exact ⟨rfl, rfl⟩)
set_option maxHeartbeats 2000000 in
set_option maxRecDepth 100000 in
theorem str_zero (b cap : Nat) (ad : Option Addr) (w : World) (hb : w.cell? ⟨b, 1, none⟩ = some (.slice ad 0 cap)) (h : (ad = none ∧ cap = 0) ∨ ∃ a, ad = some a ∧ cap ≠ 0) :
  Calls Tryz.prog 52 #[.pointer (some ⟨b, 0, none⟩)] w fun e w' => e = .returned (.string ⟨#[]⟩) ∧ w' = w.drew := by
 have c1 : w.drew.cell? ⟨b, 1, none⟩ = some (.slice ad 0 cap) := hb
 obtain ⟨p, hSD⟩ : ∃ p, (Builtin.unsafeSliceData_ #[112] 151 #[.slice ad 0 cap]).run Tryz.prog w.drew = .ok (.pointer p) w.drew := by
  rcases h with ⟨rfl, rfl⟩ | ⟨a, rfl, hc⟩
  ·exact ⟨none, rfl⟩
  ·exact ⟨some a, Lib.run_unsafeSliceData_row _ _ _ _ _ _ hc⟩
 have hUS : (Builtin.unsafeString_ #[151, 3] 9 #[.pointer p, .int .i64 0]).run Tryz.prog w.drew = .ok (.string .empty) w.drew := Lib.run_unsafeString_none _ _ _ _ _
 clear h
 have mixed := (show Tryz.prog.follows .mixedOrders = true by kernel_rfl)
 have t72 := Tryz.underlying114; have a72 := Tryz.isAgg114; have z72 := Tryz.sizeOf114; have v72 := Tryz.zeroValue114; have u72 := run_underlying Tryz.underlying114
 have t37 := Tryz.underlying112; have a37 := Tryz.isAgg112; have z37 := Tryz.sizeOf112; have v37 := Tryz.zeroValue112; have u37 := run_underlying Tryz.underlying112
 have t127 := Tryz.underlying151; have a127 := Tryz.isAgg151; have z127 := Tryz.sizeOf151; have v127 := Tryz.zeroValue151; have u127 := run_underlying Tryz.underlying151
 have t3 := Tryz.underlying3; have a3 := Tryz.isAgg3; have z3 := Tryz.sizeOf3; have v3 := Tryz.zeroValue3; have u3 := run_underlying Tryz.underlying3
 have t9 := Tryz.underlying9; have a9 := Tryz.isAgg9; have z9 := Tryz.sizeOf9; have v9 := Tryz.zeroValue9; have u9 := run_underlying Tryz.underlying9
 have t5 := Tryz.underlying5; have a5 := Tryz.isAgg5; have z5 := Tryz.sizeOf5; have v5 := Tryz.zeroValue5; have u5 := run_underlying Tryz.underlying5
 go_enter Tryz.func52, Tryz.ntmps52
 go_wp2
 go_region_o
 all_goals (go_wp2; go_ret; exact ⟨rfl, rfl⟩)
set_option maxHeartbeats 2000000 in
set_option maxRecDepth 100000 in
theorem str_new (b g o n : Nat) (w : World) (hb : w.cell? ⟨b, 1, none⟩ = some (.slice (some ⟨g, o, none⟩) 0 0)) (hlt : b < w.heap.size) (hsh : w.shape? g = some (5, n)) :
  Calls Tryz.prog 52 #[.pointer (some ⟨b, 0, none⟩)] w fun e w' => e = .returned (.string ⟨#[]⟩) ∧ Turned w w' w.heap.size := by
 have hUS : ∀ W q, (Builtin.unsafeString_ #[151, 3] 9 #[.pointer q, .int .i64 0]).run Tryz.prog W = .ok (.string .empty) W := fun W q => Lib.run_unsafeString_none W _ _ _ q
 have c0 : w.cell? ⟨b, 1, none⟩ = some (.slice (some ⟨g, o, none⟩) 0 0) := hb
 have c1 : w.drew.cell? ⟨b, 1, none⟩ = some (.slice (some ⟨g, o, none⟩) 0 0) := hb
 have hSD : (Builtin.unsafeSliceData_ #[112] 151 #[.slice (some ⟨g, o, none⟩) 0 0]).run Tryz.prog w.drew = .ok (.pointer (some ⟨w.drew.heap.size, 0, none⟩)) (w.drew.alloc (.view ⟨g, o, none⟩ 5)) :=
  Lib.run_unsafeSliceData_zero w.drew _ _ 5 Tryz.underlying151 ⟨g, o, none⟩ 0 (5, n) hsh
 have c2 : (w.drew.alloc (.view ⟨g, o, none⟩ 5)).cell? ⟨b, 1, none⟩ = some (.slice (some ⟨g, o, none⟩) 0 0) := by
  have := alloc_keep w.drew (.view ⟨g, o, none⟩ 5) (b := b) hlt
  unfold World.cell? at hb ⊢
  rw [this]
  exact hb
 have c3 : (w.alloc (.view ⟨g, o, none⟩ 5)).drew.cell? ⟨b, 1, none⟩ = some (.slice (some ⟨g, o, none⟩) 0 0) := c2
 have mixed := (show Tryz.prog.follows .mixedOrders = true by kernel_rfl)
 have t72 := Tryz.underlying114; have a72 := Tryz.isAgg114; have z72 := Tryz.sizeOf114; have v72 := Tryz.zeroValue114; have u72 := run_underlying Tryz.underlying114
 have t37 := Tryz.underlying112; have a37 := Tryz.isAgg112; have z37 := Tryz.sizeOf112; have v37 := Tryz.zeroValue112; have u37 := run_underlying Tryz.underlying112
 have t127 := Tryz.underlying151; have a127 := Tryz.isAgg151; have z127 := Tryz.sizeOf151; have v127 := Tryz.zeroValue151; have u127 := run_underlying Tryz.underlying151
 have t3 := Tryz.underlying3; have a3 := Tryz.isAgg3; have z3 := Tryz.sizeOf3; have v3 := Tryz.zeroValue3; have u3 := run_underlying Tryz.underlying3
 have t9 := Tryz.underlying9; have a9 := Tryz.isAgg9; have z9 := Tryz.sizeOf9; have v9 := Tryz.zeroValue9; have u9 := run_underlying Tryz.underlying9
 have t5 := Tryz.underlying5; have a5 := Tryz.isAgg5; have z5 := Tryz.sizeOf5; have v5 := Tryz.zeroValue5; have u5 := run_underlying Tryz.underlying5
 go_enter Tryz.func52, Tryz.ntmps52
 go_wp2
 go_region_o
 all_goals (go_wp2; go_ret; first | exact ⟨rfl, (Turned.alloc _).trans (Turned.drew _)⟩ | exact ⟨rfl, (Turned.drew _).trans (Turned.alloc _)⟩)
end Go.Proofs.YteklakapimggeaaGreatDoor.Den
namespace Go.Proofs.YteklakapimggeaaGreatDoor.Den
open Go Go.Proofs
set_option linter.unusedVariables false
set_option linter.unusedSimpArgs false
def isByte : AV → Bool
 | .i .u8 n => decide (0 ≤ n) && decide (n < 256)
 | _ => false
def bstrD (S : List Blk) (slot : Nat) (args : List AV) : Option (Bool × AV × List Blk × List Nat) := match args with
 | [.p id []] => match S.getD id .dead with
  | .obj T (.g [_, buf]) => if T = 114 then match buf with
   | .z 1 => some (true, .s ⟨#[]⟩, kill [id] S, [])
   | .w e id2 => match S.getD id2 .dead with
    | .arr _ xs => some (decide (e = 5 ∧ xs.length ≤ 16777216 ∧ xs.all isByte = true), .s (bytesOf xs), kill [id, id2] S, [])
    | _ => none
   | _ => none
   else none
  | _ => none
 | _ => none
section
variable {C : Cfg} {F : Nat → Prop} {σ : Sig} {S : List Blk} {w w' : World} {slot : Nat}
theorem Sim.leaves (hs : Sim C F σ S w) {ks : List Nat} {b : Nat} (ht : Turned w w' b) (hb : w.heap.size ≤ b ∨ ∃ id ∈ ks, live S id ∧ (σ id).blk = some b) :
  Sim C F σ (kill ks S) w' ∧ Stp C F σ S w F σ (kill ks S) w' := by
 have hlive : ∀ i, live (kill ks S) i → live S i ∧ i ∉ ks := fun i h => by
  unfold live at h
  rw [getD_kill] at h
  by_cases q : i ∈ ks
  ·simp [q] at h
  ·rw [if_neg (by simpa using q)] at h; exact ⟨h, q⟩
 have hF : ∀ c, F c → c ≠ b := fun c hc e => by
  rcases hb with q | ⟨id, _, q2, q3⟩
  ·have := hs.fin c hc; omega
  ·exact hs.out id b q2 q3 (e ▸ hc)
 have hFk : ∀ d, F d → w'.heap[d]? = w.heap[d]? := fun d hd => ht.keep d (hs.fin d hd) (hF d hd)
 have hbn : ∀ i c, live S i → i ∉ ks → (σ i).blk = some c → c ≠ b ∧ c < w.heap.size := fun i c hi hn hc => by
  have hclt := hs.lt hi hc
  refine ⟨fun e => ?_, hclt⟩
  rcases hb with q | ⟨id, q1, q2, q3⟩
  ·omega
  ·exact hn (hs.inj i id c hi q2 hc (e ▸ q3) ▸ q1)
 refine ⟨⟨fun i => ?_, fun i i' c h1 h2 h3 h4 => hs.inj i i' c (hlive i h1).1 (hlive i' h2).1 h3 h4, fun i c h1 h2 => hs.out i c (hlive i h1).1 h2, fun i hi => hs.top i (by simpa [kill_length] using hi), fun c hc => Nat.lt_of_lt_of_le (hs.fin c hc) ht.size, hs.tabk hFk fun _ h => h⟩, ⟨ht.os, ht.tape, ht.output, .inr ht.drawn, ht.size, fun c hc hn => ht.keep c hc fun e => ?_, fun _ h => h, fun _ h => .inl h, fun i c h1 h2 => .inr ⟨i, (hlive i h1).1, h2⟩⟩⟩
 ·rw [getD_kill]
  by_cases q2 : i ∈ ks
  ·rw [if_pos (by simpa using q2)]; exact trivial
  ·rw [if_neg (by simpa using q2)]
   by_cases hi : live S i
   ·exact (hs.blk i).mono hFk (fun _ h => h) (fun _ _ => rfl) fun c hc => ht.keep c (hbn i c hi q2 hc).2 (hbn i c hi q2 hc).1
   ·have : S.getD i .dead = .dead := Classical.byContradiction fun h => hi h
    rw [this]
    exact trivial
 ·rcases hb with q | ⟨id, _, q2, q3⟩
  ·omega
  ·exact hn id q2 (by rw [q3, e])
theorem Sim.post_left (hs : Sim C F σ S w) {o : Oper} {ks : List Nat} {b : Nat} {s : ByteArray} (ht : Turned w w' b) (hb : w.heap.size ≤ b ∨ ∃ id ∈ ks, live S id ∧ (σ id).blk = some b) : Post C o F σ S w slot (.s s) (kill ks S) [] (.string s) w' := by
 obtain ⟨s1, t1⟩ := hs.leaves ht hb
 refine ⟨F, σ, s1, t1, fun _ _ => rfl, fun id hid => by simp at hid, .one (by simp) .s, kill_length _ _, fun j _ h1 h2 => ⟨?_, h2⟩⟩
 rw [getD_kill]
 split
 ·rfl
 ·exact h1
theorem Turned.freeze {b o n : Nat} : Turned w (w.freeze ⟨b, o, none⟩ n) b := by
 unfold World.freeze
 by_cases h : n = 0
 ·rw [if_pos (by simpa using h)]
  exact .refl
 ·rw [if_neg (by simpa using h)]
  exact ⟨rfl, rfl, rfl, Nat.le_refl _, by simp, fun c h1 h2 => by
   simp only [Array.getElem?_modify]
   rw [if_neg (fun e => h2 e.symm)]⟩
theorem bytesOf_eq (l : List UInt8) : bytesOf (l.map fun c => AV.i .u8 (c.toNat : Int)) = ⟨l.toArray⟩ := by
 have key : ∀ (l : List UInt8) (r : ByteArray), ((l.map fun c => AV.i .u8 (c.toNat : Int)).map AV.int).foldl (fun r n => r.push (UInt8.ofNat n.toNat)) r = ⟨r.data ++ l.toArray⟩ := by
  intro l
  induction l with
  | nil => intro r; simp
  | cons c l ih =>
   intro r
   simp only [List.map_cons, List.foldl_cons]
   rw [ih]
   simp [AV.int, ByteArray.push]
 unfold bytesOf
 rw [key]
 show (⟨#[] ++ l.toArray⟩ : ByteArray) = _
 simp
theorem bytes_of {e : TypeId} (hu : C.und e = some (.int .u8)) : ∀ {xs : List AV} {vs : List Value}, vs.length = xs.length → xs.all isByte = true → (∀ (j : Nat) x v, xs[j]? = some x → vs[j]? = some v → Wt C e x ∧ R C w F noSig x [v]) → ∃ l : List UInt8, xs = l.map (fun c => AV.i .u8 (c.toNat : Int)) ∧ vs = l.map (fun c => Value.int .u8 (c.toNat : Int))
 | [], [], _, _, _ => ⟨[], rfl, rfl⟩
 | x :: xs, v :: vs, hn, hb, h => by
  rw [List.all_cons, Bool.and_eq_true] at hb
  obtain ⟨l, h1, h2⟩ := bytes_of hu (xs := xs) (vs := vs) (by simpa using hn) hb.2 fun j x v hx hv => h (j + 1) x v (by simpa using hx) (by simpa using hv)
  obtain ⟨k1, k2⟩ := h 0 x v rfl rfl
  have hb1 := hb.1
  unfold isByte at hb1
  split at hb1
  ·rename_i n
   rw [Bool.and_eq_true, decide_eq_true_eq, decide_eq_true_eq] at hb1
   cases k2
   obtain ⟨m, rfl⟩ := Int.eq_ofNat_of_zero_le hb1.1
   have hm : m < 256 := by have := hb1.2; omega
   have hc : ((UInt8.ofNat m).toNat : Int) = (m : Int) := by
    rw [UInt8.toNat_ofNat']
    congr 1
    exact Nat.mod_eq_of_lt hm
   exact ⟨UInt8.ofNat m :: l, by rw [List.map_cons, ← h1, hc], by rw [List.map_cons, ← h2, hc]⟩
  ·cases hb1
theorem bstr_ok (hl : layB C = true) (hP : C.P = Tryz.prog) {args : List AV} {vals : Array Value} {q : AV × List Blk × List Nat} {o : Oper} (hu5 : C.und 5 = some (.int .u8)) (hoff : pty C 114 [1] = some 112 ∧ poff C 114 [1] = 1 ∧ C.sz 112 = 1) (ho : slotsOf o.op = 8) (hs : Sim C F σ S w) (hsl : ∀ j, slot ≤ j → j < slot + 8 → Slot σ S j)
  (hn : vals.size = args.length) (hv : ∀ (j : Nat) a v, args[j]? = some a → vals[j]? = some v → VR C w F σ a v) (h : bstrD S slot args = some (true, q)) : Calls C.P 52 vals w fun e w' => ∃ val, e = .returned val ∧ Post C o F σ S w slot q.1 q.2.1 q.2.2 val w' := by
 rw [hP]
 have hsz5 : C.sz 5 = 1 := lay_one hl hu5 (by simp) (by simp)
 have h8 : isU8 C 5 = true := by unfold isU8; rw [hu5]
 unfold bstrD at h
 split at h <;> try (cases h; done)
 rename_i id
 split at h <;> try (cases h; done)
 rename_i T a0 buf hS
 have hq := ite_some h
 clear h
 obtain ⟨rfl, h⟩ := hq
 obtain ⟨v0, rfl, g0⟩ : ∃ v0, vals = #[v0] ∧ VR C w F σ (.p id []) v0 := by
  obtain ⟨l⟩ := vals
  match l, hn with
  | [a], _ => exact ⟨a, rfl, hv 0 _ a rfl rfl⟩
 have r0 := g0.one_inv (by simp) (by simp) (by simp)
 have hb := hs.blk id
 rw [hS] at hb
 have hlv : live S id := by unfold live; rw [hS]; simp
 cases r0 with
 | pa h1 => rw [h1] at hb; exact hb.elim
 | p h1 h2 =>
 rename_i b T2 T3
 rw [h1] at hb
 obtain ⟨rfl, hshv, cur, t, hh, hrr⟩ := hb
 have hblt : b < w.heap.size := heap_lt hh
 obtain ⟨cs', p1, p2, p3, p4⟩ := path_at hl [1] _ _ _ cur.toList hshv hrr hoff.1
 rw [hoff.2.1, hoff.2.2] at p3 p4
 have hgp : getPath (AV.g [a0, buf]) [1] = buf := rfl
 rw [hgp] at p1 p2
 have hcell : ∀ v, cs' = [v] → w.cell? ⟨b, 1, none⟩ = some v := fun v hv' => by
  rw [hv'] at p4
  have := congrArg (·[0]?) p4
  simp only [List.getElem?_cons_zero] at this
  rw [List.getElem?_take_of_lt (by omega), List.getElem?_drop, Nat.add_zero, Array.getElem?_toList] at this
  simp [World.cell?, hh, this.symm]
 show Calls Tryz.prog 52 #[.pointer (some ⟨b, poff C 114 [], none⟩)] w _
 have hp0 : poff C 114 [] = 0 := rfl
 rw [hp0]
 split at h <;> try (cases h; done)
 ·simp only [Option.some.injEq, Prod.mk.injEq, true_and] at h
  subst h
  cases p1
  refine (str_zero b 0 none w (hcell _ rfl) (.inl ⟨rfl, rfl⟩)).mono ?_
  rintro e w' ⟨rfl, rfl⟩
  refine ⟨_, rfl, ?_⟩
  exact hs.post_left (slot := slot) (o := o) (ks := [id]) (s := ⟨#[]⟩) (w' := w.drew) (b := w.heap.size) (Turned.drew _) (.inl (Nat.le_refl _))
 ·rename_i e id2
  split at h <;> try (cases h; done)
  rename_i e3 xs hS2
  simp only [Option.some.injEq, Prod.mk.injEq] at h
  obtain ⟨hq, h⟩ := h
  have hq := of_decide_eq_true hq
  obtain ⟨rfl, hlen, hby⟩ := hq
  subst h
  dsimp only
  have hlv2 : live S id2 := by unfold live; rw [hS2]; simp
  have hb2 := hs.blk id2
  rw [hS2] at hb2
  cases p1 with
  | w0 k1 k2 =>
   rw [k1] at hb2
   have hx0 : xs = [] := by
    cases xs with
    | nil => rfl
    | cons x xs => cases hb2
   subst hx0
   obtain rfl := k2 h8
   refine (str_zero b 0 none w (hcell _ rfl) (.inl ⟨rfl, rfl⟩)).mono ?_
   rintro e w' ⟨rfl, rfl⟩
   exact ⟨_, rfl, hs.post_left (b := w.heap.size) (Turned.drew _) (.inl (Nat.le_refl _))⟩
  | w k1 k2 k3 =>
   rename_i g o1 n c cap
   rw [k1] at hb2
   obtain ⟨rfl, rfl, hA⟩ := hb2
   obtain ⟨curv, tv, vsv, hhv, ht8, hszv, hcv, hvl, hvcell, hvone, hvr⟩ := hA.single hsz5
   obtain rfl := ht8 h8
   have hsh : w.shape? g = some (5, curv.size) := by simp [World.shape?, hhv]
   have hbk2 : (σ id2).blk = some g := by rw [k1]; rfl
   -- the bytes
   obtain ⟨l, rfl, hlv⟩ : ∃ l : List UInt8, xs = l.map (fun c => AV.i .u8 (c.toNat : Int)) ∧ vsv = l.map (fun c => Value.int .u8 (c.toNat : Int)) := bytes_of hu5 hvl hby hvr
   have hll : (l.map (fun c => AV.i .u8 (c.toNat : Int))).length = l.length := by simp
   rw [hll] at hlen k2
   have hc1 := hcell _ rfl
   rw [hll] at hc1
   rw [bytesOf_eq]
   by_cases h0 : l = []
   ·subst h0
    by_cases hc0 : cap = 0
    ·subst hc0
     refine (str_new b g o1 curv.size w hc1 hblt hsh).mono ?_
     rintro e w' ⟨rfl, ht⟩
     exact ⟨_, rfl, hs.post_left ht (.inl (Nat.le_refl _))⟩
    ·refine (str_zero b cap _ w hc1 (.inr ⟨_, rfl, hc0⟩)).mono ?_
     rintro e w' ⟨rfl, rfl⟩
     exact ⟨_, rfl, hs.post_left (b := w.heap.size) (Turned.drew _) (.inl (Nat.le_refl _))⟩
   ·refine (str_row b g o1 curv.size cap l w hc1 h0 k2 (by omega) hsh (by simp at hcv; omega) fun j x hx => ?_).mono ?_
    ·have := hvcell j (.int .u8 x.toNat) (by rw [hlv, List.getElem?_map, hx]; rfl)
     simpa [World.cell?, hhv] using this
    ·rintro e w' ⟨rfl, rfl⟩
     exact ⟨_, rfl, hs.post_left ((Turned.drew _).trans Turned.freeze) (.inr ⟨id2, by simp, hlv2, hbk2⟩)⟩
end
end Go.Proofs.YteklakapimggeaaGreatDoor.Den
namespace Go.Proofs.YteklakapimggeaaGreatDoor.Den
open Go
def itoaD : List AV → Option (List AV)
 | [.i k n] => if k = .i64 ∧ -9223372036854775808 ≤ n ∧ n ≤ 9223372036854775807 then some [.s ⟨(Lib.itoa n).toArray⟩] else none
 | _ => none
def ixbD : List AV → Option (List AV)
 | [.s s, .i k c] => if k = .u8 then some [.i .i64 (Lib.indexByte s.data.toList c.toNat.toUInt8)] else none
 | _ => none
def itmOf (a : AV) : Int × Int := ((a.fld 0).int, (a.fld 1).int)
def itemAV (q : Int × Int) : AV := .g [.i .i64 q.1, .i .i64 q.2]
def cmpI2 (a b : Int) : Int := if a < b then -1 else if b < a then 1 else 0
def ordI (x y : Int × Int) : Int := if cmpI2 x.1 y.1 ≠ 0 then cmpI2 x.1 y.1 else cmpI2 x.2 y.2
def sortL (xs : List AV) : List AV := ((xs.map itmOf).mergeSort fun x y => !decide (ordI y x < 0)).map itemAV
def sortD : List AV → Option (List AV)
 | [.l e xs, .fn f [] []] => if e = 43 ∧ f = 88 ∧ xs.length < 4611686018427387904 then some [.l e (sortL xs)] else none
 | _ => none
def precOf (t : Int) : List AV → Int
 | [] => 0
 | x :: xs => if (xs.any fun y => decide (y.int ≤ t)) = true then precOf t xs else if x.int ≤ t then x.int else 0
def precD : List AV → Option (List AV)
 | [.l e xs, .i k t] => if e = 3 ∧ k = .i64 ∧ xs.length ≤ 4096 then some [.i .i64 (precOf t xs)] else none
 | _ => none
def pow10B : Nat := 0
end Go.Proofs.YteklakapimggeaaGreatDoor.Den
namespace Go.Proofs.YteklakapimggeaaGreatDoor.Den
open Go Go.Proofs
set_option linter.unusedVariables false
set_option linter.unusedSimpArgs false
structure Kept (w w' : World) : Prop where
 os : w'.os = w.os
 tape : w'.tape = w.tape
 output : w'.output = w.output
 drawn : w.drawn ≤ w'.drawn
 size : w.heap.size ≤ w'.heap.size
 keep : ∀ b, b < w.heap.size → w'.heap[b]? = w.heap[b]?
theorem Kept.refl (w : World) : Kept w w := ⟨rfl, rfl, rfl, Nat.le_refl _, Nat.le_refl _, fun _ _ => rfl⟩
theorem Kept.grown (w : World) (k : Nat) (os : Array Obj) : Kept w (Go.Sort.grow (w.drewN k) os) := by
 refine ⟨rfl, rfl, rfl, Nat.le_add_right _ _, ?_, fun b hb => ?_⟩
 ·show w.heap.size ≤ (w.heap ++ os).size
  simp
 ·show (w.heap ++ os)[b]? = _
  rw [Array.getElem?_append, if_pos hb]
theorem Kept.form {w w' : World} (h : Kept w w') : ∃ q os, w' = Go.Sort.grow (w.drewN q) os := by
 refine ⟨w'.drawn - w.drawn, w'.heap.extract w.heap.size w'.heap.size, ?_⟩
 obtain ⟨h1, h2, h3, h4, h5, h6⟩ := h
 have hh : w'.heap = w.heap ++ w'.heap.extract w.heap.size w'.heap.size := by
  apply Array.ext_getElem?
  intro i
  rw [Array.getElem?_append]
  split
  ·rename_i hi
   exact h6 i hi
  ·rename_i hi
   rw [Array.getElem?_extract]
   by_cases q : i < w'.heap.size
   ·rw [if_pos (by omega)]
    congr 1
    omega
   ·rw [if_neg (by omega), Array.getElem?_eq_none (by omega)]
 cases w'
 cases w
 simp only [Go.Sort.grow, World.drewN] at *
 subst h1 h2 h3
 rw [← hh]
 congr 1
 omega
section
variable {C : Cfg} {F0 : Nat → Prop} {σ0 : Sig} {S0 : List Blk} {w w' : World}
theorem Ends.plain {n : FuncId} {f : Func} {x : AV} {T : TypeId} {val : Value} (hT : f.resultTypes = #[T]) (hre : refE C 0 (C.pm n) (parL f) = []) (hrm : (C.rm n).getD 0 0 = 0) (hs : Sim C F0 σ0 S0 w) (hS : ∀ id, ¬ live S0 id) (hk : Kept w w') (hx : ∀ σ2, VR C w' F0 σ2 (dat C T x) val) : Ends C n f [x] F0 σ0 S0 w val w' := by
 refine ⟨F0, σ0, S0, [val], [[]], [], [], hs.ext hk.size hk.keep, ⟨hk.os, hk.tape, hk.output, .inr hk.drawn, hk.size, fun b hb _ => hk.keep b hb, fun _ h => h, fun _ h => .inl h, fun id b h1 h2 => .inr ⟨id, h1, h2⟩⟩, rfl, rfl, by simp [hT, hre], fun j m T' y pls v hj hy hp hv => ?_, .nil, rfl, fun k T' a pls hk' => by rw [hre] at hk'; simp at hk', by simp [hT, oneV]⟩
 cases j with
 | succ j => simp at hy
 | zero =>
  simp only [List.getElem?_cons_zero, Option.some.injEq] at hy hp hv
  subst hy hp hv
  rw [hre, hT] at hj
  simp [rmL] at hj
  obtain ⟨rfl, rfl⟩ := hj
  rw [more_nil]
  rw [List.getD_eq_getElem?_getD] at hrm
  exact layData (by rw [hrm]; simp) hx
end
end Go.Proofs.YteklakapimggeaaGreatDoor.Den
namespace Go.Proofs.YteklakapimggeaaGreatDoor.Den
open Go Go.Proofs Go.Shelf Go.RowKit Go.Lib Go.Sort
set_option linter.unusedVariables false
set_option linter.unusedSimpArgs false
section
variable {C : Cfg}
theorem one_val {vals : Array Value} {n : Nat} (h : vals.size = n) (hn : n = 1) : ∃ v, vals = #[v] := by
 obtain ⟨l⟩ := vals
 match l, h with
 | [v], _ => exact ⟨v, rfl⟩
 | [], h => simp [hn] at h
 | _ :: _ :: _, h => simp at h; omega
theorem two_val {vals : Array Value} {n : Nat} (h : vals.size = n) (hn : n = 2) : ∃ v u, vals = #[v, u] := by
 obtain ⟨l⟩ := vals
 match l, h with
 | [v, u], _ => exact ⟨v, u, rfl⟩
 | [], h => simp at h; omega
 | [_], h => simp at h; omega
 | _ :: _ :: _ :: _, h => simp at h; omega
theorem tab_is {F : Nat → Prop} {σ : Sig} {S : List Blk} {w : World} (hP : C.P = Tryz.prog) (ht : (pow10B, (Lib.pow10Tab.map fun z => Value.int .u64 z).toArray) ∈ C.tb) (hs : Sim C F σ S w) : Lib.TabIs Tryz.prog w "internal/strconv.uint64pow10" .u64 Lib.pow10Tab := by
 obtain ⟨_, t, fr, h⟩ := hs.tab _ ht
 have hg : Tryz.prog.globalNamed "internal/strconv.uint64pow10" = some pow10B := by kernel_rfl
 unfold Lib.TabIs World.var?
 rw [hg]
 dsimp only [Option.bind_some]
 rw [h]
theorem itoa_ok (hP : C.P = Tryz.prog) (ht : (pow10B, (Lib.pow10Tab.map fun z => Value.int .u64 z).toArray) ∈ C.tb) (hpm : C.pm 51 = []) (hrm : C.rm 51 = []) (h3 : C.und 3 = some (.int .i64)) (h9 : C.und 9 = some .string) (hd : C.P.depth = C.P.depth - 1 + 1) : CalleeAt C 51 itoaD := by
 intro f xs o hf hb hn hg F0 σ0 w vals hs hv hlen hvr
 unfold itoaD at hg
 split at hg
 ·rename_i k n
  split at hg
  ·rename_i hc
   obtain ⟨rfl, b1, b2⟩ := hc
   obtain rfl := Option.some.inj hg
   rw [hP] at hf
   rw [Tryz.func51] at hf
   obtain rfl := Option.some.inj hf
   have he : enterL C 0 (C.pm 51) (parL Tryz.f51) [.i .i64 n] = ([.i .i64 n], []) := by
    have e1 : view C C.P.depth 3 (.i .i64 n) = .i .i64 n := by rw [hd]; simp [view, h3, AV.int]
    have e2 : parL Tryz.f51 = [3] := rfl
    rw [hpm, e2]
    simp [enterL, lay, dat, h3, e1]
   rw [he] at hs hlen hvr ⊢
   obtain ⟨v, rfl⟩ := one_val hv rfl
   have hv1 := (hvr 0 _ v rfl rfl).i_inv
   subst hv1
   rw [hP]
   refine (Tryz.strconv_Itoa n b1 b2 w (tab_is hP ht hs)).mono fun e w' hq => ?_
   obtain ⟨rfl, k, os, rfl⟩ := hq
   refine ⟨_, rfl, Ends.plain (T := 9) rfl ?_ (by rw [hrm]; rfl) hs (fun id h => h rfl) (.grown w k os) fun σ2 => ?_⟩
   ·rw [hpm]
    rfl
   ·have e1 : view C C.P.depth 9 (.s ⟨(Lib.itoa n).toArray⟩) = .s ⟨(Lib.itoa n).toArray⟩ := by rw [hd]; simp [view, h9, AV.str]
    have e2 : dat C 9 (.s ⟨(Lib.itoa n).toArray⟩) = .s ⟨(Lib.itoa n).toArray⟩ := by simp [dat, h9, e1]
    rw [e2]
    exact .one (by simp) .s
  ·cases hg
 ·cases hg
theorem ixb_ok (hP : C.P = Tryz.prog) (hpm : C.pm 98 = []) (hrm : C.rm 98 = []) (h3 : C.und 3 = some (.int .i64)) (h5 : C.und 5 = some (.int .u8)) (h9 : C.und 9 = some .string) (hd : C.P.depth = C.P.depth - 1 + 1) : CalleeAt C 98 ixbD := by
 intro f xs o hf hb hn hg F0 σ0 w vals hs hv hlen hvr
 unfold ixbD at hg
 split at hg
 ·rename_i s k c
  split at hg
  ·rename_i hc
   subst hc
   obtain rfl := Option.some.inj hg
   rw [hP] at hf
   rw [Tryz.func98] at hf
   obtain rfl := Option.some.inj hf
   have he : enterL C 0 (C.pm 98) (parL Tryz.f98) [.s s, .i .u8 c] = ([.s s, .i .u8 c], []) := by
    have e1 : view C C.P.depth 5 (.i .u8 c) = .i .u8 c := by rw [hd]; simp [view, h5, AV.int]
    have e3 : view C C.P.depth 9 (.s s) = .s s := by rw [hd]; simp [view, h9, AV.str]
    have e2 : parL Tryz.f98 = [9, 5] := rfl
    rw [hpm, e2]
    simp [enterL, lay, dat, h5, h9, e1, e3]
   rw [he] at hs hlen hvr ⊢
   obtain ⟨v, u, rfl⟩ := two_val hv rfl
   have hv1 := (hvr 0 _ v rfl rfl).s_inv
   have hv2 := (hvr 1 _ u rfl rfl).i_inv
   subst hv1 hv2
   rw [hP]
   refine (Tryz.strings_IndexByte s c w).mono fun e w' hq => ?_
   obtain ⟨rfl, rfl⟩ := hq
   refine ⟨_, rfl, Ends.plain (T := 3) rfl ?_ (by rw [hrm]; rfl) hs (fun id h => h rfl) (.refl w') fun σ2 => ?_⟩
   ·rw [hpm]
    rfl
   ·have e1 : ∀ n, view C C.P.depth 3 (.i .i64 n) = .i .i64 n := fun n => by rw [hd]; simp [view, h3, AV.int]
    have e2 : ∀ n, dat C 3 (.i .i64 n) = .i .i64 n := fun n => by simp [dat, h3, e1]
    rw [e2]
    exact .one (by simp) .i
  ·cases hg
 ·cases hg
end
end Go.Proofs.YteklakapimggeaaGreatDoor.Den
namespace Go.Proofs.YteklakapimggeaaGreatDoor.Den
open Go Go.Proofs Go.RowKit Go.Deep Go.ChangeShapes Go.WideShapes Go.ChangeAt
set_option linter.unusedVariables false
set_option linter.unusedSimpArgs false
def dataT (C : Cfg) : Nat → TypeId → Bool
 | 0, _ => false
 | d + 1, T => (C.P.cellsOf T == C.sz T) && (match C.und T with
  | some (.int _) => true
  | some .bool => true
  | some .string => true
  | some (.slice e) => dataT C d e && decide (0 < C.sz e)
  | some (.struct fs) => !C.raw T && fs.toList.all fun f => dataT C d f.type
  | some (.array _ e) => dataT C d e
  | _ => false)
def cutL : List Nat → List Value → List (List Value)
 | [], _ => []
 | n :: ns, cs => cs.take n :: cutL ns (cs.drop n)
theorem cutL_len : ∀ (ns : List Nat) (cs : List Value), (cutL ns cs).length = ns.length
 | [], cs => rfl
 | n :: ns, cs => by rw [cutL, List.length_cons, cutL_len, List.length_cons]
theorem cutL_flat : ∀ (ns : List Nat) (cs : List Value), cs.length = ns.sum → (cutL ns cs).flatten = cs
 | [], cs, h => by simp at h; simp [cutL, h]
 | n :: ns, cs, h => by
  rw [List.sum_cons] at h
  rw [cutL, List.flatten_cons, cutL_flat ns (cs.drop n) (by simp; omega), List.take_append_drop]
theorem cutL_at : ∀ (ns : List Nat) (cs : List Value) (j : Nat) (c : List Value), (cutL ns cs)[j]? = some c → c = (cs.drop (ns.take j).sum).take (ns.getD j 0)
 | [], cs, j, c, h => by simp [cutL] at h
 | n :: ns, cs, 0, c, h => by simp [cutL] at h; simp [← h]
 | n :: ns, cs, j + 1, c, h => by
  rw [cutL, List.getElem?_cons_succ] at h
  rw [cutL_at ns _ j c h, List.drop_drop]
  simp [List.take_succ_cons]
section
variable {C : Cfg} {H : Type} {enc : TypeId × Value → H} {W : World}
theorem many_open {F : Nat → Prop} (szs : List Nat) (cs : List Value) (hlen : cs.length = szs.sum) (Q : Nat → AV → Prop) (h : ∀ j, j < szs.length → ∃ a, Q j a ∧ R C W F noSig a ((cs.drop (szs.take j).sum).take (szs.getD j 0))) :
  ∃ ls : List AV, ls.length = szs.length ∧ (∀ j a, ls[j]? = some a → Q j a) ∧ R C W F noSig (.g ls) cs := by
 obtain ⟨V, hV⟩ := choose_lt (p := fun j a => Q j a ∧ R C W F noSig a ((cs.drop (szs.take j).sum).take (szs.getD j 0))) h
 have hat : ∀ j a, ((List.range szs.length).map V)[j]? = some a → j < szs.length ∧ a = V j := fun j a ha => by
  have hj := getElem?_lt ha
  simp at hj
  rw [List.getElem?_map, List.getElem?_range hj] at ha
  exact ⟨hj, by simpa using ha.symm⟩
 refine ⟨(List.range szs.length).map V, by simp, fun j a ha => ?_, ?_⟩
 ·obtain ⟨hj, rfl⟩ := hat j a ha
  exact (hV j hj).1
 ·have := R.g (C := C) (w := W) (F := F) (σ := noSig) (fs := (List.range szs.length).map V) (cutL szs cs) (by simp [cutL_len]) fun j a c ha hc => by
   obtain ⟨hj, rfl⟩ := hat j a ha
   rw [cutL_at szs cs j c hc]
   exact (hV j hj).2
  rwa [cutL_flat szs cs hlen] at this
theorem slice_open {t e : TypeId} (Q : AV → Prop) (hu : C.P.underlying t = some (.slice e)) (hsz : C.P.cellsOf e = C.sz e) (hpos : 0 < C.sz e)
  (hel : ∀ n cs x, DataW.trod enc C.P W 0 (fun _ => true) true n e cs = some x → ∃ q, Q q ∧ R C W (fun b => b < W.heap.size) noSig q cs)
  (hwt : ∀ q, Q q → Wt C e q) {n : Nat} {cs : List Value} {x : DataW H × List MemPlace} (h : DataW.trod enc C.P W 0 (fun _ => true) true n t cs = some x) :
  ∃ qs : List AV, R C W (fun b => b < W.heap.size) noSig (.l e qs) cs := by
 rcases Go.Deep.open_slice hu h with ⟨rfl, _⟩ | ⟨x, len, cap, m, n, D, Pl, rfl, _, hl, _, hm, _, hx⟩
 ·exact ⟨[], .l0⟩
 ·by_cases h0 : len = 0
  ·subst h0
   exact ⟨[], .l0⟩
  have hlm : len ≤ m := by rw [hm]; split <;> omega
  have each : ∀ i, i < len → ∃ q : AV × List Value, (Q q.1 ∧ R C W (fun b => b < W.heap.size) noSig q.1 q.2) ∧ q.2.length = C.sz e ∧ ∀ j, j < C.sz e → W.cell? ((x.add (i * C.sz e)).add j) = q.2[j]? := fun i hi => by
   obtain ⟨cs', h1, h2⟩ := hx i (by omega)
   rw [hsz] at h1
   obtain ⟨_, k2, k3⟩ := World.cells?_some h1
   obtain ⟨q, hq⟩ := hel _ _ _ h2
   exact ⟨(q, cs'), hq, k2, k3⟩
  obtain ⟨V, hV⟩ := choose_lt (p := fun i (q : AV × List Value) => (Q q.1 ∧ R C W (fun b => b < W.heap.size) noSig q.1 q.2) ∧ q.2.length = C.sz e ∧ ∀ j, j < C.sz e → W.cell? ((x.add (i * C.sz e)).add j) = q.2[j]?) each
  obtain ⟨g1, g2, g3⟩ := hV 0 (by omega)
  have gc := g3 0 hpos
  rw [Nat.zero_mul, List.getElem?_eq_getElem (by omega)] at gc
  have gx : (x.add 0).add 0 = x := by simp [Addr.add]
  rw [gx] at gc
  have hsp := World.cell?_spot gc
  obtain ⟨b, o, sp⟩ := x
  dsimp only at hsp
  subst hsp
  have hb : b < W.heap.size := by
   unfold World.cell? at gc
   apply Classical.byContradiction
   intro hn
   rw [show W.heap[b]? = none from by simp; omega] at gc
   simp at gc
  refine ⟨(List.range len).map fun i => (V i).1, ?_⟩
  have hlen : ((List.range len).map fun i => (V i).1).length = len := by simp
  have hat : ∀ j a, ((List.range len).map fun i => (V i).1)[j]? = some a → j < len ∧ a = (V j).1 := fun j a ha => by
   have hj := getElem?_lt ha
   rw [hlen] at hj
   rw [List.getElem?_map, List.getElem?_range hj] at ha
   exact ⟨hj, by simpa using ha.symm⟩
  have key : R C W (fun b => b < W.heap.size) noSig (.l e ((List.range len).map fun i => (V i).1)) [.slice (some ⟨b, o, none⟩) ((List.range len).map fun i => (V i).1).length cap] := by
   refine .l (fun j => (V j).2) hb (by omega) (fun j a ha => ?_) (fun j a ha => ?_)
   ·obtain ⟨hj, rfl⟩ := hat j a ha
    obtain ⟨v1, v2, v3⟩ := hV j hj
    refine ⟨hwt _ v1.1, fun i v hv => ?_, v2⟩
    have hi := getElem?_lt hv
    have := v3 i (by omega)
    rw [Addr.add_mid, Addr.add_mid] at this
    rw [this, hv]
   ·obtain ⟨hj, rfl⟩ := hat j a ha
    exact (hV j hj).1.2
  rw [hlen] at key
  exact key
theorem any_open (hl : layB C = true) : ∀ (d : Nat) (T : TypeId), d ≤ C.P.depth → dataT C d T = true → ∀ (n : Nat) (cs : List Value) (x : DataW H × List MemPlace), DataW.trod enc C.P W 0 (fun _ => true) true n T cs = some x →
  ∃ a, (Sh C T a ∧ ∀ k, view C (k + d) T a = a) ∧ R C W (fun b => b < W.heap.size) noSig a cs
 | 0, T, _, h => by simp [dataT] at h
 | d + 1, T, hd, h => by
  intro n cs x hx
  have ih : ∀ T, dataT C d T = true → ∀ {n : Nat} {cs : List Value} {x : DataW H × List MemPlace}, DataW.trod enc C.P W 0 (fun _ => true) true n T cs = some x → ∃ a, (Sh C T a ∧ ∀ k, view C (k + d) T a = a) ∧ R C W (fun b => b < W.heap.size) noSig a cs := fun T h' => fun hx => any_open hl d T (by omega) h' _ _ _ hx
  rw [dataT, Bool.and_eq_true] at h
  obtain ⟨hc, h⟩ := h
  have hc : C.P.cellsOf T = C.sz T := rfl
  split at h
  ·rename_i k hu
   obtain ⟨z, rfl, _, _⟩ := DataW.trod_int (und_P hu) hx
   exact ⟨.i k z, ⟨.i hu, fun m => by rw [← Nat.add_assoc, view, hu]; rfl⟩, .i⟩
  ·rename_i hu
   obtain ⟨z, rfl, _⟩ := DataW.trod_bool (und_P hu) hx
   exact ⟨.b z, ⟨.b hu, fun m => by rw [← Nat.add_assoc, view, hu]; rfl⟩, .b⟩
  ·rename_i hu
   obtain ⟨z, rfl, _, _⟩ := DataW.trod_string (und_P hu) hx
   exact ⟨.s z, ⟨.s hu, fun m => by rw [← Nat.add_assoc, view, hu]; rfl⟩, .s⟩
  ·rename_i e hu
   rw [Bool.and_eq_true, decide_eq_true_eq] at h
   have hce : C.P.cellsOf e = C.sz e := rfl
   obtain ⟨qs, hq⟩ := slice_open (fun a => Sh C e a ∧ ∀ k, view C (k + d) e a = a) (und_P hu) hce h.2 (fun n cs x hx => ih e h.1 hx) (fun q hq => ⟨hq.1, by have := hq.2 (C.P.depth - d); rwa [Nat.sub_add_cancel (by omega)] at this⟩) hx
   exact ⟨.l e qs, ⟨.l hu, fun m => by rw [← Nat.add_assoc, view, hu]; rfl⟩, hq⟩
  ·rename_i fs hu
   rw [Bool.and_eq_true] at h
   have hraw : C.raw T = false := by simpa using h.1
   have hfs := List.all_eq_true.mp h.2
   obtain ⟨xs, n', _, _, hcl, hxl, hf⟩ := DataW.trod_struct (und_P hu) hx
   obtain ⟨l1, l2⟩ := lay_struct hl hu
   have hce : ∀ f ∈ fs.toList, C.P.cellsOf f.type = C.sz f.type := fun f hf => rfl
   obtain ⟨ls, h1, h2, h3⟩ := many_open (C := C) (W := W) (F := fun b => b < W.heap.size) (fs.toList.map fun f => C.sz f.type) cs (by rw [hcl, hc, l1]) (fun j a => ∀ f, fs[j]? = some f → Sh C f.type a ∧ ∀ k, view C (k + d) f.type a = a) fun j hj => by
    have hj' : j < fs.size := by simpa using hj
    have hfj : fs[j]? = some fs[j] := Array.getElem?_eq_getElem hj'
    have hm : fs[j] ∈ fs.toList := by simp
    have ht := hf j _ hfj
    rw [hce _ hm, l2 j _ hfj] at ht
    obtain ⟨y, hy⟩ := getElem?_of_lt (l := xs) (j := j) (by omega)
    rw [hy] at ht
    obtain ⟨a, ha, hr⟩ := ih _ (hfs _ hm) ht
    refine ⟨a, fun f hf' => ?_, ?_⟩
    ·rw [hfj] at hf'
     cases hf'
     exact ha
    ·rw [← List.map_take, List.getD_eq_getElem?_getD, List.getElem?_map, Array.getElem?_toList, hfj]
     exact hr
   have h1' : ls.length = fs.size := by simpa using h1
   refine ⟨.g ls, ⟨.g hu h1' fun j f a hf' ha => (h2 j a ha f hf').1, fun m => ?_⟩, h3⟩
   rw [← Nat.add_assoc, view, hu]
   dsimp only
   rw [hraw]
   dsimp only
   congr 1
   apply List.ext_getElem?
   intro j
   by_cases hj : j < fs.size
   ·have hfj : fs[j]? = some fs[j] := Array.getElem?_eq_getElem hj
    obtain ⟨a, ha⟩ := getElem?_of_lt (l := ls) (j := j) (by omega)
    rw [List.getElem?_map, List.getElem?_zipIdx, Array.getElem?_toList, hfj, ha]
    simp only [Option.map_some, AV.fld, List.getD_eq_getElem?_getD, Nat.zero_add]
    rw [ha]
    simpa using (h2 j a ha _ hfj).2 m
   ·rw [List.getElem?_eq_none (by simp; omega), List.getElem?_eq_none (by omega)]
  ·rename_i m e hu
   obtain ⟨xs, n', _, _, hcl, hxl, hf⟩ := DataW.trod_array (und_P hu) hx
   have l1 := lay_array hl hu
   have hce : C.P.cellsOf e = C.sz e := rfl
   obtain ⟨ls, h1, h2, h3⟩ := many_open (C := C) (W := W) (F := fun b => b < W.heap.size) (List.replicate m (C.sz e)) cs (by rw [hcl, hc, l1]; simp) (fun j a => Sh C e a ∧ ∀ k, view C (k + d) e a = a) fun j hj => by
    have hj' : j < m := by simpa using hj
    have ht := hf j hj'
    rw [hce] at ht
    obtain ⟨y, hy⟩ := getElem?_of_lt (l := xs) (j := j) (by omega)
    rw [hy] at ht
    obtain ⟨a, ha, hr⟩ := ih _ h ht
    refine ⟨a, ha, ?_⟩
    rw [List.take_replicate, List.sum_replicate_nat, List.getD_eq_getElem?_getD, List.getElem?_replicate, if_pos hj', Nat.min_eq_left (by omega)]
    exact hr
   have h1' : ls.length = m := by simpa using h1
   refine ⟨.g ls, ⟨.ga hu h1' fun j a ha => (h2 j a ha).1, fun k => ?_⟩, h3⟩
   rw [← Nat.add_assoc, view, hu]
   dsimp only
   congr 1
   apply List.ext_getElem?
   intro j
   by_cases hj : j < m
   ·obtain ⟨a, ha⟩ := getElem?_of_lt (l := ls) (j := j) (by omega)
    rw [List.getElem?_map, List.getElem?_range hj, ha]
    simp only [Option.map_some, AV.fld, List.getD_eq_getElem?_getD]
    rw [ha]
    simpa using (h2 j a ha).2 k
   ·rw [List.getElem?_eq_none (by simp; omega), List.getElem?_eq_none (by omega)]
  ·cases h
end
end Go.Proofs.YteklakapimggeaaGreatDoor.Den
namespace Go.Proofs.YteklakapimggeaaGreatDoor.Den
open Go
set_option linter.unusedVariables false
section
variable {C : Cfg} {k : Nat} {α : Type} {inl : Bool} {n : FuncId} {f : Func} {re : Refs} {df : DF} {rest : List It} {x : X} {fin : Refs → X → Option α}
theorem go_blk {id : Nat} : go C (k + 1) α inl n f re df (.blk id :: rest) x fin = go C k α inl n f re df rest x fin := rfl
theorem go_lp {c : Code} : go C (k + 1) α inl n f re df (.lp c :: rest) x fin = go C k α inl n f re df (.code c :: .lp c :: rest) x fin := rfl
theorem go_skip : go C (k + 1) α inl n f re df (.code .skip :: rest) x fin = go C k α inl n f re df rest x fin := rfl
theorem go_seq {a b : Code} : go C (k + 1) α inl n f re df (.code (.seq a b) :: rest) x fin = go C k α inl n f re df (.code a :: .code b :: rest) x fin := rfl
theorem go_block {id : Nat} {c : Code} : go C (k + 1) α inl n f re df (.code (.block id c) :: rest) x fin = go C k α inl n f re df (.code c :: .blk id :: rest) x fin := rfl
theorem go_cond {c : Operand} {a b : Code} {t : Bool} (h : ev x.env c = .b t) : go C (k + 1) α inl n f re df (.code (.cond c a b) :: rest) x fin = if t = true then go C k α inl n f re df (.code a :: rest) x fin else go C k α inl n f re df (.code b :: rest) x fin := by
 show (match ev x.env c with | .b t => _ | _ => none) = _
 rw [h]
theorem go_exit {id : Nat} {r : List It} (h : exitI id rest = some r) : go C (k + 1) α inl n f re df (.code (.exit id) :: rest) x fin = go C k α inl n f re df r x fin := by
 show (match exitI id rest with | some r => _ | none => none) = _
 rw [h]
theorem go_reg {id : Nat} {ops : Array Oper} (h : (if inl = true then none else C.keep n id) = none) (hd : deferO ops.toList = none) : go C (k + 1) α inl n f re df (.code (.region id ops false) :: rest) x fin = regD C (callG C (go C k)) (fun x => go C k α inl n f re df rest x fin) ops false x := by
 show (match (if inl = true then none else C.keep n id) with | none => (match (if false = true then none else deferO ops.toList) with | none => _ | some c => _) | some ks => _) = _
 rw [h]
 dsimp only
 rw [if_neg (by simp), hd]
end
section
variable {β : Type}
def forceN (n : Nat) (K : Nat → β) : β := match n with
 | 0 => K 0
 | p + 1 => K (p + 1)
theorem forceN_eq (n : Nat) (K : Nat → β) : forceN n K = K n := by cases n <;> rfl
def forceI (n : Int) (K : Int → β) : β := match n with
 | .ofNat m => forceN m fun m => K (.ofNat m)
 | .negSucc m => forceN m fun m => K (.negSucc m)
theorem forceI_eq (n : Int) (K : Int → β) : forceI n K = K n := by
 cases n <;> simp only [forceI, forceN_eq]
def forceK (k : IntKind) (K : IntKind → β) : β := match k with
 | .i64 => K .i64
 | .u8 => K .u8
 | .u64 => K .u64
 | .u32 => K .u32
 | .i32 => K .i32
 | k => K k
theorem forceK_eq (k : IntKind) (K : IntKind → β) : forceK k K = K k := by cases k <;> rfl
def forceBo (b : Bool) (K : Bool → β) : β := match b with
 | true => K true
 | false => K false
theorem forceBo_eq (b : Bool) (K : Bool → β) : forceBo b K = K b := by cases b <;> rfl
def forceL {γ : Type} (f : γ → (γ → β) → β) : List γ → (List γ → β) → β
 | [], K => K []
 | a :: ls, K => f a fun a => forceL f ls fun ls => K (a :: ls)
theorem forceL_eq {γ : Type} {f : γ → (γ → β) → β} (hf : ∀ a K, f a K = K a) : ∀ (ls : List γ) (K : List γ → β), forceL f ls K = K ls
 | [], K => rfl
 | a :: ls, K => by
  show f a _ = _
  rw [hf]
  exact forceL_eq hf ls _
def forceU (c : UInt8) (K : UInt8 → β) : β := forceN c.toNat fun n => K (UInt8.ofNat n)
theorem forceU_eq (c : UInt8) (K : UInt8 → β) : forceU c K = K c := by
 unfold forceU
 rw [forceN_eq]
 simp
def forceS (s : ByteArray) (K : ByteArray → β) : β := forceL forceU s.data.toList fun l => K ⟨⟨l⟩⟩
theorem forceS_eq (s : ByteArray) (K : ByteArray → β) : forceS s K = K s := by
 unfold forceS
 rw [forceL_eq forceU_eq]
def forceA : Nat → AV → (AV → β) → β
 | 0, a, K => K a
 | d + 1, a, K => match a with
  | .u => K .u
  | .i k n => forceK k fun k => forceI n fun n => K (.i k n)
  | .b x => forceBo x fun x => K (.b x)
  | .s x => forceS x fun x => K (.s x)
  | .g fs => forceL (forceA d) fs fun fs => K (.g fs)
  | .t vs => forceL (forceA d) vs fun vs => K (.t vs)
  | .l e xs => forceN e fun e => forceL (forceA d) xs fun xs => K (.l e xs)
  | .w e id => forceN e fun e => forceN id fun id => K (.w e id)
  | .r e id off len => forceN e fun e => forceN id fun id => forceN off fun off => forceN len fun len => K (.r e id off len)
  | .p id path => forceN id fun id => forceL forceN path fun path => K (.p id path)
  | .q id idx path => forceN id fun id => forceN idx fun idx => forceL forceN path fun path => K (.q id idx path)
  | .at T a => forceN T fun T => forceA d a fun a => K (.at T a)
  | .z kind => forceN kind fun kind => K (.z kind)
  | .fn f ls bs => forceN f fun f => forceL (forceA d) ls fun ls => forceL (forceA d) bs fun bs => K (.fn f ls bs)
  | .m id => forceN id fun id => K (.m id)
theorem forceA_eq : ∀ (d : Nat) (a : AV) (K : AV → β), forceA d a K = K a
 | 0, a, K => rfl
 | d + 1, a, K => by
  have ih : ∀ (a : AV) (K : AV → β), forceA d a K = K a := forceA_eq d
  cases a <;> simp only [forceA, forceK_eq, forceI_eq, forceBo_eq, forceS_eq, forceN_eq, forceL_eq ih, forceL_eq forceN_eq, ih]
def forceB (B : Blk) (K : Blk → β) : β := match B with
 | .dead => K .dead
 | .obj T a => forceN T fun T => forceA 20 a fun a => K (.obj T a)
 | .arr e xs => forceN e fun e => forceL (forceA 20) xs fun xs => K (.arr e xs)
 | .map V es => forceN V fun V => forceL (fun q K => forceA 20 q.1 fun a => forceA 20 q.2 fun b => K (a, b)) es fun es => K (.map V es)
theorem forceB_eq (B : Blk) (K : Blk → β) : forceB B K = K B := by
 cases B <;> simp only [forceB, forceN_eq, forceA_eq, forceL_eq (forceA_eq 20)]
 rw [forceL_eq]
 intro a K
 rfl
def forceX (x : X) (K : X → β) : β := forceL (forceA 20) x.env fun env => forceL forceB x.st fun st => K ⟨env, st⟩
theorem forceX_eq (x : X) (K : X → β) : forceX x K = K x := by
 unfold forceX
 rw [forceL_eq (forceA_eq 20), forceL_eq forceB_eq]
end
section
def goodF : List Blk → List Blk → Bool
 | [], _ => true
 | _ :: _, [] => true
 | B :: S, B' :: S' => match B' with
  | .dead => goodF S S'
  | _ => isLive B && goodF S S'
theorem goodF_nil : ∀ (S : List Blk), goodF S [] = true
 | [] => rfl
 | _ :: _ => rfl
theorem goodF_eq : ∀ (S S' : List Blk), goodF S S' = (List.range S.length).all fun id => isLive (S.getD id .dead) || !isLive (S'.getD id .dead)
 | [], S' => rfl
 | B :: S, [] => by
  rw [goodF_nil, eq_comm, List.all_eq_true]
  intro x _
  simp [isLive]
 | B :: S, B' :: S' => by
  rw [List.length_cons, List.range_succ_eq_map, List.all_cons, List.all_map]
  have ih := goodF_eq S S'
  have e : ((fun id => isLive ((B :: S).getD id .dead) || !isLive ((B' :: S').getD id .dead)) ∘ Nat.succ) = fun id => isLive (S.getD id .dead) || !isLive (S'.getD id .dead) := by funext id; simp
  rw [e, ← ih]
  cases B' <;> simp [goodF, isLive]
theorem refs_eq : ∀ (n : Nat) (S' : List Blk), (List.range n).flatMap (fun id => refB (S'.getD id .dead)) = (S'.take n).flatMap refB
 | 0, S' => by simp
 | n + 1, [] => by
  rw [List.take_nil, List.flatMap_nil, List.flatMap_eq_nil_iff]
  intro x _
  rfl
 | n + 1, B :: S' => by
  rw [List.range_succ_eq_map, List.flatMap_cons, List.flatMap_map, List.take_succ_cons, List.flatMap_cons, ← refs_eq n S']
  rfl
def newF (rs : List Nat) : Nat → List Blk → List Nat
 | _, [] => []
 | id, B :: Bs => match B with
  | .dead => newF rs (id + 1) Bs
  | _ => if rs.contains id = true then id :: newF rs (id + 1) Bs else newF rs (id + 1) Bs
theorem newF_eq (rs : List Nat) : ∀ (T : List Blk) (n : Nat), newF rs n T = (List.range' n T.length).filter fun id => isLive (T.getD (id - n) .dead) && rs.contains id
 | [], n => rfl
 | B :: T, n => by
  have ih := newF_eq rs T (n + 1)
  rw [List.length_cons, List.range'_succ, List.filter_cons]
  have e : (List.range' (n + 1) T.length).filter (fun id => isLive ((B :: T).getD (id - n) .dead) && rs.contains id) = (List.range' (n + 1) T.length).filter fun id => isLive (T.getD (id - (n + 1)) .dead) && rs.contains id := by
   refine List.filter_congr fun x hx => ?_
   have := (List.mem_range'_1.mp hx).1
   obtain ⟨y, rfl⟩ : ∃ y, x = n + 1 + y := ⟨x - (n + 1), by omega⟩
   rw [show n + 1 + y - n = y + 1 by omega, show n + 1 + y - (n + 1) = y by omega]
   rfl
  rw [e, ← ih, Nat.sub_self]
  cases B <;> simp [newF, isLive]
def newLF (S S' : List Blk) (ls : List AV) : List Nat :=
 newF (reachL S' 2 (ls.flatMap (refA 40) ++ (S'.take S.length).flatMap refB)) S.length (S'.drop S.length)
theorem newLF_eq (S S' : List Blk) (ls : List AV) : newLF S S' ls = newL S S' ls := by
 unfold newLF newL
 rw [refs_eq, newF_eq]
 generalize reachL S' 2 _ = rs
 dsimp only
 by_cases h : S.length ≤ S'.length
 ·have e : List.range S'.length = List.range S.length ++ List.range' S.length (S'.drop S.length).length := by
   obtain ⟨d, hd⟩ : ∃ d, S'.length = S.length + d := ⟨S'.length - S.length, by omega⟩
   rw [List.length_drop, List.range_eq_range', List.range_eq_range', hd, Nat.add_sub_cancel_left]
   have := List.range'_append_1 (s := 0) (m := S.length) (n := d)
   rw [Nat.zero_add] at this
   exact this.symm
  rw [e, List.filter_append]
  have e1 : (List.range S.length).filter (fun id => decide (S.length ≤ id) && isLive (S'.getD id .dead) && rs.contains id) = [] := by
   rw [List.filter_eq_nil_iff]
   intro x hx
   have := List.mem_range.mp hx
   simp
   omega
  rw [e1, List.nil_append]
  refine List.filter_congr fun x hx => ?_
  have hx1 := (List.mem_range'_1.mp hx).1
  obtain ⟨y, rfl⟩ : ∃ y, x = S.length + y := ⟨x - S.length, by omega⟩
  rw [show S.length + y - S.length = y by omega]
  simp [List.getD_eq_getElem?_getD]
 ·rw [List.drop_eq_nil_of_le (by omega), List.length_nil, eq_comm, List.range'_zero, List.filter_nil, List.filter_eq_nil_iff]
  intro x hx
  have := List.mem_range.mp hx
  simp
  omega
def mapF (ren : Nat → Option Nat) (S' : List Blk) (slot n : Nat) (lv : List Nat) : Nat → List Blk → List Blk → Option (List Blk)
 | _, [], _ => some []
 | id, _ :: S, T => (renB ren (if slot ≤ id ∧ id < slot + n then S'.getD (lv.getD (id - slot) 0) .dead else T.headD .dead)).bind fun b => (mapF ren S' slot n lv (id + 1) S T.tail).bind fun bs => some (b :: bs)
theorem mapF_eq (ren : Nat → Option Nat) (S' : List Blk) (slot n : Nat) (lv : List Nat) : ∀ (S T : List Blk) (id : Nat), (∀ j, T.getD j .dead = S'.getD (id + j) .dead) →
  mapF ren S' slot n lv id S T = mapO (fun id => renB ren (S'.getD (if slot ≤ id ∧ id < slot + n then lv.getD (id - slot) 0 else id) .dead)) (List.range' id S.length)
 | [], T, id, h => rfl
 | B :: S, T, id, h => by
  rw [List.length_cons, List.range'_succ]
  have ih := mapF_eq ren S' slot n lv S T.tail (id + 1) fun j => by
   have := h (j + 1)
   rw [show id + 1 + j = id + (j + 1) by omega, ← this]
   cases T <;> rfl
  have h0 := h 0
  have e : T.headD .dead = S'.getD id .dead := by
   rw [Nat.add_zero] at h0
   rw [← h0]
   cases T <;> rfl
  unfold mapF mapO
  rw [ih, e]
  split <;> rfl
def renumF (S : List Blk) (slot : Nat) (ls : List AV) (S' : List Blk) : Option (List Nat × List Blk) :=
 forceL forceN (newLF S S' ls) fun lv =>
 if lv.length ≤ 8 ∧ goodF S S' = true then
  (mapF (renI S slot lv) S' slot lv.length lv 0 S S').bind fun S2 => some (lv, S2)
 else none
theorem renumF_eq (S : List Blk) (slot : Nat) (ls : List AV) (S' : List Blk) : renumF S slot ls S' = renum S slot ls S' := by
 unfold renumF renum
 rw [forceL_eq forceN_eq, newLF_eq, goodF_eq]
 dsimp only
 split
 ·rename_i h
  rw [mapF_eq _ _ _ _ _ S S' 0 fun j => by rw [Nat.zero_add], ← List.range_eq_range']
 ·rfl
end
section
variable (C : Cfg)
def finF {α : Type} (f : Func) (S : List Blk) (slot : Nat) (x : X) (K : KV α) : Option α :=
 match resL C x.env x.st f.results.toList with
 | none => none
 | some ls => match renumF S slot ls x.st with
  | none => none
  | some q => match mapO (renA (renI S slot q.1) 40) ls with
   | none => none
   | some bs => if ls.length = f.resultTypes.size then K (one bs) q.2 [] else none
theorem finF_eq {α : Type} (f : Func) (S : List Blk) (slot : Nat) (x : X) (K : KV α) : finF C f S slot x K = finI C f S slot x K := by
 unfold finF finI
 simp only [renumF_eq]
 rfl
def callGS (g : GoF) : CallF where
 f := (callG C g).f
 s {α} n f S slot args K := match f.body with
  | none => none
  | some c => if args.length = f.params.size + f.nfree then g α true n f [] [] [.code c] ⟨args ++ List.replicate (f.ntmps - args.length) .u, S⟩ fun _ x => finF C f S slot x K else none
theorem callGS_eq (g : GoF) : callGS C g = callG C g := by
 unfold callGS callG
 simp only [finF_eq]
 rfl
def goS : Nat → GoF
 | 0, _, _, _, _, _, _, _, _, _ => none
 | k + 1, α, inl, n, f, re, df, its, x, fin =>
  match its with
  | [] => endD C (callGS C (goS k)) df x fun x => fin re x
  | .blk _ :: rest => goS k α inl n f re df rest x fin
  | .lp c :: rest => goS k α inl n f re df (.code c :: .lp c :: rest) x fin
  | .code c :: rest => match c with
   | .skip => goS k α inl n f re df rest x fin
   | .region id ops draw => forceX x fun x => match (if inl = true then none else C.keep n id) with
    | none => match (if draw = true then none else deferO ops.toList) with
     | none => regD C (callGS C (goS k)) (fun x => goS k α inl n f re df rest x fin) ops draw x
     | some c => opsD C (callGS C (goS k)) ops.toList (fun x => match deferA x.env c with
      | none => none
      | some d => goS k α inl n f re (d :: df) rest x fin) ops.toList.dropLast [] x.st.length x.env (x.st ++ List.replicate (ops.toList.dropLast.map fun o => slotsOf o.op).sum Blk.dead) []
    | some ks => match df with
     | [] => match canonX C ks re x with
      | none => none
      | some z => regD C (callGS C (goS k)) (fun x => goS k α inl n f z.1 [] rest x fin) ops draw z.2
     | _ => none
   | .seq a b => goS k α inl n f re df (.code a :: .code b :: rest) x fin
   | .cond c a b => match ev x.env c with
    | .b t => if t = true then goS k α inl n f re df (.code a :: rest) x fin else goS k α inl n f re df (.code b :: rest) x fin
    | _ => none
   | .block id c => goS k α inl n f re df (.code c :: .blk id :: rest) x fin
   | .loop c => goS k α inl n f re df (.code c :: .lp c :: rest) x fin
   | .exit id => match exitI id rest with | some r => goS k α inl n f re df r x fin | none => none
   | .ret => forceX x fun x => endD C (callGS C (goS k)) df x fun x => fin re x
   | _ => none
theorem goS_eq : ∀ k, goS C k = go C k
 | 0 => by funext α inl n f re df its x fin; rfl
 | k + 1 => by
  have ih := goS_eq k
  funext α inl n f re df its x fin
  simp only [goS, go, ih, forceX_eq, callGS_eq]
  rfl
def callS (k : Nat) : FuncId → List AV → Out := (callGS C (goS C k)).f
theorem callS_eq (k : Nat) : callS C k = call C k := by
 unfold callS call callF
 rw [callGS_eq, goS_eq]
end
def bs (l : List Nat) : ByteArray := ⟨⟨l.map UInt8.ofNat⟩⟩
def adv : Nat → List It → List AV → Nat × List It
 | 0, its, _ => (0, its)
 | j + 1, its, env => match its with
  | .blk _ :: rest => let r := adv j rest env; (r.1 + 1, r.2)
  | .lp c :: rest => let r := adv j (.code c :: .lp c :: rest) env; (r.1 + 1, r.2)
  | .code c :: rest => match c with
   | .skip => let r := adv j rest env; (r.1 + 1, r.2)
   | .seq a b => let r := adv j (.code a :: .code b :: rest) env; (r.1 + 1, r.2)
   | .cond c a b => match ev env c with
    | .b true => let r := adv j (.code a :: rest) env; (r.1 + 1, r.2)
    | .b false => let r := adv j (.code b :: rest) env; (r.1 + 1, r.2)
    | _ => (0, its)
   | .block id c => let r := adv j (.code c :: .blk id :: rest) env; (r.1 + 1, r.2)
   | .loop c => let r := adv j (.code c :: .lp c :: rest) env; (r.1 + 1, r.2)
   | .exit id => match exitI id rest with
    | some q => let r := adv j q env; (r.1 + 1, r.2)
    | none => (0, its)
   | _ => (0, its)
  | [] => (0, its)
section
variable {C : Cfg} {α : Type} {n : FuncId} {f : Func} {re : Refs} {fin : Refs → X → Option α}
theorem adv_ok : ∀ (j k : Nat) (its : List It) (x : X) (df : DF), goS C (k + (adv j its x.env).1) α false n f re df its x fin = goS C k α false n f re df (adv j its x.env).2 x fin
 | 0, k, its, x, df => rfl
 | j + 1, k, its, x, df => by
  have ih := fun its => adv_ok j k its x df
  match its with
  | [] => rfl
  | .blk _ :: rest => exact ih rest
  | .lp c :: rest => exact ih _
  | .code c :: rest =>
   match c with
   | .skip => exact ih rest
   | .seq a b => exact ih _
   | .block id c => exact ih _
   | .loop c => exact ih _
   | .region .. => rfl
   | .ret => rfl
   | .exit id =>
    simp only [adv]
    cases h : exitI id rest with
    | none => rfl
    | some q =>
     simp only
     show (match exitI id rest with | some r => _ | none => none) = _
     rw [h]
     exact ih q
   | .cond c a b =>
    simp only [adv]
    split
    ·rename_i h
     simp only
     show (match ev x.env c with | .b t => _ | _ => none) = _
     rw [h]
     exact ih _
    ·rename_i h
     simp only
     show (match ev x.env c with | .b t => _ | _ => none) = _
     rw [h]
     exact ih _
    ·rfl
   | .rangeFunc .. => rfl
   | .scope _ => rfl
   | .label _ => rfl
   | .goto _ => rfl
   | .refuse _ => rfl
def hdOps : List It → Array Oper
 | .code (.region _ ops _) :: _ => ops
 | _ => #[]
def hdDraw : List It → Bool
 | .code (.region _ _ d) :: _ => d
 | _ => false
def hdId : List It → Nat
 | .code (.region id _ _) :: _ => id
 | _ => 0
def hdRest : List It → List It
 | _ :: r => r
 | [] => []
def isReg : List It → Bool
 | .code (.region ..) :: _ => true
 | _ => false
theorem isReg_eq {l : List It} (h : isReg l = true) : l = .code (.region (hdId l) (hdOps l) (hdDraw l)) :: hdRest l := by
 match l, h with
 | .code (.region ..) :: _, _ => rfl
theorem reg_ok {K k j : Nat} {its : List It} {x x' : X} {df : DF} (hK : K = k + 1 + j) (h1 : (adv 60 its x.env).1 = j) (h2 : (isReg (adv 60 its x.env).2 && (C.keep n (hdId (adv 60 its x.env).2)).isNone && (hdDraw (adv 60 its x.env).2 || (deferO (hdOps (adv 60 its x.env).2).toList).isNone)) = true)
  (hr : ∀ N : X → Option α, regD C (callGS C (goS C k)) (fun x => forceX x N) (hdOps (adv 60 its x.env).2) (hdDraw (adv 60 its x.env).2) x = N x') :
  goS C K α false n f re df its x fin = goS C k α false n f re df (hdRest (adv 60 its x.env).2) x' fin := by
 subst hK
 subst h1
 rw [adv_ok]
 generalize (adv 60 its x.env).2 = l at *
 rw [Bool.and_eq_true, Bool.and_eq_true] at h2
 obtain ⟨⟨h3, h4⟩, h5⟩ := h2
 have h4' : C.keep n (hdId l) = none := Option.isNone_iff_eq_none.mp h4
 have h5' : (if hdDraw l = true then none else deferO (hdOps l).toList) = none := by
  cases hd : hdDraw l with
  | true => rfl
  | false =>
   rw [hd, Bool.false_or] at h5
   simpa using h5
 have e := isReg_eq h3
 have e2 := hr fun x => goS C k α false n f re df (hdRest l) x fin
 have e3 : (fun x => forceX x fun x => goS C k α false n f re df (hdRest l) x fin) = fun x => goS C k α false n f re df (hdRest l) x fin := funext fun x => forceX_eq x _
 rw [e3] at e2
 rw [← e2]
 conv => lhs; rw [e]
 simp only [goS]
 rw [forceX_eq, if_neg (by simp), h4']
 dsimp only
 rw [h5']
theorem def_ok {K k j : Nat} {its : List It} {x x' : X} {df : DF} {c : Call} {d : FuncId × List AV} (hK : K = k + 1 + j) (h1 : (adv 60 its x.env).1 = j) (h2 : (isReg (adv 60 its x.env).2 && (C.keep n (hdId (adv 60 its x.env).2)).isNone && !(hdDraw (adv 60 its x.env).2)) = true)
  (h3 : deferO (hdOps (adv 60 its x.env).2).toList = some c)
  (hr : ∀ N : X → FuncId × List AV → Option α, opsD C (callGS C (goS C k)) (hdOps (adv 60 its x.env).2).toList (fun x => match deferA x.env c with | none => none | some d => forceX x fun x => N x d) (hdOps (adv 60 its x.env).2).toList.dropLast [] x.st.length x.env (x.st ++ List.replicate ((hdOps (adv 60 its x.env).2).toList.dropLast.map fun o => slotsOf o.op).sum Blk.dead) [] = N x' d) :
  goS C K α false n f re df its x fin = goS C k α false n f re (d :: df) (hdRest (adv 60 its x.env).2) x' fin := by
 subst hK
 subst h1
 rw [adv_ok]
 generalize (adv 60 its x.env).2 = l at *
 rw [Bool.and_eq_true, Bool.and_eq_true] at h2
 obtain ⟨⟨h4, h5⟩, h6⟩ := h2
 have h5' : C.keep n (hdId l) = none := Option.isNone_iff_eq_none.mp h5
 have h6' : hdDraw l = false := by simpa using h6
 have e := isReg_eq h4
 have e2 := hr fun x d => goS C k α false n f re (d :: df) (hdRest l) x fin
 rw [← e2]
 conv => lhs; rw [e]
 simp only [goS]
 rw [forceX_eq, if_neg (by simp), h5']
 dsimp only
 rw [h6', if_neg (by simp), h3]
 dsimp only
 congr 1
 funext x
 cases deferA x.env c with
 | none => rfl
 | some d =>
  dsimp only
  rw [forceX_eq]
theorem call_in {m : Nat} {args : List AV} {c : Code} {x : X} (hf : C.P.funcs[n]? = some f) (hb : f.body = some c) (hx : (⟨(enterL C 0 (C.pm n) (parL f) args).1 ++ List.replicate (f.ntmps - args.length) .u, (enterL C 0 (C.pm n) (parL f) args).2⟩ : X) = x) :
  callS C m n args = goS C m (List AV) false n f (refE C 0 (C.pm n) (parL f)) [] [.code c] x (finish C n f) := by
 subst hx
 unfold callS callGS callG
 dsimp only
 rw [hf]
 dsimp only
 rw [hb]
end
end Go.Proofs.YteklakapimggeaaGreatDoor.Den
