/- Proved here: a part of the proof, told one step at a time: DenPrecW, DenPrec. No condition but those each theorem names. -/
import Derived.RangeFuncBox
import Derived.RangeFuncLeaves
import Derived.Shelf.Abstract
import Derived.WalkKit
import Derived.OwnWalkIn
import Derived.TacticsInMore
import Derived.LoopNIn
import Derived.LoopIn
import Derived.Test.YteklakapimggeaaGreatDoorProg
import Derived.Test.YteklakapimggeaaGreatDoorKf
namespace Go.Proofs.YteklakapimggeaaGreatDoor.Den
open Go Go.Proofs Go.RowKit Go.Shelf
set_option linter.unusedVariables false
set_option linter.unusedSimpArgs false
attribute [local go_sem] Oper.semAt_some
def upto {α : Type} (f : Nat → α) (k : Nat) : List α := (List.range k).map f
theorem upto_succ {α : Type} (f : Nat → α) (k : Nat) : upto f (k + 1) = upto f k ++ [f k] := by simp [upto, List.range_succ]
theorem upto_length {α : Type} (f : Nat → α) (k : Nat) : (upto f k).length = k := by simp [upto]
def bk (zs : List Int) (len j : Nat) : Nat × Int := (len - 1 - j, zs[len - 1 - j]?.getD 0)
set_option maxRecDepth 100000 in
set_option maxHeartbeats 2000000 in
theorem back1_in (F : Fence) (n : Nat) (h8 : F.fn 135) (hro : F.round = none) (hn : 1 ≤ n) (l Bs n₀ b off len cap : Nat) (zs : List Int) (hreach : len * 8 ≤ 140737488351232) (hb : b < n₀) (J Jx : List (Nat × Int) → World → Prop)
  (hY : ∀ pre x W, J pre W → pre.length < len → YieldAt F (n - 1) Tryz.prog l #[.int .i64 (x.1 : Int), .int .i64 x.2] W fun e W' =>
   (e = .returned (.bool true) ∧ J (pre ++ [x]) W' ∧ Below n₀ W W') ∨ (e = .returned (.bool false) ∧ Jx (pre ++ [x]) W'))
  (W : World) (hBs : W.cell? ⟨Bs, 0, none⟩ = some (.slice (some ⟨b, off, none⟩) len cap)) (hc : ∀ j, j < len → W.cell? ⟨b, off + j, none⟩ = some (.int .i64 (zs[j]?.getD 0))) (h0 : J [] W) (hBn : Bs < n₀) :
  CallsIn F n Tryz.prog 135 #[.func (.yield l) #[] #[], .pointer (some ⟨Bs, 0, none⟩)] W fun e W' => (∃ v, e = .returned v) ∧
   ((∃ ys, ys = upto (bk zs len) len ∧ J ys W') ∨ (∃ pre, (∃ k, k ≤ len ∧ pre = upto (bk zs len) k) ∧ Jx pre W')) := by
 refine callsIn_of_wp Tryz.func135 rfl h8 ?_ hro
 simp only [Tryz.ntmps135, List.size_toArray, List.length_cons, List.length_nil, Nat.reduceAdd, Nat.reduceSub, Array.replicate_succ, Array.replicate_zero, List.push_toArray, List.append_toArray, List.nil_append, List.cons_append]
 gi_wp2
 gi_loopw [3] (fun i wr => ∃ k : Nat, k ≤ len ∧ i = .int .i64 ((len : Int) - 1 - k) ∧ J (upto (bk zs len) k) wr ∧ Below n₀ W wr)
  (fun i _ => (intOf i + 1).toNat)
 case atStart => exact ⟨0, Nat.zero_le _, by simp, h0, Below.refl _ _⟩
 case round =>
  obtain ⟨k, hk, rfl, hJs, hnx⟩ := hrel
  have hcb : wr.cell? ⟨Bs, 0, none⟩ = some (.slice (some ⟨b, off, none⟩) len cap) := (hnx.cell (p := ⟨Bs, 0, none⟩) hBn).trans hBs
  by_cases hlt : k < len
  ·obtain ⟨m, hm⟩ : ∃ m : Nat, m + k + 1 = len := ⟨len - 1 - k, by omega⟩
   have hi : (len : Int) - 1 - k = (m : Int) := by omega
   have hcx : wr.cell? ⟨b, off + m, none⟩ = some (.int .i64 (zs[m]?.getD 0)) := (hnx.cell (p := ⟨b, off + m, none⟩) hb).trans (hc m (by omega))
   have hbk : bk zs len k = (m, zs[m]?.getD 0) := by
    unfold bk
    rw [show len - 1 - k = m by omega]
   rw [hi]
   obtain ⟨fn, tmps, assign, body, hy, hR⟩ := hY _ (m, zs[m]?.getD 0) wr hJs (by rw [upto_length]; exact hlt)
   dsimp only at hy
   have hml : m < len := by omega
   gi_wp2
   refine hR.mono ?_
   rintro e W3 (⟨rfl, hJ3, hk3⟩ | ⟨rfl, hJx3⟩)
   ·gi_wp2
    go_roundw
    case rel => exact ⟨k + 1, by omega, by first | (simp; done) | (simp; omega), by rw [upto_succ, hbk]; exact hJ3, hnx.trans hk3⟩
    case measure => first | (simp [intOf]; done) | (simp [intOf]; omega)
   ·gi_wp2
    refine bodyPost_ret (results_none rfl _ _ _) rfl ?_
    exact ⟨⟨_, rfl⟩, .inr ⟨_, ⟨k + 1, by omega, by rw [upto_succ, hbk]⟩, hJx3⟩⟩
  ·obtain rfl : k = len := by omega
   have hi : (k : Int) - 1 - k = -1 := by omega
   rw [hi]
   gi_wp2
   go_end0
   exact ⟨⟨_, rfl⟩, .inl ⟨_, rfl, hJs⟩⟩
set_option maxRecDepth 100000 in
set_option maxHeartbeats 1000000 in
theorem back1_nil_in (F : Fence) (n : Nat) (h8 : F.fn 135) (hro : F.round = none) (l Bs : Nat) (ad : Option Addr) (cap : Nat) (J : List (Nat × Int) → World → Prop) (W : World) (hBs : W.cell? ⟨Bs, 0, none⟩ = some (.slice ad 0 cap)) (h0 : J [] W) :
  CallsIn F n Tryz.prog 135 #[.func (.yield l) #[] #[], .pointer (some ⟨Bs, 0, none⟩)] W fun e W' => (∃ v, e = .returned v) ∧ J [] W' := by
 refine callsIn_of_wp Tryz.func135 rfl h8 ?_ hro
 simp only [Tryz.ntmps135, List.size_toArray, List.length_cons, List.length_nil, Nat.reduceAdd, Nat.reduceSub, Array.replicate_succ, Array.replicate_zero, List.push_toArray, List.append_toArray, List.nil_append, List.cons_append]
 gi_wp2
 gi_loopw [3] (fun i wr => i = .int .i64 (-1) ∧ J [] wr) (fun _ _ => 0)
 case atStart => exact ⟨rfl, h0⟩
 case round =>
  obtain ⟨rfl, hJs⟩ := hrel
  gi_wp2
  go_end0
  exact ⟨⟨_, rfl⟩, hJs⟩
set_option maxHeartbeats 1000000 in
theorem back_in (F : Fence) (n : Nat) (h6 : F.fn 104) (hro : F.round = none) (a : Option Addr) (len cap : Nat) (w : World) :
  CallsIn F n Tryz.prog 104 #[.slice a len cap] w fun e w' => e = .returned (.func (.func 135) #[] #[.pointer (some ⟨w.heap.size, 0, none⟩)]) ∧ w' = w.alloc (.cells #[.slice a len cap] 37) := by
 refine callsIn_of_wp Tryz.func104 rfl h6 ?_ hro
 simp only [Tryz.ntmps104, List.size_toArray, List.length_cons, List.length_nil, Nat.reduceAdd, Nat.reduceSub, Array.replicate_succ, Array.replicate_zero, List.push_toArray, List.append_toArray, List.nil_append, List.cons_append]
 gi_wp2
 go_ret
 exact ⟨rfl, rfl⟩
def Ints (n₀ : Nat) (W : World) (sv : Value) (zs : List Int) : Prop :=
 (∃ ad cap, sv = .slice ad 0 cap ∧ zs = []) ∨ ∃ b off cap, sv = .slice (some ⟨b, off, none⟩) zs.length cap ∧ b < n₀ ∧ ∀ j, j < zs.length → W.cell? ⟨b, off + j, none⟩ = some (.int .i64 (zs[j]?.getD 0))
theorem Ints.below {n₀ : Nat} {A B : World} (h : Below n₀ A B) {sv : Value} {zs : List Int} : Ints n₀ A sv zs → Ints n₀ B sv zs
 | .inl e => .inl e
 | .inr ⟨b, off, cap, e, hb, hc⟩ => .inr ⟨b, off, cap, e, hb, fun j hj => (h.cell (p := ⟨b, off + j, none⟩) hb).trans (hc j hj)⟩
theorem Ints.more {n₀ n₁ : Nat} {A : World} (h : n₀ ≤ n₁) {sv : Value} {zs : List Int} : Ints n₀ A sv zs → Ints n₁ A sv zs
 | .inl e => .inl e
 | .inr ⟨b, off, cap, e, hb, hc⟩ => .inr ⟨b, off, cap, e, by omega, hc⟩
theorem back_stops (F : Fence) (n : Nat) (h8 : F.fn 135) (hro : F.round = none) (hn : 1 ≤ n) (Bs n₀ : Nat) (sv : Value) (zs : List Int) (hreach : zs.length * 8 ≤ 140737488351232) (w : World) (hBs : Bs < n₀) (hn₀ : n₀ ≤ w.heap.size)
  (hc : w.cell? ⟨Bs, 0, none⟩ = some sv) (hI : Ints n₀ w sv zs) :
  SeqStopsK F n Tryz.prog 135 #[.pointer (some ⟨Bs, 0, none⟩)] (fun x : Nat × Int => #[Value.int .i64 (x.1 : Int), Value.int .i64 x.2]) (Below n₀) (fun ys => ys = upto (bk zs zs.length) zs.length)
   (fun pre => ∃ k, k ≤ zs.length ∧ pre = upto (bk zs zs.length) k) zs.length w := fun l J Jx W hW _ _ hY h0 => by
 have hc' := (hW.cell (p := ⟨Bs, 0, none⟩) (Nat.lt_of_lt_of_le hBs hn₀)).trans hc
 rcases hI.below (hW.mono hn₀) with ⟨ad, cap, rfl, rfl⟩ | ⟨b, off, cap, rfl, hb, hcs⟩
 ·exact (back1_nil_in F n h8 hro l Bs ad cap J W hc' h0).mono fun e W' ⟨he, hj⟩ => ⟨he, .inl ⟨_, rfl, hj⟩⟩
 ·exact back1_in F n h8 hro hn l Bs n₀ b off zs.length cap zs hreach hb J Jx hY W hc' hcs h0 hBs
def NoneLe (t : Int) (pre : List (Nat × Int)) : Prop := ∀ p ∈ pre, ¬ p.2 ≤ t
def StopAt (t : Int) (pre : List (Nat × Int)) (v : Int) : Prop := ∃ ini last, pre = ini ++ [last] ∧ NoneLe t ini ∧ last.2 ≤ t ∧ v = last.2
def LastLe (t : Int) (zs : List Int) (r : Int) : Prop := ((∀ j, j < zs.length → ¬ zs[j]?.getD 0 ≤ t) ∧ r = 0) ∨ ∃ m, m < zs.length ∧ zs[m]?.getD 0 ≤ t ∧ r = zs[m]?.getD 0 ∧ ∀ j, m < j → j < zs.length → ¬ zs[j]?.getD 0 ≤ t
set_option maxRecDepth 100000 in
set_option maxHeartbeats 4000000 in
theorem prec_in (F : Fence) (n : Nat) (h4 : F.fn 80) (h6 : F.fn 104) (h8 : F.fn 135) (hro : F.round = none) (hn : 3 ≤ n) (a : Option Addr) (len cap : Nat) (t : Int) (zs : List Int) (hreach : zs.length * 8 ≤ 140737488351232) (w : World) (hI : Ints w.heap.size w (.slice a len cap) zs) :
  CallsIn F n Tryz.prog 80 #[.slice a len cap, .int .i64 t] w fun e W' => (∃ r, e = .returned (.int .i64 r) ∧ LastLe t zs r) ∧ Below w.heap.size w W' := by
 have h1 : 1 ≤ n := by omega
 refine callsIn_of_wp_marks Tryz.func80 rfl h4 ?_ hro
 simp only [Tryz.ntmps80, List.size_toArray, List.length_cons, List.length_nil, Nat.reduceAdd, Nat.reduceSub, Array.replicate_succ, Array.replicate_zero, List.push_toArray, List.append_toArray, List.nil_append, List.cons_append]
 gi_wp2_with (gi_at_call 104; refine (back_in F (n - 1) h6 hro _ _ _ _).mono ?_; rintro e w' ⟨rfl, rfl⟩)
 have bT := Boxed.new w 3 (.int .i64 t)
 have bR := Boxed.new (w.alloc (.cells #[.int .i64 t] 3)) 3 (.int .i64 0)
 have bN := Boxed.new ((w.alloc (.cells #[.int .i64 t] 3)).alloc (.cells #[.int .i64 0] 3)) 37 (.slice a len cap)
 rw [World.size_alloc] at bR
 rw [World.size_alloc, World.size_alloc] at bN
 have hB0 : Below w.heap.size w (((w.alloc (.cells #[.int .i64 t] 3)).alloc (.cells #[.int .i64 0] 3)).alloc (.cells #[.slice a len cap] 37)) := (((Below.refl _ w).alloc (Nat.le_refl _) _).alloc (by simp) _).alloc (by simp; omega) _
 refine wpIn_rangeFunc_ownG hro h1 (gf := 135) (lb := #[.pointer (some ⟨w.heap.size + 1 + 1, 0, none⟩)]) rfl h8 (enters_of Tryz.func135 (by kernel_rfl) rfl)
  (back_stops F (n - 1) h8 hro (by omega) (w.heap.size + 1 + 1) (w.heap.size + 1 + 1 + 1) _ zs hreach _ (by omega) (by simp) bN.cell ((hI.below hB0).more (by omega))) belowK_t (belowK_b (by simp)) (Below.refl _ _) (fun _ => rfl)
  (fun pre W => (NoneLe t pre ∧ W.cell? ⟨w.heap.size, 0, none⟩ = some (.int .i64 t) ∧ W.cell? ⟨w.heap.size + 1, 0, none⟩ = some (.int .i64 0) ∧ W.frozen? ⟨w.heap.size + 1, 0, none⟩ = false) ∧ Below w.heap.size w W)
  (fun c pre W => (c = .ret ∧ ∃ v, StopAt t pre v ∧ W.cell? ⟨w.heap.size + 1, 0, none⟩ = some (.int .i64 v)) ∧ Below w.heap.size w W)
  (OwnFrom.and (Own.from (fun s A B row hs hg hr => ⟨hs.1, cell_kept hs.2.1 hg hr, cell_kept hs.2.2.1 hg hr, (frozen_kept hs.2.2.1 hg hr).trans hs.2.2.2⟩) _) (ownFrom_below (Nat.le_refl _) (by simp; omega)))
  (fun c => OwnFrom.and (Own.from (fun s A B row hs hg hr => by obtain ⟨hc, v, e1, e4⟩ := hs; exact ⟨hc, v, e1, cell_kept e4 hg hr⟩) _) (ownFrom_below (Nat.le_refl _) (by simp; omega)))
  ⟨⟨by simp [NoneLe], ((bT.alloc _).alloc _).cell, (bR.alloc _).cell, (bR.alloc _).frozen⟩, hB0⟩
  (fun x => { tmps := #[.slice a len cap, .int .i64 t, undef, .pointer (some ⟨w.heap.size, 0, none⟩), .pointer (some ⟨w.heap.size + 1, 0, none⟩), undef, .int .i64 x.2, .slice a len cap, .func (.func 135) #[] #[.pointer (some ⟨w.heap.size + 1 + 1, 0, none⟩)], .int .i64 (x.1 : Int), .int .i64 x.2, undef, undef, undef, undef], defers := [] }) ?assign ?body ?done ?stop
 case assign =>
  intro l x W K hK
  gi_wp2
  exact hK
 case body =>
  rintro l pre x W ⟨⟨hp, hct, hcr, hfr⟩, hB⟩ _
  gi_wp2
  ·have hx : x.2 ≤ t := by assumption
   exact ⟨(KeepsOthers.setCell _ _ _).from _, ⟨rfl, x.2, ⟨pre, x, rfl, hp, hx, rfl⟩, World.cell?_setCell_same' _ _ _ (by rw [hcr]; rfl)⟩, hB.setCell (p := ⟨w.heap.size + 1, 0, none⟩) (by simp) _⟩
  ·have hx : ¬ x.2 ≤ t := by omega
   exact ⟨KeepsFrom.refl _ _, Below.refl _ _, ⟨fun p hp' => (List.mem_append.1 hp').elim (hp p) (fun e => by rw [List.mem_singleton] at e; subst e; exact hx), hct, hcr, hfr⟩, hB⟩
 case done =>
  rintro D ys W hD rfl ⟨⟨hne, hct, hcr, hfr⟩, hB⟩ hK
  gi_wp2
  have hK' := (KeepsOthers.setCell W ⟨w.heap.size + 1, 0, none⟩ (.int .i64 0)).same D _ hK rfl
  refine ⟨by simp, .inl ⟨_, _, rfl, run_takeDeferred hK', ?_⟩⟩
  have hc5 := cell_kept (World.cell?_setCell_same' W ⟨w.heap.size + 1, 0, none⟩ (.int .i64 0) (by rw [hcr]; rfl)) (grownBy_putObj' _ D (.deferred none)) (fun r e => by cases e; exact ⟨_, hK', rfl⟩)
  refine ⟨.int .i64 0, ?_, ⟨0, rfl, .inl ⟨fun j hj => ?_, rfl⟩⟩, (hB.setCell (p := ⟨w.heap.size + 1, 0, none⟩) (by simp) _).trans (belowK_b (w := w) (Nat.le_refl _) _ D _ _ (by simp at hD; omega) hK' rfl rfl)⟩
  ·simp [results, Tryz.f80, go_sem, hc5]
  ·refine hne (j, zs[j]?.getD 0) ?_
   simp only [upto, List.mem_map, List.mem_range]
   exact ⟨zs.length - 1 - j, by omega, by unfold bk; rw [show zs.length - 1 - (zs.length - 1 - j) = j by omega]⟩
 case stop =>
  rintro D c pre W hD ⟨k, hk, rfl⟩ ⟨⟨rfl, _, ⟨ini, last, e1, e2, e3, rfl⟩, hcr⟩, hB⟩ hK
  gi_wp2
  refine ⟨by simp, .inl ⟨_, _, rfl, run_takeDeferred hK, ?_⟩⟩
  have hc5 := cell_kept hcr (grownBy_putObj' _ D (.deferred none)) (fun r e => by cases e; exact ⟨_, hK, rfl⟩)
  obtain ⟨k', rfl⟩ : ∃ k', k = k' + 1 := by
   cases k with
   | zero => simp [upto] at e1
   | succ k' => exact ⟨k', rfl⟩
  rw [upto_succ] at e1
  obtain ⟨rfl, e5⟩ := List.append_inj' e1 rfl
  obtain rfl : bk zs zs.length k' = last := by simpa using e5
  refine ⟨.int .i64 (bk zs zs.length k').2, ?_, ⟨_, rfl, .inr ⟨zs.length - 1 - k', by omega, e3, rfl, fun j hj1 hj2 => ?_⟩⟩, hB.trans (belowK_b (w := w) (Nat.le_refl _) W D _ _ (by simp at hD; omega) hK rfl rfl)⟩
  ·simp [results, Tryz.f80, go_sem, hc5]
  ·refine e2 (j, zs[j]?.getD 0) ?_
   simp only [upto, List.mem_map, List.mem_range]
   exact ⟨zs.length - 1 - j, by omega, by unfold bk; rw [show zs.length - 1 - (zs.length - 1 - j) = j by omega]⟩
end Go.Proofs.YteklakapimggeaaGreatDoor.Den
namespace Go.Proofs.YteklakapimggeaaGreatDoor.Den
open Go Go.Proofs Go.RowKit Go.Shelf
set_option linter.unusedVariables false
set_option linter.unusedSimpArgs false
theorem precOf_no (t : Int) : ∀ (zs : List Int), (∀ j, j < zs.length → ¬ zs[j]?.getD 0 ≤ t) → precOf t (zs.map (AV.i .i64)) = 0
 | [], _ => rfl
 | z :: zs, h => by
  have ih := precOf_no t zs fun j hj => by simpa using h (j + 1) (by simpa using hj)
  have h0 := h 0 (by simp)
  simp only [List.map_cons, precOf, ih]
  split
  ·rfl
  ·rw [if_neg (by simpa [AV.int] using h0)]
theorem any_le (t : Int) (zs : List Int) : ((zs.map (AV.i .i64)).any fun y => decide (y.int ≤ t)) = true ↔ ∃ j, j < zs.length ∧ zs[j]?.getD 0 ≤ t := by
 rw [List.any_map, List.any_eq_true]
 constructor
 ·rintro ⟨z, hz, h⟩
  obtain ⟨j, hj, rfl⟩ := List.mem_iff_getElem.mp hz
  exact ⟨j, hj, by have h' := of_decide_eq_true h; simpa [AV.int, hj] using h'⟩
 ·rintro ⟨j, hj, h⟩
  exact ⟨zs[j], List.getElem_mem hj, decide_eq_true (by simpa [AV.int, hj] using h)⟩
theorem precOf_yes (t : Int) : ∀ (zs : List Int) (m : Nat), m < zs.length → zs[m]?.getD 0 ≤ t → (∀ j, m < j → j < zs.length → ¬ zs[j]?.getD 0 ≤ t) → precOf t (zs.map (AV.i .i64)) = zs[m]?.getD 0
 | [], m, hm, _, _ => by simp at hm
 | z :: zs, 0, hm, h1, h2 => by
  have hno : ¬ ((zs.map (AV.i .i64)).any fun y => decide (y.int ≤ t)) = true := by
   rw [any_le]
   rintro ⟨j, hj, h⟩
   exact h2 (j + 1) (by omega) (by simpa using hj) (by simpa using h)
  rw [List.map_cons, precOf, if_neg hno, if_pos (by simpa [AV.int] using h1)]
  simp [AV.int]
 | z :: zs, m + 1, hm, h1, h2 => by
  have hm' : m < zs.length := by simpa using hm
  have hyes : ((zs.map (AV.i .i64)).any fun y => decide (y.int ≤ t)) = true := (any_le t zs).mpr ⟨m, hm', by simpa using h1⟩
  rw [List.map_cons, precOf, if_pos hyes, precOf_yes t zs m hm' (by simpa using h1) fun j hj1 hj2 => by simpa using h2 (j + 1) (by omega) (by simpa using hj2)]
  simp
theorem last_is {t r : Int} {zs : List Int} (h : LastLe t zs r) : precOf t (zs.map (AV.i .i64)) = r := by
 rcases h with ⟨h1, rfl⟩ | ⟨m, h1, h2, rfl, h3⟩
 ·exact precOf_no t zs h1
 ·exact precOf_yes t zs m h1 h2 h3
section
variable {C : Cfg}
theorem Ends.plainL {F0 : Nat → Prop} {σ0 : Sig} {S0 : List Blk} {w w' : World} {n : FuncId} {f : Func} {x : AV} {T : TypeId} {val : Value} (hlx : C.lax = true) (hT : f.resultTypes = #[T]) (hre : refE C 0 (C.pm n) (parL f) = []) (hrm : (C.rm n).getD 0 0 = 0) (hs : Sim C F0 σ0 S0 w) (hk : Below w.heap.size w w') (hx : ∀ σ2, VR C w' F0 σ2 (dat C T x) val) : Ends C n f [x] F0 σ0 S0 w val w' := by
 refine ⟨F0, σ0, S0, [val], [[]], [], [], hs.ext hk.size hk.block, ⟨hk.os, hk.tape, hk.output, .inl hlx, hk.size, fun b hb _ => hk.block b hb, fun _ h => h, fun _ h => .inl h, fun id b h1 h2 => .inr ⟨id, h1, h2⟩⟩, rfl, rfl, by simp [hT, hre], fun j m T' y pls v hj hy hp hv => ?_, .nil, rfl, fun k T' a pls hk' => by rw [hre] at hk'; simp at hk', by simp [hT, oneV]⟩
 cases j with
 | succ j => simp at hy
 | zero =>
  simp only [List.getElem?_cons_zero, Option.some.injEq] at hy hp hv
  subst hy hp hv
  rw [hre, hT] at hj
  simp [rmL] at hj
  obtain ⟨rfl, rfl⟩ := hj
  rw [more_nil]
  rw [List.getD_eq_getElem?_getD] at hrm
  exact layData (by rw [hrm]; simp) hx
theorem two_val' {vals : Array Value} {n : Nat} (h : vals.size = n) (hn : n = 2) : ∃ v u, vals = #[v, u] := by
 obtain ⟨l⟩ := vals
 match l, h with
 | [v, u], _ => exact ⟨v, u, rfl⟩
 | [], h => simp at h; omega
 | [_], h => simp at h; omega
 | _ :: _ :: _ :: _, h => simp at h; omega
theorem sh_int {a : AV} {k : IntKind} {T : TypeId} (h : Wt C T a) (hu : C.und T = some (.int k)) (hd : C.P.depth = C.P.depth - 1 + 1) : a = .i k a.int := by
 have := h.2
 rw [hd] at this
 simpa [view, hu] using this.symm
theorem prec_ok (hP : C.P = Tryz.prog) (hlx : C.lax = true) (hpm : C.pm 80 = []) (hrm : C.rm 80 = []) (h3 : C.und 3 = some (.int .i64)) (h37 : C.und 37 = some (.slice 3)) (hsz : C.sz 3 = 1) (hd : C.P.depth = C.P.depth - 1 + 1) : CalleeAt C 80 precD := by
 intro f xs o hf hb hn hg F0 σ0 w vals hs hv hlen hvr
 unfold precD at hg
 split at hg
 ·rename_i e ys k t
  split at hg
  ·rename_i hc
   obtain ⟨rfl, rfl, hle⟩ := hc
   obtain rfl := Option.some.inj hg
   rw [hP] at hf
   rw [Tryz.func80] at hf
   obtain rfl := Option.some.inj hf
   have e3 : ∀ n, view C C.P.depth 3 (.i .i64 n) = .i .i64 n := fun n => by rw [hd]; simp [view, h3, AV.int]
   have he : enterL C 0 (C.pm 80) (parL Tryz.f80) [.l 3 ys, .i .i64 t] = ([.l 3 ys, .i .i64 t], []) := by
    have e1 : view C C.P.depth 37 (.l 3 ys) = .l 3 ys := by rw [hd]; simp [view, h37, AV.list]
    have e2 : parL Tryz.f80 = [37, 3] := rfl
    rw [hpm, e2]
    simp [enterL, lay, dat, h3, h37, e1, e3]
   rw [he] at hs hlen hvr ⊢
   obtain ⟨v, u, rfl⟩ := two_val' hv rfl
   have hv1 := (hvr 0 _ v rfl rfl).one_inv (by simp) (by simp) (by simp)
   have hv2 := (hvr 1 _ u rfl rfl).i_inv
   subst hv2
   obtain ⟨zs, ad, cap, rfl, rfl, hI⟩ : ∃ (zs : List Int) (ad : Option Addr) (cap : Nat), ys = zs.map (AV.i .i64) ∧ v = .slice ad zs.length cap ∧ Ints w.heap.size w (.slice ad zs.length cap) zs := by
    cases hv1 with
    | l0 => exact ⟨[], _, _, rfl, rfl, .inl ⟨_, _, rfl, rfl⟩⟩
    | l cells h1 h2 h4 h5 =>
     rename_i b o cap
     have hy : ∀ (j : Nat) a, ys[j]? = some a → a = .i .i64 a.int := fun j a ha => sh_int (h4 j a ha).1 h3 hd
     have hz : ys = (ys.map AV.int).map (AV.i .i64) := by
      apply List.ext_getElem?
      intro j
      cases hj : ys[j]? with
      | none => simp [hj]
      | some a => simpa [hj] using hy j a hj
     refine ⟨ys.map AV.int, some ⟨b, o, none⟩, cap, hz, by simp, .inr ⟨b, o, cap, rfl, hs.fin b h1, fun j hj => ?_⟩⟩
     have hj' : j < ys.length := by simpa using hj
     have hja : ys[j]? = some ys[j] := List.getElem?_eq_getElem hj'
     have q1 := h5 j _ hja
     have q2 := (h4 j _ hja).2.1
     rw [hy j _ hja] at q1
     generalize hcs : cells j = cs at q1 q2
     cases q1
     have q3 := q2 0 _ rfl
     rw [hsz, Nat.mul_one, Nat.add_zero] at q3
     simpa [hj'] using q3
   rw [hP]
   refine (callsIn_wide.1 (prec_in Fence.wide 3 trivial trivial trivial rfl (Nat.le_refl _) ad zs.length cap t zs (by simp at hle; omega) w hI)).mono fun e w' hq => ?_
   obtain ⟨⟨r, rfl, hr⟩, hB⟩ := hq
   refine ⟨_, rfl, Ends.plainL (T := 3) hlx rfl ?_ (by rw [hrm]; rfl) hs hB fun σ2 => ?_⟩
   ·rw [hpm]
    rfl
   ·rw [last_is hr]
    have e2 : ∀ n, dat C 3 (.i .i64 n) = .i .i64 n := fun n => by simp [dat, h3, e3]
    rw [e2]
    exact .one (by simp) .i
  ·cases hg
 ·cases hg
end
end Go.Proofs.YteklakapimggeaaGreatDoor.Den
