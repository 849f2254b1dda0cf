/- Proved here: a part of the evaluator for the model's functions, and that a call does what it says; the parts are told one by one. No condition. -/
import Derived.Test.YtfnepeilccainaaChecked
import Derived.Shelf.Spec.SlicesInsertGrow
import Derived.Test.YtfnepeilccainaaKf
import Derived.Shelf.RegionOpenPlain
import Derived.WalkKit
import Derived.Deep.RegionLaw
import Derived.Lib.Walk
import Derived.Lib.SliceRun
import Derived.KernelRfl
import Derived.Lib.UnsafeStr
import Derived.Lib.Builder
/- Proved here: what slices.Insert at []piece.part does, each of its roads: the library's own text, walked. No condition but those each theorem names. -/
namespace Go.Proofs.Ytfnepeilccainaa.Den
open Go Go.Proofs Go.Shelf Go.RowKit Go.Lib
set_option linter.unusedVariables false
set_option linter.unusedSimpArgs false
theorem infoP : (Try.prog.info? 53).map (fun i => (i.zero, i.size, i.bytes)) = some (some (Value.agg #[Value.string ⟨#[]⟩]), 1, 16) := by kernel_rfl
set_option maxHeartbeats 4000000 in
set_option maxRecDepth 100000 in
theorem ins_shift (b off n c i vb voff m vc : Nat) (cs vs : List Value) (w : World) (hi : i < n) (hm : 0 < m) (hroom : n + m ≤ c) (hc63 : n + m ≤ 9223372036854775807) (hvb : vb ≠ b)
    (hcl : cs.length = n) (hvl : vs.length = m)
    (hcs : ∀ j v, cs[j]? = some v → w.cell? ⟨b, off + j, none⟩ = some v) (hsp : ∀ j, j < n + m → (w.cell? ⟨b, off + j, none⟩).isSome = true) (hfz : ∀ j, j < n + m → w.frozen? ⟨b, off + j, none⟩ = false)
    (hvs : ∀ j v, vs[j]? = some v → w.cell? ⟨vb, voff + j, none⟩ = some v) (h1c : ∀ v ∈ cs, v.oneCell' = true) (h1v : ∀ v ∈ vs, v.oneCell' = true)
    (tA tB : TypeId) (kA kB : Nat) (hsa : w.shape? vb = some (tA, kA)) (hsb : w.shape? b = some (tB, kB)) (hkB : kB ≠ 0) (hfa : w.frozen? ⟨vb, voff, none⟩ = false) (hfe : w.frozen? ⟨vb, kA, none⟩ = false) :
    Calls Try.prog 45 #[.slice (some ⟨b, off, none⟩) n c, .int .i64 i, .slice (some ⟨vb, voff, none⟩) m vc] w fun e w' =>
      e = .returned (.slice (some ⟨b, off, none⟩) (n + m) c) ∧ w' = (w.drew.setCells b (off + (i + m)) (cs.drop i)).setCells b (off + i) vs := by
  have t0 := Try.underlying0; have a0 := Try.isAgg0; have z0 := Try.sizeOf0; have v0 := Try.zeroValue0; have u0 := run_underlying Try.underlying0
  have t3 := Try.underlying3; have a3 := Try.isAgg3; have z3 := Try.sizeOf3; have v3 := Try.zeroValue3; have u3 := run_underlying Try.underlying3
  have t4 := Try.underlying4; have a4 := Try.isAgg4; have z4 := Try.sizeOf4; have v4 := Try.zeroValue4; have u4 := run_underlying Try.underlying4
  have t9 := Try.underlying53; have a9 := Try.isAgg53; have z9 := Try.sizeOf53; have v9 := Try.zeroValue53; have u9 := run_underlying Try.underlying53
  have t24 := Try.underlying54; have a24 := Try.isAgg54; have z24 := Try.sizeOf54; have v24 := Try.zeroValue54; have u24 := run_underlying Try.underlying54
  have hz1 : ¬ ((m : Int) = 0) := by omega
  have hz2 : ¬ ((i : Int) = (n : Int)) := by omega
  have hsz : (Try.prog.info? 53).map (·.size) = some 1 := by
    obtain ⟨i0, hi0, h0, h1, h2⟩ := info_parts infoP
    rw [hi0]; simp [h1]
  have hov : ∀ lb cb, (callFunc 46 #[.slice (some ⟨vb, voff, none⟩) m vc, .slice (some ⟨b, off + (i + m), none⟩) lb cb]).run Try.prog w = .ok (.value (.bool false)) w := fun lb cb => by
    rw [run_callFunc_extern Try.func46 (by kernel_rfl) (by kernel_rfl) (by kernel_rfl) (e := Extern.SlicesOverlaps.overlaps #[54, 54] #[4]) (by kernel_rfl),
      Lib.run_overlaps_apart w 54 4 53 Try.underlying54 1 Try.sizeOf53 ⟨vb, voff, none⟩ ⟨b, off + (i + m), none⟩ m vc lb cb hvb tA tB kA kB hsa hsb hkB hfa hfe]
    rfl
  have hdl : (cs.drop i).length = n - i := by rw [List.length_drop, hcl]
  have mixed := (show Try.prog.follows .mixedOrders = true by kernel_rfl)
  have hw1 : IntKind.i64.wrap ((i : Int) + (m : Int)) = (i : Int) + (m : Int) := by rw [IntKind.wrap_i64]; omega
  have hb1 : (0 : Int) ≤ (i : Int) + (m : Int) := by omega
  have hin : i ≤ n := by omega
  have htn : ((i : Int) + (m : Int)).toNat = i + m := by omega
  have hb2 : ¬ (c = i + m) := by omega
  have hb3 : (i : Int) ≤ (n : Int) + (m : Int) := by omega
  have hb4 : ¬ (c = i) := by omega
  have hcp1 : ∀ ty dc sc, (Builtin.copy_ #[54, 54] ty #[.slice (some ⟨b, off + (i + m), none⟩) (n + m - (i + m)) dc, .slice (some ⟨b, off + i, none⟩) (n + m - i) sc]).run Try.prog w.drew = .ok (goInt (cs.drop i).length) (w.drew.setCells b (off + (i + m)) (cs.drop i)) := fun ty dc sc =>
    run_copy_cells w.drew _ _ ty 53 b (off + (i + m)) (n + m - (i + m)) dc ⟨b, off + i, none⟩ (n + m - i) sc (cs.drop i) Try.underlying54 hsz (by rw [hdl]; simp only [Nat.min_def]; split <;> omega)
      (fun j v hj => by rw [Addr.add_lit, Nat.add_assoc]; exact hcs (i + j) v (by rwa [List.getElem?_drop] at hj))
      (fun j hj => by rw [Nat.add_assoc]; exact hsp _ (by omega)) (fun j hj => by rw [Nat.add_assoc]; exact hfz _ (by omega)) (fun v hv => h1c v (List.mem_of_mem_drop hv))
  obtain ⟨W1, hW1⟩ : ∃ W1, W1 = w.drew.setCells b (off + (i + m)) (cs.drop i) := ⟨_, rfl⟩
  have hsp1 : ∀ k, k < n + m → (W1.cell? ⟨b, off + k, none⟩).isSome = true := fun k hk => by
    rw [hW1]
    exact isSome_setCells b _ _ _ (fun j hj => by rw [Nat.add_assoc]; exact hsp _ (by omega)) _ (hsp k hk)
  have hcp2 : ∀ (W : World), (∀ x, W.cell? x = W1.cell? x) → (∀ x, W.frozen? x = W1.frozen? x) → ∀ ty dc, (Builtin.copy_ #[54, 54] ty #[.slice (some ⟨b, off + i, none⟩) (n + m - i) dc, .slice (some ⟨vb, voff, none⟩) m vc]).run Try.prog W = .ok (goInt vs.length) (W.setCells b (off + i) vs) := fun W hWc hWf ty dc =>
    run_copy_cells W _ _ ty 53 b (off + i) (n + m - i) dc ⟨vb, voff, none⟩ m vc vs Try.underlying54 hsz (by rw [hvl]; simp only [Nat.min_def]; split <;> omega)
      (fun j v hj => by
        rw [Addr.add_lit, hWc, hW1, World.cell?_setCells_out b _ _ _ _ (fun h _ => absurd h hvb)]
        exact hvs j v hj)
      (fun j hj => by rw [hWc, Nat.add_assoc]; exact hsp1 _ (by omega)) (fun j hj => by rw [hWf, hW1, World.frozen?_setCells, Nat.add_assoc]; exact hfz _ (by omega)) h1v
  rw [← hW1] at hcp1
  go_enter Try.func45, Try.ntmps45
  go_wp2_with (simp only [hov])
  go_region_law_o (refine step_copy_runI rfl _ _ 54 54 rfl _ _ (by simp [Act.eval, Act.put]) (by simp [Act.eval, Act.put]) (hcp1 _ _ _) ?_)
  go_wp2_with (at_builtin; refine wpList_copy_runI _ rfl _ _ 54 54 rfl _ _ rfl rfl (hcp2 _ (fun _ => rfl) (fun _ => rfl) _ _) ?_)
  go_ret
  first | exact ⟨rfl, rfl⟩ | exact ⟨rfl, by rw [hW1]⟩

set_option maxHeartbeats 4000000 in
set_option maxRecDepth 100000 in
theorem ins_end_room (b off n c vb voff m vc : Nat) (vs : List Value) (w : World) (hm : 0 < m) (hroom : n + m ≤ c) (hc63 : n + m ≤ 9223372036854775807)
    (hvl : vs.length = m) (hsp : ∀ j, j < m → (w.cell? ⟨b, off + n + j, none⟩).isSome = true) (hfz : ∀ j, j < m → w.frozen? ⟨b, off + n + j, none⟩ = false)
    (hvs : ∀ j v, vs[j]? = some v → w.cell? ⟨vb, voff + j, none⟩ = some v) (h1v : ∀ v ∈ vs, v.oneCell' = true) :
    Calls Try.prog 45 #[.slice (some ⟨b, off, none⟩) n c, .int .i64 n, .slice (some ⟨vb, voff, none⟩) m vc] w fun e w' =>
      e = .returned (.slice (some ⟨b, off, none⟩) (n + m) c) ∧ w' = w.setCells b (off + n) vs := by
  have t0 := Try.underlying0; have a0 := Try.isAgg0; have z0 := Try.sizeOf0; have v0 := Try.zeroValue0; have u0 := run_underlying Try.underlying0
  have t3 := Try.underlying3; have a3 := Try.isAgg3; have z3 := Try.sizeOf3; have v3 := Try.zeroValue3; have u3 := run_underlying Try.underlying3
  have t4 := Try.underlying4; have a4 := Try.isAgg4; have z4 := Try.sizeOf4; have v4 := Try.zeroValue4; have u4 := run_underlying Try.underlying4
  have t9 := Try.underlying53; have a9 := Try.isAgg53; have z9 := Try.sizeOf53; have v9 := Try.zeroValue53; have u9 := run_underlying Try.underlying53
  have t24 := Try.underlying54; have a24 := Try.isAgg54; have z24 := Try.sizeOf54; have v24 := Try.zeroValue54; have u24 := run_underlying Try.underlying54
  have mixed := (show Try.prog.follows .mixedOrders = true by kernel_rfl)
  have hz1 : ¬ ((m : Int) = 0) := by omega
  have hsrc : Src Try.prog 1 54 (.slice (some ⟨vb, voff, none⟩) m vc) m vs w := Src.ofSlice w Try.underlying54 ⟨vb, voff, none⟩ m vc vs (by omega) (fun j u hj => by rw [Addr.add_lit]; exact hvs j u hj) h1v
  go_enter Try.func45, Try.ntmps45
  go_wp2_with (at_builtin; refine wpList_append_room1 _ rfl _ _ 54 54 rfl 53 _ _ Try.underlying54 infoP b off n c rfl _ rfl m vs hsrc hroom (by rw [hvl]; exact hsp) (by rw [hvl]; exact hfz) ?_)
  go_ret
  exact ⟨rfl, rfl⟩

set_option maxHeartbeats 4000000 in
set_option maxRecDepth 100000 in
theorem ins_end_grow (base : Option Addr) (n c vb voff m vc : Nat) (cs vs : List Value) (w : World) (hm : 0 < m) (hnc : n ≤ c) (hroom : c < n + m) (hbig : (n + m) * 16 ≤ 140737488355328)
    (hcl : cs.length = n) (hvl : vs.length = m) (hnil : base = none → n = 0)
    (hcs : ∀ a, base = some a → ∀ j v, cs[j]? = some v → w.cell? (a.add j) = some v)
    (hvs : ∀ j v, vs[j]? = some v → w.cell? ⟨vb, voff + j, none⟩ = some v) (h1v : ∀ v ∈ vs, v.oneCell' = true) :
    Calls Try.prog 45 #[.slice base n c, .int .i64 n, .slice (some ⟨vb, voff, none⟩) m vc] w fun e w' =>
      e = .returned (.slice (some ⟨w.heap.size, 0, none⟩) (n + m) (grownCap w (n + m) c 53)) ∧
      w' = w.drew.alloc (.cells ((cs ++ vs).toArray ++ Builtin.zeroCells (Value.agg #[Value.string ⟨#[]⟩]).cells (grownCap w (n + m) c 53 - (n + m))) 53) := by
  have t0 := Try.underlying0; have a0 := Try.isAgg0; have z0 := Try.sizeOf0; have v0 := Try.zeroValue0; have u0 := run_underlying Try.underlying0
  have t3 := Try.underlying3; have a3 := Try.isAgg3; have z3 := Try.sizeOf3; have v3 := Try.zeroValue3; have u3 := run_underlying Try.underlying3
  have t4 := Try.underlying4; have a4 := Try.isAgg4; have z4 := Try.sizeOf4; have v4 := Try.zeroValue4; have u4 := run_underlying Try.underlying4
  have t9 := Try.underlying53; have a9 := Try.isAgg53; have z9 := Try.sizeOf53; have v9 := Try.zeroValue53; have u9 := run_underlying Try.underlying53
  have t24 := Try.underlying54; have a24 := Try.isAgg54; have z24 := Try.sizeOf54; have v24 := Try.zeroValue54; have u24 := run_underlying Try.underlying54
  have mixed := (show Try.prog.follows .mixedOrders = true by kernel_rfl)
  obtain ⟨i0, hi0, hz0, hzs, hzb⟩ := info_parts infoP
  have hz1 : ¬ ((m : Int) = 0) := by omega
  have hsrc : Src Try.prog i0.size 54 (.slice (some ⟨vb, voff, none⟩) m vc) m vs w := by
    rw [hzs]
    exact Src.ofSlice w Try.underlying54 ⟨vb, voff, none⟩ m vc vs (by omega) (fun j u hj => by rw [Addr.add_lit]; exact hvs j u hj) h1v
  have hold : (Builtin.firstCells i0.size n (.slice base n c)).run Try.prog w.drew = .ok cs.toArray w.drew := by
    rw [hzs]
    cases base with
    | none =>
      have h0 := hnil rfl
      subst h0
      rw [List.length_eq_zero_iff.1 hcl]
      exact run_firstCells_none w.drew 1 0 0 c
    | some a => exact run_firstCells_some w.drew 1 n a n c cs (by omega) (fun j v hj => hcs a rfl j v hj)
  have hrun : ∀ ty, (Builtin.append_ #[54, 54] ty #[.slice base n c, .slice (some ⟨vb, voff, none⟩) m vc]).run Try.prog w = _ := fun ty =>
    run_append_grow_src w 54 54 ty 53 i0 _ Try.underlying54 hi0 hz0 base n c cs hold _ m vs hsrc hroom (by omega) (by rw [hzb]; exact growslice_fits hroom hbig)
  go_enter Try.func45, Try.ntmps45
  cases base with
  | none =>
    have h0 := hnil rfl
    subst h0
    go_wp2_with (at_builtin; refine Lib.wpList_append_run _ rfl _ _ _ _ rfl _ _ rfl rfl _ _ (hrun _) ?_)
    go_ret
    exact ⟨rfl, rfl⟩
  | some a =>
    obtain ⟨ab, ao, asp⟩ := a
    go_wp2_with (at_builtin; refine Lib.wpList_append_run _ rfl _ _ _ _ rfl _ _ rfl rfl _ _ (hrun _) ?_)
    all_goals (go_ret; exact ⟨rfl, rfl⟩)

set_option maxHeartbeats 4000000 in
set_option maxRecDepth 100000 in
theorem ins_grow (b off n c i vb voff m vc : Nat) (cs vs : List Value) (w : World) (hi : i < n) (hm : 0 < m) (hnc : n ≤ c) (hroom : c < n + m) (hbig : (n + m) * 16 ≤ 140737488355328)
    (hcl : cs.length = n) (hvl : vs.length = m)
    (hcs : ∀ j v, cs[j]? = some v → w.cell? ⟨b, off + j, none⟩ = some v)
    (hvs : ∀ j v, vs[j]? = some v → w.cell? ⟨vb, voff + j, none⟩ = some v) (h1c : ∀ v ∈ cs, v.oneCell' = true) (h1v : ∀ v ∈ vs, v.oneCell' = true) :
    Calls Try.prog 45 #[.slice (some ⟨b, off, none⟩) n c, .int .i64 i, .slice (some ⟨vb, voff, none⟩) m vc] w fun e w' =>
      e = .returned (.slice (some ⟨w.heap.size, 0, none⟩) (n + m) (grownCap w (n + m) c 53)) ∧
      w' = (((w.alloc (.cells ((cs.take i).toArray ++ Builtin.zeroCells (Value.agg #[Value.string ⟨#[]⟩]).cells (n + m - i) ++ Builtin.zeroCells (Value.agg #[Value.string ⟨#[]⟩]).cells (grownCap w (n + m) c 53 - (n + m))) 53)).drew.setCells w.heap.size i vs).drew).setCells w.heap.size (i + m) (cs.drop i) := by
  have t0 := Try.underlying0; have a0 := Try.isAgg0; have z0 := Try.sizeOf0; have v0 := Try.zeroValue0; have u0 := run_underlying Try.underlying0
  have t3 := Try.underlying3; have a3 := Try.isAgg3; have z3 := Try.sizeOf3; have v3 := Try.zeroValue3; have u3 := run_underlying Try.underlying3
  have t4 := Try.underlying4; have a4 := Try.isAgg4; have z4 := Try.sizeOf4; have v4 := Try.zeroValue4; have u4 := run_underlying Try.underlying4
  have t9 := Try.underlying53; have a9 := Try.isAgg53; have z9 := Try.sizeOf53; have v9 := Try.zeroValue53; have u9 := run_underlying Try.underlying53
  have t24 := Try.underlying54; have a24 := Try.isAgg54; have z24 := Try.sizeOf54; have v24 := Try.zeroValue54; have u24 := run_underlying Try.underlying54
  have mixed := (show Try.prog.follows .mixedOrders = true by kernel_rfl)
  obtain ⟨i0, hi0, hz0, hzs, hzb⟩ := info_parts infoP
  have hz1 : ¬ ((m : Int) = 0) := by omega
  have hz2 : ¬ ((i : Int) = (n : Int)) := by omega
  have hz3 : (c : Int) < (n : Int) + (m : Int) := by omega
  have hsz : (Try.prog.info? 53).map (·.size) = some 1 := by rw [hi0]; simp [hzs]
  have hbw : b < w.heap.size := block_lt_of_cell (hcs 0 _ (List.getElem?_eq_getElem (by omega)))
  have hvw : vb < w.heap.size := block_lt_of_cell (hvs 0 _ (List.getElem?_eq_getElem (by omega)))
  have hkk : (n : Int) + (m : Int) - (i : Int) = ((n + m - i : Nat) : Int) := by omega
  have hik : i + (n + m - i) = n + m := by omega
  have hold : (Builtin.firstCells i0.size i (.slice (some ⟨b, off, none⟩) i c)).run Try.prog w.drew = .ok (cs.take i).toArray w.drew := by
    rw [hzs]
    exact run_firstCells_some w.drew 1 i ⟨b, off, none⟩ i c (cs.take i) (by rw [List.length_take]; omega) (fun j v hj => by
      rw [Addr.add_lit]
      rw [List.getElem?_take] at hj
      split at hj
      · exact hcs j v hj
      · cases hj)
  have hrz : ∀ ty, (Builtin.append_ #[54, 3] ty #[.slice (some ⟨b, off, none⟩) i c, .int .i64 ((n : Int) + (m : Int) - (i : Int))]).run Try.prog w =
      .ok (.slice (some ⟨w.heap.size, 0, none⟩) (n + m) (grownCap w (n + m) c 53)) (w.drew.alloc (.cells ((cs.take i).toArray ++ Builtin.zeroCells (Value.agg #[Value.string ⟨#[]⟩]).cells (n + m - i) ++ Builtin.zeroCells (Value.agg #[Value.string ⟨#[]⟩]).cells (grownCap w (n + m) c 53 - (n + m))) 53)) := fun ty => by
    have h := Lib.run_append_grow_zeros w 54 3 ty 53 i0 _ .i64 .i64 Try.underlying54 Try.underlying3 hi0 hz0 (some ⟨b, off, none⟩) i c (cs.take i) hold (n + m - i) (by omega) (by omega) (by omega) (by omega) (by rw [hzb]; omega) (by rw [hzb, hik]; exact growslice_fits hroom hbig)
    rw [hik] at h
    rw [hkk]
    exact h
  obtain ⟨G, hG⟩ : ∃ G, G = grownCap w (n + m) c 53 := ⟨_, rfl⟩
  obtain ⟨ROW, hROW⟩ : ∃ ROW : Array Value, ROW = (cs.take i).toArray ++ Builtin.zeroCells (Value.agg #[Value.string ⟨#[]⟩]).cells (n + m - i) ++ Builtin.zeroCells (Value.agg #[Value.string ⟨#[]⟩]).cells (G - (n + m)) := ⟨_, rfl⟩
  rw [← hG] at hrz ⊢
  rw [← hROW] at hrz ⊢
  have hRl : n + m ≤ ROW.size := by
    rw [hROW]
    simp [Builtin.zeroCells, Value.cells]
    omega
  obtain ⟨W1, hW1⟩ : ∃ W1, W1 = w.drew.alloc (.cells ROW 53) := ⟨_, rfl⟩
  rw [← hW1] at hrz
  have hN : ∀ j, j < n + m → (W1.cell? ⟨w.heap.size, j, none⟩).isSome = true := fun j hj => by
    rw [hW1, World.cell?_alloc_at (w := w.drew) ROW _ w.heap.size j rfl, Array.getElem?_eq_getElem (by omega)]; rfl
  have hNf : ∀ j, W1.frozen? ⟨w.heap.size, j, none⟩ = false := fun j => by rw [hW1]; exact World.frozen?_alloc_at (w := w.drew) ROW _ w.heap.size j rfl
  have hOb : ∀ j v, w.cell? ⟨b, j, none⟩ = some v → W1.cell? ⟨b, j, none⟩ = some v := fun j v h => by rw [hW1, World.cell?_alloc_past (w := w.drew) _ b j hbw]; exact h
  have hOv : ∀ j v, w.cell? ⟨vb, j, none⟩ = some v → W1.cell? ⟨vb, j, none⟩ = some v := fun j v h => by rw [hW1, World.cell?_alloc_past (w := w.drew) _ vb j hvw]; exact h
  have hcpA : ∀ (W : World), (∀ x, W.cell? x = W1.cell? x) → (∀ x, W.frozen? x = W1.frozen? x) → ∀ ty dc, (Builtin.copy_ #[54, 54] ty #[.slice (some ⟨w.heap.size, i, none⟩) (n + m - i) dc, .slice (some ⟨vb, voff, none⟩) m vc]).run Try.prog W = .ok (goInt vs.length) (W.setCells w.heap.size i vs) := fun W hWc hWf ty dc =>
    run_copy_cells W _ _ ty 53 w.heap.size i (n + m - i) dc ⟨vb, voff, none⟩ m vc vs Try.underlying54 hsz (by rw [hvl]; simp only [Nat.min_def]; split <;> omega)
      (fun j v hj => by rw [Addr.add_lit, hWc]; exact hOv _ v (hvs j v hj))
      (fun j hj => by rw [hWc]; exact hN _ (by omega)) (fun j hj => by rw [hWf]; exact hNf _) h1v
  have hGn : n + m ≤ G := by rw [hG]; exact grownCap_ge w _ _ _
  have hG63 : G ≤ 9223372036854775807 := by
    have := grownCap_le_maxLen w (n + m) c 53 (by unfold maxLen; omega)
    rw [← hG] at this
    unfold maxLen at this
    omega
  have hGi : ¬ (G = i) := by omega
  have hGim : ¬ (G = i + m) := by omega
  have hci : ¬ (c = i) := by omega
  have hbN : b ≠ w.heap.size := by omega
  have hdl : (cs.drop i).length = n - i := by rw [List.length_drop, hcl]
  have hcpB : ∀ (W : World), (∀ x, W.cell? x = (W1.setCells w.heap.size i vs).cell? x) → (∀ x, W.frozen? x = (W1.setCells w.heap.size i vs).frozen? x) → ∀ ty dc sc, (Builtin.copy_ #[54, 54] ty #[.slice (some ⟨w.heap.size, i + m, none⟩) (n + m - (i + m)) dc, .slice (some ⟨b, off + i, none⟩) (n - i) sc]).run Try.prog W = .ok (goInt (cs.drop i).length) (W.setCells w.heap.size (i + m) (cs.drop i)) := fun W hWc hWf ty dc sc =>
    run_copy_cells W _ _ ty 53 w.heap.size (i + m) (n + m - (i + m)) dc ⟨b, off + i, none⟩ (n - i) sc (cs.drop i) Try.underlying54 hsz (by rw [hdl]; simp only [Nat.min_def]; split <;> omega)
      (fun j v hj => by
        rw [Addr.add_lit, hWc, World.cell?_setCells_out _ _ _ _ _ (fun h _ => absurd h hbN), Nat.add_assoc]
        exact hOb _ v (hcs (i + j) v (by rwa [List.getElem?_drop] at hj)))
      (fun j hj => by rw [hWc]; exact isSome_setCells _ _ _ _ (fun t ht => hN _ (by omega)) _ (hN _ (by omega)))
      (fun j hj => by rw [hWf, World.frozen?_setCells]; exact hNf _) (fun v hv => h1c v (List.mem_of_mem_drop hv))
  subst hW1
  have hE1 : ∀ x, ((w.alloc (.cells ROW 53)).drew).cell? x = (w.drew.alloc (.cells ROW 53)).cell? x := fun x => rfl
  have hE2 : ∀ x, ((w.alloc (.cells ROW 53)).drew).frozen? x = (w.drew.alloc (.cells ROW 53)).frozen? x := fun x => rfl
  have hF1 : ∀ x, (((w.alloc (.cells ROW 53)).drew.setCells w.heap.size i vs).drew).cell? x = ((w.drew.alloc (.cells ROW 53)).setCells w.heap.size i vs).cell? x := fun x => rfl
  have hF2 : ∀ x, (((w.alloc (.cells ROW 53)).drew.setCells w.heap.size i vs).drew).frozen? x = ((w.drew.alloc (.cells ROW 53)).setCells w.heap.size i vs).frozen? x := fun x => rfl
  have hw1 : IntKind.i64.wrap ((i : Int) + (m : Int)) = (i : Int) + (m : Int) := by rw [IntKind.wrap_i64]; omega
  have hb1 : (0 : Int) ≤ (i : Int) + (m : Int) := by omega
  have hin : i ≤ n := by omega
  have htn : ((i : Int) + (m : Int)).toNat = i + m := by omega
  have hb3 : (i : Int) ≤ (n : Int) := by omega
  clear hkk hik hold hROW hG hRl
  go_enter Try.func45, Try.ntmps45
  go_wp2_with (first
    | (at_builtin; refine Lib.wpList_append_run _ rfl _ _ _ _ rfl _ _ rfl rfl _ _ (hrz _) ?_)
    | (at_builtin; refine wpList_copy_runI _ rfl _ _ 54 54 rfl _ _ rfl rfl (hcpA _ hE1 hE2 _ _) ?_)
    | (at_builtin; refine wpList_copy_runI _ rfl _ _ 54 54 rfl _ _ rfl rfl (hcpB _ (fun _ => rfl) (fun _ => rfl) _ _ _) ?_))
  go_region_law_o (refine step_copy_runI rfl _ _ 54 54 rfl (.slice (some ⟨w.heap.size, i + m, none⟩) (n + m - (i + m)) (G - (i + m))) (.slice (some ⟨b, off + i, none⟩) (n - i) (c - i)) (by simp [Act.eval, Act.put]) (by simp [Act.eval, Act.put]) (hcpB _ hF1 hF2 3 (G - (i + m)) (c - i)) ?_)
  go_wp2
  go_ret
  exact ⟨rfl, rfl⟩
end Go.Proofs.Ytfnepeilccainaa.Den

/- Proved here: what a call of slices.Insert at []piece.part does to the caller's store. Its condition: the program's type table is laid as the check 'layB' tells. -/
namespace Go.Proofs.Ytfnepeilccainaa.Den
open Go Go.Proofs
set_option linter.unusedVariables false
set_option linter.unusedSimpArgs false
/-- slices.Insert, of one element. -/
def insD (S : List Blk) (slot : Nat) (args : List AV) : Option (Bool × AV × List Blk × List Nat) := match args with
  | [.w e1 id, .i k i, .w e2 id'] => match S.getD id .dead, S.getD id' .dead with
    | .arr _ xs, .arr _ [v] => some (decide (e1 = 53 ∧ e2 = 53 ∧ k = .i64 ∧ id ≠ id' ∧ 0 ≤ i ∧ i ≤ (xs.length : Int) ∧ xs.length + 1 ≤ 16777216), .w 53 slot, (kill [id, id'] S).set slot (.arr 53 (xs.take i.toNat ++ v :: xs.drop i.toNat)), [])
    | _, _ => none
  | _ => none
section
variable {C : Cfg} {F : Nat → Prop} {σ : Sig} {S : List Blk} {w : World} {slot : Nat}
theorem ins_ok (hl : layB C = true) (hP : C.P = Try.prog) {args : List AV} {vals : Array Value} {q : AV × List Blk × List Nat} {o : Oper} (h1 : C.sz 53 = 1) (hu8 : isU8 C 53 = false) (ho : slotsOf o.op = 8) (hs : Sim C F σ S w) (hsl : ∀ j, slot ≤ j → j < slot + 8 → Slot σ S j)
    (hn : vals.size = args.length) (hv : ∀ (j : Nat) a v, args[j]? = some a → vals[j]? = some v → VR C w F σ a v) (h : insD S slot args = some (true, q)) : Calls C.P 45 vals w fun e w' => ∃ val, e = .returned val ∧ Post C o F σ S w slot q.1 q.2.1 q.2.2 val w' := by
  rw [hP]
  unfold insD at h
  split at h <;> try (cases h; done)
  rename_i e1 id k i e2 id'
  split at h <;> try (cases h; done)
  rename_i e3 xs e4 v hS hS'
  simp only [Option.some.injEq, Prod.mk.injEq] at h
  obtain ⟨hq, h⟩ := h
  have hq := of_decide_eq_true hq
  obtain ⟨rfl, rfl, rfl, hne, hi0, hi1, hbig⟩ := hq
  subst h
  dsimp only
  obtain ⟨v0, v1, v2, rfl, g0, g1, g2⟩ : ∃ v0 v1 v2, vals = #[v0, v1, v2] ∧ VR C w F σ (.w 53 id) v0 ∧ VR C w F σ (.i .i64 i) v1 ∧ VR C w F σ (.w 53 id') v2 := by
    obtain ⟨l⟩ := vals
    match l, hn with
    | [a, b, c], _ => exact ⟨a, b, c, rfl, hv 0 _ a rfl rfl, hv 1 _ b rfl rfl, hv 2 _ c rfl rfl⟩
  obtain rfl := g1.i_inv
  obtain ⟨ii, rfl⟩ := Int.eq_ofNat_of_zero_le hi0
  simp only [Int.toNat_natCast]
  have hii : ii ≤ xs.length := by omega
  have r0 := g0.one_inv (by simp) (by simp) (by simp)
  have r2 := g2.one_inv (by simp) (by simp) (by simp)
  have hslot := hsl slot (Nat.le_refl _) (by omega)
  have hlv : live S id := by unfold live; rw [hS]; simp
  have hlv' : live S id' := by unfold live; rw [hS']; simp
  have hb' := hs.blk id'
  rw [hS'] at hb'
  obtain ⟨vb, vo, vc, cvc, hσ', rfl, hA', hk1⟩ : ∃ vb vo vc cvc, σ id' = .arr vb vo 1 cvc 53 ∧ v2 = .slice (some ⟨vb, vo, none⟩) 1 vc ∧ ArrAt C w F 53 [v] vb vo cvc ∧ e4 = 53 := by
    rcases r2.w_inv with ⟨b, o1, n, c, cap, k1, k2, k3, rfl⟩ | ⟨k1, ad, _, rfl⟩
    · rw [k1] at hb'
      obtain ⟨rfl, rfl, hA⟩ := hb'
      exact ⟨b, o1, cap, c, k1, rfl, hA, rfl⟩
    · rw [k1] at hb'; cases hb'
  obtain ⟨curv, tv, vsv, hhv, _, hszv, hcv, hvl, hvcell, hvone, hvr⟩ := hA'.single h1
  obtain ⟨u, rfl⟩ : ∃ u, vsv = [u] := by
    match vsv, hvl with
    | [u], _ => exact ⟨u, rfl⟩
  have hvu := hvr 0 v u rfl rfl
  have hu1 : u.oneCell' = true := hvone u (by simp)
  have hvs : ∀ j x, [u][j]? = some x → w.cell? ⟨vb, vo + j, none⟩ = some x := fun j x hx => by
    have := hvcell j x hx
    simpa [World.cell?, hhv] using this
  have hb := hs.blk id
  rw [hS] at hb
  have hlen : (xs.take ii ++ v :: xs.drop ii).length = xs.length + 1 := by simp; omega
  have Qm : ∀ {w' : World}, (∀ d, F d → w'.heap[d]? = w.heap[d]?) → ∀ {x : AV} {c : Value}, Wt C 53 x ∧ R C w F noSig x [c] → Wt C 53 x ∧ R C w' F noSig x [c] := fun hF x c hx => ⟨hx.1, hx.2.mono hF (fun _ h => h) noSig fun _ _ => rfl⟩
  -- pairs of elements and their cells
  have pairs : ∀ {cs : List Value}, cs.length = xs.length → (∀ (j : Nat) x c, xs[j]? = some x → cs[j]? = some c → Wt C 53 x ∧ R C w F noSig x [c]) → ∀ {w' : World}, (∀ d, F d → w'.heap[d]? = w.heap[d]?) → (cs.take ii ++ u :: cs.drop ii).length = (xs.take ii ++ v :: xs.drop ii).length ∧ ∀ (j : Nat) y n, (xs.take ii ++ v :: xs.drop ii)[j]? = some y → (cs.take ii ++ u :: cs.drop ii)[j]? = some n → Wt C 53 y ∧ R C w' F noSig y [n] := fun {cs} hn hq w' hF => by
    obtain ⟨zs, rfl, rfl, hz⟩ := zip_of hn hq
    have e1 : (zs.map (·.1)).take ii ++ v :: (zs.map (·.1)).drop ii = ((zs.take ii ++ (v, u) :: zs.drop ii)).map (·.1) := by simp [List.map_take, List.map_drop]
    have e2 : (zs.map (·.2)).take ii ++ u :: (zs.map (·.2)).drop ii = ((zs.take ii ++ (v, u) :: zs.drop ii)).map (·.2) := by simp [List.map_take, List.map_drop]
    rw [e1, e2]
    refine ⟨by simp, fun j y n hy hn => ?_⟩
    refine zip_at (Q := fun x c => Wt C 53 x ∧ R C w' F noSig x [c]) (zs := zs.take ii ++ (v, u) :: zs.drop ii) (fun p hp => ?_) j y n hy hn
    simp only [List.mem_append, List.mem_cons] at hp
    rcases hp with hp | rfl | hp
    · exact Qm hF (hz p (List.mem_of_mem_take hp))
    · exact Qm hF hvu
    · exact Qm hF (hz p (List.mem_of_mem_drop hp))
  -- a new row
  have grown : ∀ {cs : List Value} {w' : World} {G : Nat} {cur0 : Array Value}, cs.length = xs.length → (∀ (j : Nat) x c, xs[j]? = some x → cs[j]? = some c → Wt C 53 x ∧ R C w F noSig x [c]) → Turned w w' w.heap.size → w'.heap[w.heap.size]? = some (.cells cur0 53 (0, 0)) → cur0.size = G → xs.length + 1 ≤ G → (∀ j n, (cs.take ii ++ u :: cs.drop ii)[j]? = some n → cur0[j]? = some n) → Post C o F σ S w slot (.w 53 slot) ((kill [id, id'] S).set slot (.arr 53 (xs.take ii ++ v :: xs.drop ii))) [] (.slice (some ⟨w.heap.size, 0, none⟩) (xs.length + 1) G) w' := fun {cs w' G cur0} hn hq ht hh hsz hG hat => by
    have := hs.post_row (w' := w') (o := o) (ks := [id, id']) (b := w.heap.size) (o1 := 0) (c := G) (cap := G) (e := 53) (ys := xs.take ii ++ v :: xs.drop ii) ho hslot ht (.inl (Nat.le_refl _)) (by rw [hlen]; exact hG) (Nat.le_refl _) fun hF => by
      obtain ⟨p1, p2⟩ := pairs hn hq hF
      exact arr_single h1 hh (fun _ => rfl) (by omega) (by rw [hlen]; exact hG) p1 (fun j n hj => by rw [Nat.zero_add]; exact hat j n hj) p2
    rw [hlen] at this
    exact this
  rcases r0.w_inv with ⟨b, o1, n, c, cap, k1, k2, k3, rfl⟩ | ⟨k1, ad, _, rfl⟩
  · rw [k1] at hb
    obtain ⟨rfl, rfl, hA⟩ := hb
    obtain ⟨cur, t, cs, hh, ht8, hsz, hc, hcl, hcell, hcone, hcr⟩ := hA.single h1
    have hbk : (σ id).blk = some b := by rw [k1]; rfl
    have hbk' : (σ id').blk = some vb := by rw [hσ']; rfl
    have hvb : vb ≠ b := fun e => hne (hs.inj id id' b hlv hlv' hbk (by rw [hbk', e]))
    have hcs : ∀ j x, cs[j]? = some x → w.cell? ⟨b, o1 + j, none⟩ = some x := fun j x hx => by
      have := hcell j x hx
      simpa [World.cell?, hh] using this
    have hbm : ∃ id2 ∈ [id, id'], live S id2 ∧ (σ id2).blk = some b := ⟨id, by simp, hlv, hbk⟩
    -- in place
    have inplace : ∀ {w' : World} {cur' : Array Value}, Turned w w' b → w'.heap[b]? = some (.cells cur' t (0, 0)) → cur'.size = cur.size → xs.length + 1 ≤ cap → (∀ j n, (cs.take ii ++ u :: cs.drop ii)[j]? = some n → cur'[o1 + j]? = some n) → Post C o F σ S w slot (.w 53 slot) ((kill [id, id'] S).set slot (.arr 53 (xs.take ii ++ v :: xs.drop ii))) [] (.slice (some ⟨b, o1, none⟩) (xs.length + 1) cap) w' := fun {w' cur'} ht hh' hsz' hroom hat => by
      have := hs.post_row (w' := w') (o := o) (ks := [id, id']) (b := b) (o1 := o1) (c := c) (cap := cap) (e := 53) (ys := xs.take ii ++ v :: xs.drop ii) ho hslot ht (.inr hbm) (by rw [hlen]; exact hroom) k3 fun hF => by
        obtain ⟨p1, p2⟩ := pairs hcl hcr hF
        exact arr_single h1 hh' ht8 (by rw [hsz']; exact hsz) (by rw [hlen]; omega) p1 hat p2
      rw [hlen] at this
      exact this
    by_cases hroom : xs.length + 1 ≤ cap
    · have hsp : ∀ j, j < cap → (w.cell? ⟨b, o1 + j, none⟩).isSome = true := fun j hj => by
        simp [World.cell?, hh]
        omega
      have hfz : ∀ j, w.frozen? ⟨b, j, none⟩ = false := fun j => by simp [World.frozen?, hh]
      by_cases hend : ii = xs.length
      · subst hend
        refine (ins_end_room b o1 xs.length cap vb vo 1 vc [u] w (by omega) hroom (by omega) rfl (fun j hj => by rw [Nat.add_assoc]; exact hsp _ (by omega)) (fun j hj => by rw [Nat.add_assoc]; exact hfz _) hvs (by simpa using hu1)).mono ?_
        rintro e w' ⟨rfl, rfl⟩
        refine ⟨_, rfl, inplace (Turned.setCells _ _ _) (setCells_heap hh (by simp; omega) (by simpa using hu1)) (rowSet_size (by simp; omega)) hroom fun j n hj => ?_⟩
        have htk : cs.take xs.length = cs := by rw [← hcl]; exact List.take_length
        have hdk : cs.drop xs.length = [] := by rw [← hcl]; exact List.drop_length
        rw [htk, hdk] at hj
        rw [rowSet_at (by simp; omega)]
        rw [List.getElem?_append, hcl] at hj
        by_cases hjn : j < xs.length
        · rw [if_pos hjn] at hj
          rw [if_neg (by omega)]
          exact hcell j n hj
        · rw [if_neg hjn] at hj
          have := getElem?_lt hj
          simp only [List.length_cons, List.length_nil] at this ⊢
          rw [if_pos (by omega), show o1 + j - (o1 + xs.length) = j - xs.length by omega]
          exact hj
      · have hlt : ii < xs.length := by omega
        refine (ins_shift b o1 xs.length cap ii vb vo 1 vc cs [u] w hlt (by omega) hroom (by omega) hvb hcl rfl hcs (fun j hj => hsp _ (by omega)) (fun j hj => hfz _) hvs hcone (by simpa using hu1) tv t curv.size cur.size (by simp [World.shape?, hhv]) (by simp [World.shape?, hh]) (by omega) (by simp [World.frozen?, hhv]) (by simp [World.frozen?, hhv])).mono ?_
        rintro e w' ⟨rfl, rfl⟩
        have hd : (cs.drop ii).length = xs.length - ii := by rw [List.length_drop, hcl]
        have hh0 : w.drew.heap[b]? = some (.cells cur t (0, 0)) := hh
        have hs1 : (rowSet cur (o1 + (ii + 1)) (cs.drop ii)).size = cur.size := rowSet_size (by rw [hd]; omega)
        have hh1 := setCells_heap (oo := o1 + (ii + 1)) (vs := cs.drop ii) hh0 (by rw [hd]; omega) (fun v hv => hcone v (List.mem_of_mem_drop hv))
        have hh2 := setCells_heap (oo := o1 + ii) (vs := [u]) hh1 (by rw [hs1]; simp; omega) (by simpa using hu1)
        exact ⟨_, rfl, inplace (((Turned.drew _).trans (Turned.setCells _ _ _)).trans (Turned.setCells _ _ _)) hh2 (by rw [rowSet_size (by rw [hs1]; simp; omega), hs1]) hroom (ins_row (fun j hj => by
          obtain ⟨x, hx⟩ := getElem?_of_lt (l := cs) (j := j) (by omega)
          rw [hx]
          exact hcell j x hx) (by omega) (by omega))⟩
    · have hG := fun n => grownCap_ge w n cap 53
      by_cases hend : ii = xs.length
      · subst hend
        refine (ins_end_grow (some ⟨b, o1, none⟩) xs.length cap vb vo 1 vc cs [u] w (by omega) k2 (by omega) (by omega) hcl rfl (by simp) (fun a ha j x hx => by cases ha; rw [Addr.add_mid]; exact hcs j x hx) hvs (by simpa using hu1)).mono ?_
        rintro e w' ⟨rfl, rfl⟩
        refine ⟨_, rfl, grown hcl hcr ((Turned.drew _).trans (Turned.alloc _)) (alloc_heap w.drew _) (by
          have := hG (xs.length + 1)
          simp only [Array.size_append, List.size_toArray, List.length_append, hcl, Builtin.zeroCells, Array.size_map, Array.size_range, Value.cells]
          simp
          omega) (hG _) fun j n hj => ?_⟩
        have htk : cs.take xs.length = cs := by rw [← hcl]; exact List.take_length
        have hdk : cs.drop xs.length = [] := by rw [← hcl]; exact List.drop_length
        rw [htk, hdk] at hj
        have hlt := getElem?_lt hj
        rw [Array.getElem?_append_left (by simpa using hlt), List.getElem?_toArray]
        exact hj
      · have hlt : ii < xs.length := by omega
        refine (ins_grow b o1 xs.length cap ii vb vo 1 vc cs [u] w hlt (by omega) k2 (by omega) (by omega) hcl rfl hcs hvs hcone (by simpa using hu1)).mono ?_
        rintro e w' ⟨rfl, rfl⟩
        have hG1 := hG (xs.length + 1)
        generalize grownCap w (xs.length + 1) cap 53 = G at hG1 ⊢
        have hd : (cs.drop ii).length = xs.length - ii := by rw [List.length_drop, hcl]
        have htk : (cs.take ii).length = ii := by rw [List.length_take]; omega
        generalize hROW : ((cs.take ii).toArray ++ Builtin.zeroCells (Value.agg #[Value.string ⟨#[]⟩]).cells (xs.length + 1 - ii) ++ Builtin.zeroCells (Value.agg #[Value.string ⟨#[]⟩]).cells (G - (xs.length + 1))) = ROW
        have hRs : ROW.size = G := by
          rw [← hROW]
          simp [Builtin.zeroCells, Value.cells]
          omega
        have hh0 : (w.alloc (.cells ROW 53)).drew.heap[w.heap.size]? = some (.cells ROW 53 (0, 0)) := alloc_heap w _
        have hh1 := setCells_heap (oo := ii) (vs := [u]) hh0 (by rw [hRs]; simp; omega) (by simpa using hu1)
        have hs1 : (rowSet ROW ii [u]).size = ROW.size := rowSet_size (by rw [hRs]; simp; omega)
        have hh2 := setCells_heap (w := ((w.alloc (.cells ROW 53)).drew.setCells w.heap.size ii [u]).drew) (oo := ii + 1) (vs := cs.drop ii) hh1 (by rw [hs1, hRs, hd]; omega) (fun v hv => hcone v (List.mem_of_mem_drop hv))
        refine ⟨_, rfl, grown hcl hcr (((((Turned.alloc _).trans (Turned.drew _)).trans (Turned.setCells _ _ _)).trans (Turned.drew _)).trans (Turned.setCells _ _ _)) hh2 (by rw [rowSet_size (by rw [hs1, hRs, hd]; omega), hs1, hRs]) hG1 fun j n hj => ?_⟩
        rw [rowSet_at (by rw [hs1, hRs, hd]; omega), hd, rowSet_at (by rw [hRs]; simp; omega)]
        rw [List.getElem?_append, htk] at hj
        simp only [List.length_cons, List.length_nil]
        by_cases hj1 : j < ii
        · rw [if_pos hj1] at hj
          rw [if_neg (by omega), if_neg (by omega), ← hROW, Array.getElem?_append_left (by simp; omega), Array.getElem?_append_left (by simpa [htk] using hj1), List.getElem?_toArray]
          exact hj
        · rw [if_neg hj1] at hj
          by_cases hj2 : j = ii
          · subst hj2
            rw [if_neg (by omega), if_pos (by omega), Nat.sub_self]
            rw [Nat.sub_self] at hj
            exact hj
          · obtain ⟨m, rfl⟩ : ∃ m, j = ii + 1 + m := ⟨j - ii - 1, by omega⟩
            rw [show ii + 1 + m - ii = m + 1 by omega, List.getElem?_cons_succ] at hj
            have := getElem?_lt hj
            rw [hd] at this
            rw [if_pos (by omega), show ii + 1 + m - (ii + 1) = m by omega]
            exact hj
  · rw [k1] at hb
    have hx0 : xs = [] := by
      cases xs with
      | nil => rfl
      | cons x xs => cases hb
    subst hx0
    obtain rfl : ii = 0 := by simpa using hii
    have h30 := hb
    refine (ins_end_grow ad 0 0 vb vo 1 vc [] [u] w (by omega) (Nat.le_refl _) (by omega) (by omega) rfl rfl (by simp) (fun a ha j x hx => by simp at hx) hvs (by simpa using hu1)).mono ?_
    rintro e w' ⟨rfl, rfl⟩
    have hG1 := grownCap_ge w (0 + 1) 0 53
    generalize grownCap w (0 + 1) 0 53 = G at hG1 ⊢
    refine ⟨_, rfl, grown (cs := []) rfl (fun j x c hj => by simp at hj) ((Turned.drew _).trans (Turned.alloc _)) (alloc_heap w.drew _) (by
      simp only [Array.size_append, List.size_toArray, Builtin.zeroCells, Array.size_map, Array.size_range, Value.cells]
      simp
      omega) (by simpa using hG1) fun j n hj => ?_⟩
    have hlt := getElem?_lt hj
    rw [Array.getElem?_append_left (by simpa using hlt), List.getElem?_toArray]
    exact hj
end
end Go.Proofs.Ytfnepeilccainaa.Den

/- Proved here: what slices.Delete at []api.Edit does, of the first element. No condition but those each theorem names. -/
namespace Go.Proofs.Ytfnepeilccainaa.Den
open Go Go.Proofs Go.Shelf Go.RowKit Go.Lib
set_option linter.unusedVariables false
set_option linter.unusedSimpArgs false
/-- clear, of rows of whatever many cells. -/
theorem run_clear_rows {P : Program} (w : World) (t e ty : TypeId) (z : Value) (ht : P.underlying t = some (.slice e)) (hv : ∀ w, (zeroValue e).run P w = .ok z w) (zs : List Value) (b o n c : Nat) (hn : 0 < n) (hzs : (Builtin.zeroCells z.cells n).toList = zs) (h1 : ∀ v ∈ zs, v.oneCell' = true)
    (hc : ∀ j, j < zs.length → (w.cell? ⟨b, o + j, none⟩).isSome = true) (hf : ∀ j, j < zs.length → w.frozen? ⟨b, o + j, none⟩ = false) :
    (Builtin.clear_ #[t] ty #[.slice (some ⟨b, o, none⟩) n c]).run P w = .ok (.tuple #[]) (w.setCells b o zs) := by
  have hst := run_storeCells_cells (P := P) b o zs 0 w (by simpa using hc) (by simpa using hf) h1
  simp only [Nat.add_zero] at hst
  obtain ⟨m, rfl⟩ : ∃ m, n = m + 1 := ⟨n - 1, by omega⟩
  simp [Builtin.clear_, run_underlying ht, hv, hzs, hst]
theorem isSome_setCells' (b : Nat) (vs : List Value) (o : Nat) (w : World) (h : ∀ j, j < vs.length → (w.cell? ⟨b, o + j, none⟩).isSome = true) (k : Nat) (hk : (w.cell? ⟨b, k, none⟩).isSome = true) : ((w.setCells b o vs).cell? ⟨b, k, none⟩).isSome = true := by
  by_cases hin : o ≤ k ∧ k < o + vs.length
  · have := World.cell?_setCells_in b vs o w h (k - o) (by omega)
    rw [show o + (k - o) = k by omega] at this
    rw [this]
    simp [List.getElem?_eq_getElem (show k - o < vs.length by omega)]
  · rw [World.cell?_setCells_out b vs o w ⟨b, k, none⟩ (fun _ _ => by show k < o ∨ o + vs.length ≤ k; omega)]
    exact hk
theorem infoE : (Try.prog.info? 31).map (fun i => (i.zero, i.size, i.bytes)) = some (some (Value.agg #[.int .i64 0, .int .i64 0, Value.string ⟨#[]⟩]), 3, 32) := by kernel_rfl
set_option maxHeartbeats 4000000 in
set_option maxRecDepth 1000000 in
theorem del_walk (b off m cap : Nat) (news : List Value) (w : World) (hnc : m + 1 ≤ cap) (hbig : m + 1 ≤ 16777216) (hlen : news.length = m * 3) (hc : ∀ j u, news[j]? = some u → w.cell? ⟨b, off + 3 + j, none⟩ = some u) (hone : ∀ u ∈ news, u.oneCell' = true)
    (hsp : ∀ j, j < m * 3 + 3 → (w.cell? ⟨b, off + j, none⟩).isSome = true) (hfz : ∀ j, w.frozen? ⟨b, j, none⟩ = false) :
    Calls Try.prog 23 #[.slice (some ⟨b, off, none⟩) (m + 1) cap, .int .i64 0, .int .i64 1] w fun e w' =>
      e = .returned (.slice (some ⟨b, off, none⟩) m cap) ∧ w' = (w.drew.setCells b off news).setCells b (off + m * 3) [.int .i64 0, .int .i64 0, .string ⟨#[]⟩] := by
  have mixed := (show Try.prog.follows .mixedOrders = true by kernel_rfl)
  have t0 := Try.underlying0; have a0 := Try.isAgg0; have z0 := Try.sizeOf0; have v0 := Try.zeroValue0; have u0 := run_underlying Try.underlying0
  have t3 := Try.underlying3; have a3 := Try.isAgg3; have z3 := Try.sizeOf3; have v3 := Try.zeroValue3; have u3 := run_underlying Try.underlying3
  have t4 := Try.underlying4; have a4 := Try.isAgg4; have z4 := Try.sizeOf4; have v4 := Try.zeroValue4; have u4 := run_underlying Try.underlying4
  have t22 := Try.underlying22; have a22 := Try.isAgg22; have z22 := Try.sizeOf22; have v22 := Try.zeroValue22; have u22 := run_underlying Try.underlying22
  have a31 := Try.isAgg31; have z31 := Try.sizeOf31; have v31 := Try.zeroValue31
  obtain ⟨i0, hi0, hz0, hz1, hz2⟩ := info_parts infoE
  obtain ⟨A, hA, hsrc⟩ : ∃ A : Addr, (if cap = 1 then some (⟨b, off, none⟩ : Addr) else some ⟨b, off + 3, none⟩) = some A ∧ Hid (∀ t u, news[t]? = some u → w.drew.cell? (A.add t) = some u) := by
    by_cases h : cap = 1
    · refine ⟨⟨b, off, none⟩, by simp [h], fun t u hu => ?_⟩
      have h0 : news.length = 0 := by rw [hlen]; omega
      rw [List.length_eq_zero_iff.1 h0] at hu
      simp at hu
    · exact ⟨⟨b, off + 3, none⟩, by simp [h], fun t u hu => by rw [Addr.add_lit]; exact hc t u hu⟩
  have s1 : Hid (news.length = m * 3) := hlen
  have s2 : Hid (∀ u ∈ news, u.oneCell' = true) := hone
  have s3 : Hid (∀ t, t < news.length → (w.drew.cell? ⟨b, off + 0 * 3 + t, none⟩).isSome = true ∧ w.drew.frozen? ⟨b, off + 0 * 3 + t, none⟩ = false) := fun t ht => ⟨by
    rw [Nat.zero_mul, Nat.add_zero]
    exact hsp t (by rw [hlen] at ht; omega), hfz _⟩
  obtain ⟨W1, hW1⟩ : ∃ W1, W1 = w.drew.setCells b (off + 0 * 3) news := ⟨_, rfl⟩
  have hcell1 : ∀ k, k < m * 3 + 3 → (W1.cell? ⟨b, off + k, none⟩).isSome = true := fun k hk => by
    rw [hW1]
    exact isSome_setCells' b _ _ _ (fun j hj => by rw [hlen] at hj; rw [Nat.zero_mul, Nat.add_zero]; exact hsp j (by omega)) _ (hsp k hk)
  have hfz1 : ∀ k, W1.frozen? ⟨b, k, none⟩ = false := fun k => by rw [hW1, World.frozen?_setCells]; exact hfz k
  have hcl : ∀ ty c, (Builtin.clear_ #[22] ty #[.slice (some ⟨b, off + m * 3, none⟩) 1 c]).run Try.prog W1 = .ok (.tuple #[]) (W1.setCells b (off + m * 3) [.int .i64 0, .int .i64 0, .string ⟨#[]⟩]) := fun ty c =>
    run_clear_rows W1 22 31 ty _ t22 v31 _ b (off + m * 3) _ c (by omega) (by kernel_rfl) (by simp [Value.oneCell']) (fun j hj => by rw [Nat.add_assoc]; exact hcell1 _ (by simp at hj; omega)) fun j _ => hfz1 _
  have hW : Hid (W1 = w.drew.setCells b (off + 0 * 3) news) := hW1
  have hWe : Hid (W1 = w.drew.setCells b off news) := by
    have h2 := hW1
    rw [Nat.zero_mul, Nat.add_zero] at h2
    exact h2
  have hle1 : (1 : Int) ≤ (m : Int) + 1 := by omega
  have hle2 : (m : Int) ≤ (m : Int) + 1 := by omega
  have hic : 0 ≤ cap := by omega
  have hjc : 1 ≤ cap := by omega
  have hmc : m ≤ cap := by omega
  have hne : ¬ (cap = m) := by omega
  have hne1 : ¬ ((0 : Int) = 1) := by omega
  have hz3 : (0 : Int) + (m : Int) = m := by omega
  clear hW1 hc hsp hfz hlen hcell1 hfz1 hone
  go_enter Try.func23, Try.ntmps23
  go_wp2_with fail
  go_region_law_o (refine step_append_room rfl (.tmp 22) (.tmp 25) 22 rfl 31 i0 3 t22 hi0 hz1 b off 0 cap (by simp [Act.eval, Act.put]) A m (cap - 1) news (by simp [Act.eval, Act.put]; trace_state) s1.out hsrc.out s2.out (by omega) s3.out ?_; rw [← hW.out])
  go_wp2
  go_ret
  exact ⟨rfl, by rw [hWe.out]⟩
end Go.Proofs.Ytfnepeilccainaa.Den

/- Proved here: what a call of slices.Delete at []api.Edit, of the first element, does to the caller's store. Its condition: the program's type table is laid as the check 'layB' tells. -/
namespace Go.Proofs.Ytfnepeilccainaa.Den
open Go Go.Proofs
set_option linter.unusedVariables false
set_option linter.unusedSimpArgs false
/-- slices.Delete, of the first element. -/
def delD (S : List Blk) (slot : Nat) (args : List AV) : Option (Bool × AV × List Blk × List Nat) := match args with
  | [.w e1 id, .i k i, .i k' j] => match S.getD id .dead with
    | .arr _ ys => some (decide (e1 = 31 ∧ k = .i64 ∧ k' = .i64 ∧ i = 0 ∧ j = 1 ∧ 1 ≤ ys.length ∧ ys.length ≤ 16777216), .w 31 slot, (kill [id] S).set slot (.arr 31 (ys.drop 1)), [])
    | _ => none
  | _ => none
section
variable {C : Cfg} {F : Nat → Prop} {σ : Sig} {S : List Blk} {w : World} {slot : Nat}
theorem flat_rows {cells : Nat → List Value} {n s : Nat} (h : ∀ j, j < n → (cells j).length = s) : ∀ j, j < n → (((List.range n).map cells).flatten.drop (j * s)).take s = cells j := fun j hj => by
  obtain ⟨h1, h2⟩ := flat_at ((List.range n).map cells) (List.replicate n s) (by simp) fun k c m hc hm => by
    have hk := getElem?_lt hc
    simp only [List.length_map, List.length_range] at hk
    rw [List.getElem?_map, List.getElem?_range hk] at hc
    rw [List.getElem?_replicate, if_pos hk] at hm
    simp only [Option.map_some, Option.some.injEq] at hc hm
    rw [← hc, ← hm]
    exact h k hk
  have := h2 j (cells j) (by rw [List.getElem?_map, List.getElem?_range hj]; rfl)
  rw [List.take_replicate, List.sum_replicate_nat, Nat.min_eq_left (by omega), h j hj] at this
  exact this
theorem del_ok (hl : layB C = true) (hP : C.P = Try.prog) {args : List AV} {vals : Array Value} {q : AV × List Blk × List Nat} {o : Oper} (h3 : C.sz 31 = 3) (ho : slotsOf o.op = 8) (hs : Sim C F σ S w) (hsl : ∀ j, slot ≤ j → j < slot + 8 → Slot σ S j)
    (hn : vals.size = args.length) (hv : ∀ (j : Nat) a v, args[j]? = some a → vals[j]? = some v → VR C w F σ a v) (h : delD S slot args = some (true, q)) : Calls C.P 23 vals w fun e w' => ∃ val, e = .returned val ∧ Post C o F σ S w slot q.1 q.2.1 q.2.2 val w' := by
  rw [hP]
  unfold delD at h
  split at h <;> try (cases h; done)
  rename_i e1 id k i k' j
  split at h <;> try (cases h; done)
  rename_i e3 ys hS
  simp only [Option.some.injEq, Prod.mk.injEq] at h
  obtain ⟨hq, h⟩ := h
  have hq := of_decide_eq_true hq
  obtain ⟨rfl, rfl, rfl, rfl, rfl, h1ys, hbig⟩ := hq
  subst h
  obtain ⟨x, xs, rfl⟩ : ∃ x xs, ys = x :: xs := by
    cases ys with
    | nil => simp at h1ys
    | cons x xs => exact ⟨x, xs, rfl⟩
  simp only [List.drop_succ_cons, List.drop_zero, List.length_cons] at hbig ⊢
  obtain ⟨v0, v1, v2, rfl, g0, g1, g2⟩ : ∃ v0 v1 v2, vals = #[v0, v1, v2] ∧ VR C w F σ (.w 31 id) v0 ∧ VR C w F σ (.i .i64 0) v1 ∧ VR C w F σ (.i .i64 1) v2 := by
    obtain ⟨l⟩ := vals
    match l, hn with
    | [a, b, c], _ => exact ⟨a, b, c, rfl, hv 0 _ a rfl rfl, hv 1 _ b rfl rfl, hv 2 _ c rfl rfl⟩
  obtain rfl := g1.i_inv
  obtain rfl := g2.i_inv
  have r0 := g0.one_inv (by simp) (by simp) (by simp)
  have hslot := hsl slot (Nat.le_refl _) (by omega)
  have hlv : live S id := by unfold live; rw [hS]; simp
  have hb := hs.blk id
  rw [hS] at hb
  rcases r0.w_inv with ⟨b, o1, n, c, cap, k1, k2, k3, rfl⟩ | ⟨k1, ad, _, rfl⟩
  · rw [k1] at hb
    obtain ⟨rfl, rfl, hA⟩ := hb
    have hbk : (σ id).blk = some b := by rw [k1]; rfl
    have hbm : ∃ id2 ∈ [id], live S id2 ∧ (σ id2).blk = some b := ⟨id, by simp, hlv, hbk⟩
    obtain ⟨hc, cur, t, hh, hsz, cells, hx⟩ := hA
    rw [h3] at hsz
    simp only [List.length_cons] at hc k2
    have hrows : ∀ j, j < xs.length → (cells (j + 1)).length = 3 ∧ w.rangeAt b (o1 + 3 + j * 3) (cells (j + 1)) := fun j hj => by
      obtain ⟨y, hy⟩ := getElem?_of_lt (l := x :: xs) (j := j + 1) (by simpa using hj)
      obtain ⟨_, _, p3, p4⟩ := hx (j + 1) y hy
      rw [h3] at p3 p4
      exact ⟨p3, by rw [show o1 + 3 + j * 3 = o1 + (j + 1) * 3 by omega]; exact p4⟩
    obtain ⟨f1, f2⟩ := rangeAt_rows (w := w) (b := b) (o := o1 + 3) (s := 3) (cells := fun j => cells (j + 1)) xs.length hrows
    have frows := flat_rows (cells := fun j => cells (j + 1)) (n := xs.length) (s := 3) fun j hj => (hrows j hj).1
    have fone : ∀ u ∈ ((List.range xs.length).map fun j => cells (j + 1)).flatten, u.oneCell' = true := fun u hu => by
      obtain ⟨cc, h1, h2⟩ := List.mem_flatten.mp hu
      obtain ⟨j, hj, rfl⟩ := List.mem_map.mp h1
      obtain ⟨y, hy⟩ := getElem?_of_lt (l := x :: xs) (j := j + 1) (by simpa using List.mem_range.mp hj)
      exact (hx (j + 1) y hy).2.1.plain u h2
    generalize hnews : ((List.range xs.length).map fun j => cells (j + 1)).flatten = news at f1 f2 frows fone
    have hcap : xs.length + 1 ≤ cap := k2
    refine (del_walk b o1 xs.length cap news w hcap hbig f1 (fun j u hj => f2 j u hj) fone (fun j hj => by simp [World.cell?, hh]; omega) (fun j => by simp [World.frozen?, hh])).mono ?_
    rintro e w' ⟨rfl, rfl⟩
    have hh0 : w.drew.heap[b]? = some (.cells cur t.1 (0, 0)) := hh
    have hs1 : (rowSet cur o1 news).size = cur.size := rowSet_size (by rw [f1]; omega)
    have hh1 := setCells_heap (oo := o1) (vs := news) hh0 (by rw [f1]; omega) fone
    have hh2 := setCells_heap (oo := o1 + xs.length * 3) (vs := [.int .i64 0, .int .i64 0, .string ⟨#[]⟩]) hh1 (by rw [hs1]; simp; omega) (by simp [Value.oneCell'])
    refine ⟨_, rfl, hs.post_row (o := o) (ks := [id]) (b := b) (o1 := o1) (c := c) (cap := cap) (e := 31) (ys := xs) ho hslot (((Turned.drew _).trans (Turned.setCells _ _ _)).trans (Turned.setCells _ _ _)) (.inr hbm) (by omega) k3 fun hF => ⟨by omega, _, t, hh2, ?_, fun j => cells (j + 1), fun j y hy => ?_⟩⟩
    · rw [rowSet_size (by rw [hs1]; simp; omega), hs1, h3]
      exact hsz
    · have hj := getElem?_lt hy
      obtain ⟨p1, p2, p3, _⟩ := hx (j + 1) y (by simpa using hy)
      refine ⟨p1, p2.mono hF (fun _ h => h) noSig fun _ _ => rfl, p3, ?_⟩
      rw [h3]
      refine rangeAt_part (cs := news) (fun k v hk => ?_) (frows j hj)
      have hklt := getElem?_lt hk
      rw [f1] at hklt
      simp only [World.cell?, hh2, Option.isSome_none, Bool.false_eq_true, if_false]
      rw [rowSet_at (by rw [hs1]; simp; omega), if_neg (by simp; omega), rowSet_at (by rw [f1]; omega), f1, if_pos (by omega), show o1 + k - o1 = k by omega]
      exact hk
  · rw [k1] at hb
    cases hb
end
end Go.Proofs.Ytfnepeilccainaa.Den

/- Proved here: what slices.Replace at []piece.part does, of some elements by one. No condition but those each theorem names. -/
namespace Go.Proofs.Ytfnepeilccainaa.Den
open Go Go.Proofs Go.Shelf Go.RowKit Go.Lib
set_option linter.unusedVariables false
set_option linter.unusedSimpArgs false
set_option maxHeartbeats 4000000 in
set_option maxRecDepth 1000000 in
/-- Nothing is replaced: it is put in. -/
theorem rep_same (b off n cap i vb voff vc : Nat) (w : World) (hi : i ≤ n) (hnc : n ≤ cap) (hbig : n + 1 ≤ 16777216) {P : Value → World → Prop}
    (hins : Calls Try.prog 45 #[.slice (some ⟨b, off, none⟩) n cap, .int .i64 i, .slice (some ⟨vb, voff, none⟩) 1 vc] w fun e w' => ∃ val, e = .returned val ∧ P val w') :
    Calls Try.prog 36 #[.slice (some ⟨b, off, none⟩) n cap, .int .i64 i, .int .i64 i, .slice (some ⟨vb, voff, none⟩) 1 vc] w fun e w' => ∃ val, e = .returned val ∧ P val w' := by
  have mixed := (show Try.prog.follows .mixedOrders = true by kernel_rfl)
  have t0 := Try.underlying0; have a0 := Try.isAgg0; have z0 := Try.sizeOf0; have v0 := Try.zeroValue0; have u0 := run_underlying Try.underlying0
  have t3 := Try.underlying3; have a3 := Try.isAgg3; have z3 := Try.sizeOf3; have v3 := Try.zeroValue3; have u3 := run_underlying Try.underlying3
  have t4 := Try.underlying4; have a4 := Try.isAgg4; have z4 := Try.sizeOf4; have v4 := Try.zeroValue4; have u4 := run_underlying Try.underlying4
  have t22 := Try.underlying54; have a22 := Try.isAgg54; have z22 := Try.sizeOf54; have v22 := Try.zeroValue54; have u22 := run_underlying Try.underlying54
  have a31 := Try.isAgg53; have z31 := Try.sizeOf53; have v31 := Try.zeroValue53
  have h1 : (0 : Int) ≤ (i : Int) := by omega
  have h2 : (i : Int) ≤ (cap : Int) := by omega
  go_enter Try.func36, Try.ntmps36
  go_wp2_with (first
    | (go_at_call 45; refine hins.mono ?_; rintro e w' ⟨val, rfl, hp⟩)
    | fail)
  all_goals (go_ret; exact ⟨_, rfl, hp⟩)
set_option maxHeartbeats 4000000 in
set_option maxRecDepth 1000000 in
/-- Of nothing. -/
theorem rep_nil (vb voff vc : Nat) (ad : Option Addr) (w : World) {P : Value → World → Prop}
    (hins : Calls Try.prog 45 #[.slice ad 0 0, .int .i64 ((0 : Nat) : Int), .slice (some ⟨vb, voff, none⟩) 1 vc] w fun e w' => ∃ val, e = .returned val ∧ P val w') :
    Calls Try.prog 36 #[.slice ad 0 0, .int .i64 ((0 : Nat) : Int), .int .i64 ((0 : Nat) : Int), .slice (some ⟨vb, voff, none⟩) 1 vc] w fun e w' => ∃ val, e = .returned val ∧ P val w' := by
  have mixed := (show Try.prog.follows .mixedOrders = true by kernel_rfl)
  have t0 := Try.underlying0; have a0 := Try.isAgg0; have z0 := Try.sizeOf0; have v0 := Try.zeroValue0; have u0 := run_underlying Try.underlying0
  have t3 := Try.underlying3; have a3 := Try.isAgg3; have z3 := Try.sizeOf3; have v3 := Try.zeroValue3; have u3 := run_underlying Try.underlying3
  have t4 := Try.underlying4; have a4 := Try.isAgg4; have z4 := Try.sizeOf4; have v4 := Try.zeroValue4; have u4 := run_underlying Try.underlying4
  have t22 := Try.underlying54; have a22 := Try.isAgg54; have z22 := Try.sizeOf54; have v22 := Try.zeroValue54; have u22 := run_underlying Try.underlying54
  have a31 := Try.isAgg53; have z31 := Try.sizeOf53; have v31 := Try.zeroValue53
  go_enter Try.func36, Try.ntmps36
  go_wp2_with (first
    | (go_at_call 45; refine hins.mono ?_; rintro e w' ⟨val, rfl, hp⟩)
    | fail)
  all_goals (go_ret; exact ⟨_, rfl, hp⟩)
set_option maxHeartbeats 4000000 in
set_option maxRecDepth 1000000 in
/-- All from a place on are replaced. -/
theorem rep_end (b off n cap i vb voff vc : Nat) (u : Value) (w : World) (hi : i < n) (hnc : n ≤ cap) (hbig : n + 1 ≤ 16777216) (hu : w.cell? ⟨vb, voff, none⟩ = some u) (hu1 : u.oneCell' = true)
    (hsp : ∀ j, j < n → (w.cell? ⟨b, off + j, none⟩).isSome = true) (hfz : ∀ j, w.frozen? ⟨b, j, none⟩ = false) :
    Calls Try.prog 36 #[.slice (some ⟨b, off, none⟩) n cap, .int .i64 i, .int .i64 n, .slice (some ⟨vb, voff, none⟩) 1 vc] w fun e w' =>
      e = .returned (.slice (some ⟨b, off, none⟩) (i + 1) cap) ∧ ∃ zs : List Value, (∀ z ∈ zs, z.oneCell' = true) ∧ i + 1 + zs.length ≤ n ∧ w' = (w.setCells b (off + i) [u]).setCells b (off + (i + 1)) zs := by
  have mixed := (show Try.prog.follows .mixedOrders = true by kernel_rfl)
  have t0 := Try.underlying0; have a0 := Try.isAgg0; have z0 := Try.sizeOf0; have v0 := Try.zeroValue0; have u0 := run_underlying Try.underlying0
  have t3 := Try.underlying3; have a3 := Try.isAgg3; have z3 := Try.sizeOf3; have v3 := Try.zeroValue3; have u3 := run_underlying Try.underlying3
  have t4 := Try.underlying4; have a4 := Try.isAgg4; have z4 := Try.sizeOf4; have v4 := Try.zeroValue4; have u4 := run_underlying Try.underlying4
  have t22 := Try.underlying54; have a22 := Try.isAgg54; have z22 := Try.sizeOf54; have v22 := Try.zeroValue54; have u22 := run_underlying Try.underlying54
  have a31 := Try.isAgg53; have z31 := Try.sizeOf53; have v31 := Try.zeroValue53
  have h1 : (0 : Int) ≤ (i : Int) := by omega
  have h2 : (i : Int) ≤ (cap : Int) := by omega
  have h3 : (n : Int) ≤ (cap : Int) := by omega
  have h4 : (i : Int) ≤ (n : Int) := by omega
  have h5 : ¬ ((i : Int) = (n : Int)) := by omega
  have h5' : ¬ (i = n) := by omega
  have hsrc : Src Try.prog 1 54 (.slice (some ⟨vb, voff, none⟩) 1 vc) 1 [u] w := Src.ofSlice w Try.underlying54 ⟨vb, voff, none⟩ 1 vc [u] (by rfl) (fun j v hj => by
    cases j with
    | zero => simp only [List.getElem?_cons_zero, Option.some.injEq] at hj; subst hj; rw [Addr.add_lit, Nat.add_zero]; exact hu
    | succ j => simp at hj) (by simpa using hu1)
  have hic : i ≤ cap := by omega
  have hnl : ¬ (cap = i + 1) ∨ i + 1 = n := by omega
  by_cases hlt : i + 1 < n
  · have hlt' : (i : Int) + 1 < (n : Int) := by omega
    have hcl : ∀ ty c, (Builtin.clear_ #[54] ty #[.slice (some ⟨b, off + (i + 1), none⟩) (n - (i + 1)) c]).run Try.prog (w.setCells b (off + i) [u]) = .ok (.tuple #[]) ((w.setCells b (off + i) [u]).setCells b (off + (i + 1)) (Builtin.zeroCells (Value.agg #[Value.string ⟨#[]⟩]).cells (n - (i + 1))).toList) := fun ty c =>
      run_clear_rows _ 54 53 ty _ t22 v31 _ b _ _ c (by omega) rfl (by
        intro v hv
        simp [Builtin.zeroCells, Value.cells] at hv
        obtain ⟨a, _, rfl⟩ := hv
        simp [Value.oneCell', Nat.mod_one]) (fun j hj => by
        simp [Builtin.zeroCells, Value.cells] at hj
        rw [Nat.add_assoc]
        exact isSome_setCells' b _ _ _ (fun k hk => by simp at hk; subst hk; exact hsp _ (by omega)) _ (hsp _ (by omega))) fun j _ => by rw [World.frozen?_setCells]; exact hfz _
    have hne : ¬ (cap = i + 1) := by omega
    go_enter Try.func36, Try.ntmps36
    go_wp2_with (at_builtin; refine wpList_append_room1 _ rfl _ _ 54 54 rfl 53 _ _ Try.underlying54 infoP b off i cap rfl _ rfl 1 [u] hsrc (by omega) (fun j hj => by simp at hj; subst hj; rw [Nat.add_zero]; exact hsp _ (by omega)) (fun j hj => hfz _) ?_)
    go_ret
    refine ⟨rfl, _, ?_, ?_, rfl⟩
    · intro v hv
      simp [Builtin.zeroCells, Value.cells] at hv
      obtain ⟨a, _, rfl⟩ := hv
      simp [Value.oneCell', Nat.mod_one]
    · simp [Builtin.zeroCells, Value.cells]
      omega
  · have hlt' : ¬ ((i : Int) + 1 < (n : Int)) := by omega
    go_enter Try.func36, Try.ntmps36
    go_wp2_with (at_builtin; refine wpList_append_room1 _ rfl _ _ 54 54 rfl 53 _ _ Try.underlying54 infoP b off i cap rfl _ rfl 1 [u] hsrc (by omega) (fun j hj => by simp at hj; subst hj; rw [Nat.add_zero]; exact hsp _ (by omega)) (fun j hj => hfz _) ?_)
    go_ret
    exact ⟨rfl, [], by simp, by simp; omega, by simp [World.setCells]⟩
set_option maxHeartbeats 4000000 in
set_option maxRecDepth 1000000 in
/-- Some in the midst are replaced: in place. -/
theorem rep_mid (b off n cap i j vb voff vc : Nat) (cs : List Value) (u : Value) (w : World) (hi : i < j) (hj : j < n) (hnc : n ≤ cap) (hbig : n + 1 ≤ 16777216) (hvb : vb ≠ b) (hu : w.cell? ⟨vb, voff, none⟩ = some u) (hu1 : u.oneCell' = true)
    (hcl : cs.length = n) (hcs : ∀ j v, cs[j]? = some v → w.cell? ⟨b, off + j, none⟩ = some v) (hcone : ∀ v ∈ cs, v.oneCell' = true)
    (hsp : ∀ j, j < n → (w.cell? ⟨b, off + j, none⟩).isSome = true) (hfz : ∀ j, w.frozen? ⟨b, j, none⟩ = false) :
    Calls Try.prog 36 #[.slice (some ⟨b, off, none⟩) n cap, .int .i64 i, .int .i64 j, .slice (some ⟨vb, voff, none⟩) 1 vc] w fun e w' =>
      e = .returned (.slice (some ⟨b, off, none⟩) (i + 1 + (n - j)) cap) ∧ ∃ zs : List Value, (∀ z ∈ zs, z.oneCell' = true) ∧ i + 1 + (n - j) + zs.length ≤ n ∧ w' = (((w.drew.setCells b (off + i) [u]).drew).setCells b (off + (i + 1)) (cs.drop j)).setCells b (off + (i + 1 + (n - j))) zs := by
  have mixed := (show Try.prog.follows .mixedOrders = true by kernel_rfl)
  have t0 := Try.underlying0; have a0 := Try.isAgg0; have z0 := Try.sizeOf0; have v0 := Try.zeroValue0; have u0 := run_underlying Try.underlying0
  have t3 := Try.underlying3; have a3 := Try.isAgg3; have z3 := Try.sizeOf3; have v3 := Try.zeroValue3; have u3 := run_underlying Try.underlying3
  have t4 := Try.underlying4; have a4 := Try.isAgg4; have z4 := Try.sizeOf4; have v4 := Try.zeroValue4; have u4 := run_underlying Try.underlying4
  have t22 := Try.underlying54; have a22 := Try.isAgg54; have z22 := Try.sizeOf54; have v22 := Try.zeroValue54; have u22 := run_underlying Try.underlying54
  have a31 := Try.isAgg53; have z31 := Try.sizeOf53; have v31 := Try.zeroValue53
  have hsz : (Try.prog.info? 53).map (·.size) = some 1 := by
    obtain ⟨i0, hi0, h0, h1, h2⟩ := info_parts infoP
    rw [hi0]; simp [h1]
  have h1 : (0 : Int) ≤ (i : Int) := by omega
  have h1' : (0 : Int) ≤ (j : Int) := by omega
  have h2 : (i : Int) ≤ (cap : Int) := by omega
  have h3 : (j : Int) ≤ (cap : Int) := by omega
  have h4 : (i : Int) ≤ (j : Int) := by omega
  have h4' : (j : Int) ≤ (n : Int) := by omega
  have h4'' : (i : Int) ≤ (n : Int) := by omega
  have h5 : ¬ ((i : Int) = (j : Int)) := by omega
  have h6 : ¬ ((j : Int) = (n : Int)) := by omega
  have hdl : (cs.drop j).length = n - j := by rw [List.length_drop, hcl]
  have hcp1 : ∀ (W : World), (∀ x, W.cell? x = w.cell? x) → (∀ x, W.frozen? x = w.frozen? x) → ∀ ty m dc, 1 ≤ m → i + m ≤ n → (Builtin.copy_ #[54, 54] ty #[.slice (some ⟨b, off + i, none⟩) m dc, .slice (some ⟨vb, voff, none⟩) 1 vc]).run Try.prog W = .ok (goInt 1) (W.setCells b (off + i) [u]) := fun W hWc hWf ty m dc hm hmn =>
    run_copy_cells W _ _ ty 53 b (off + i) m dc ⟨vb, voff, none⟩ 1 vc [u] Try.underlying54 hsz (by simp only [Nat.min_def, List.length_cons, List.length_nil]; split <;> omega)
      (fun k v hk => by
        cases k with
        | zero => simp only [List.getElem?_cons_zero, Option.some.injEq] at hk; subst hk; rw [Addr.add_lit, Nat.add_zero, hWc]; exact hu
        | succ k => simp at hk)
      (fun k hk => by simp at hk; subst hk; rw [hWc, Nat.add_zero]; exact hsp _ (by omega)) (fun k hk => by rw [hWf]; exact hfz _) (by simpa using hu1)
  have hw1 : IntKind.i64.wrap ((i : Int) + 1) = (i : Int) + 1 := by rw [IntKind.wrap_i64]; omega
  have hw2 : IntKind.i64.wrap ((i : Int) + 1 + ((n - j : Nat) : Int)) = ((i + 1 + (n - j) : Nat) : Int) := by rw [IntKind.wrap_i64]; omega
  have hnj : (n : Int) - (j : Int) = ((n - j : Nat) : Int) := by omega
  have c1 : ¬ (cap = j) := by omega
  have c2 : ¬ (cap = i) := by omega
  have c3 : ¬ (cap = i + 1) := by omega
  have c4 : ¬ ((cap : Int) < ((i + 1 + (n - j) : Nat) : Int)) := by omega
  have c5 : (0 : Int) ≤ ((i + 1 + (n - j) : Nat) : Int) := by omega
  have c6 : ((i + 1 + (n - j) : Nat) : Int) ≤ (cap : Int) := by omega
  have c7 : (i : Int) + 1 ≤ (j : Int) := by omega
  have hm1 : i + 1 + (n - j) - i = n - j + 1 := by omega
  have hm2 : i + 1 + (n - j) - (i + 1) = n - j := by omega
  have c8 : (0 : Int) ≤ (i : Int) + 1 := by omega
  have c9 : (i : Int) + 1 ≤ ((i + 1 + (n - j) : Nat) : Int) := by omega
  have c9' : (i : Int) + 1 ≤ (i : Int) + 1 + ((n - j : Nat) : Int) := by omega
  have c10' : (i : Int) ≤ (i : Int) + 1 + ((n - j : Nat) : Int) := by omega
  have c5' : (0 : Int) ≤ (i : Int) + 1 + ((n - j : Nat) : Int) := by omega
  have c6' : (i : Int) + 1 + ((n - j : Nat) : Int) ≤ (cap : Int) := by omega
  have c13' : (i : Int) + 1 + ((n - j : Nat) : Int) ≤ (n : Int) := by omega
  have c14 : ((i : Int) + 1 + ((n - j : Nat) : Int)).toNat = i + 1 + (n - j) := by omega
  have c10 : (i : Int) ≤ ((i + 1 + (n - j) : Nat) : Int) := by omega
  obtain ⟨W1, hW1⟩ : ∃ W1, W1 = (w.drew.setCells b (off + i) [u]).drew := ⟨_, rfl⟩
  have hsp1 : ∀ k, k < n → (W1.cell? ⟨b, off + k, none⟩).isSome = true := fun k hk => by
    rw [hW1]
    exact isSome_setCells b [u] _ w.drew (fun j hj => by simp at hj; subst hj; exact hsp _ (by omega)) _ (hsp k hk)
  have hfz1 : ∀ k, W1.frozen? ⟨b, k, none⟩ = false := fun k => by
    rw [hW1]
    show (w.drew.setCells b (off + i) [u]).frozen? _ = false
    rw [World.frozen?_setCells]
    exact hfz k
  have hcp2 : ∀ ty dc sc, (Builtin.copy_ #[54, 54] ty #[.slice (some ⟨b, off + (i + 1), none⟩) (n - j) dc, .slice (some ⟨b, off + j, none⟩) (n - j) sc]).run Try.prog W1 = .ok (goInt (cs.drop j).length) (W1.setCells b (off + (i + 1)) (cs.drop j)) := fun ty dc sc =>
    run_copy_cells W1 _ _ ty 53 b (off + (i + 1)) (n - j) dc ⟨b, off + j, none⟩ (n - j) sc (cs.drop j) Try.underlying54 hsz (by rw [hdl]; exact (Nat.min_self _).symm)
      (fun k v hk => by
        rw [Addr.add_lit, hW1]
        show (w.drew.setCells b (off + i) [u]).cell? _ = _
        rw [World.cell?_setCells_out b [u] _ _ _ (fun _ _ => by simp; omega), Nat.add_assoc]
        exact hcs (j + k) v (by rwa [List.getElem?_drop] at hk))
      (fun k hk => by rw [hdl] at hk; rw [Nat.add_assoc]; exact hsp1 _ (by omega)) (fun k hk => hfz1 _) (fun v hv => hcone v (List.mem_of_mem_drop hv))
  obtain ⟨W2, hW2⟩ : ∃ W2, W2 = W1.setCells b (off + (i + 1)) (cs.drop j) := ⟨_, rfl⟩
  have hsp2 : ∀ k, k < n → (W2.cell? ⟨b, off + k, none⟩).isSome = true := fun k hk => by
    rw [hW2]
    exact isSome_setCells b _ _ _ (fun m hm => by rw [hdl] at hm; rw [Nat.add_assoc]; exact hsp1 _ (by omega)) _ (hsp1 k hk)
  have hfz2 : ∀ k, W2.frozen? ⟨b, k, none⟩ = false := fun k => by rw [hW2, World.frozen?_setCells]; exact hfz1 k
  rw [← hW2] at hcp2
  by_cases hj1 : j = i + 1
  · subst hj1
    have e1 : i + 1 + (n - (i + 1)) = n := by omega
    have e2 : (i : Int) + 1 + ((n - (i + 1) : Nat) : Int) = (n : Int) := by omega
    have hcpA := fun ty dc => hcp1 w.drew (fun _ => rfl) (fun _ => rfl) ty (n - (i + 1) + 1) dc (by omega) (by omega)
    rw [e1] at c9 c10 c5 c6 c4 hm1 hm2
    rw [e2] at c9' c10' c5' c6' c13' c14
    have hcl3 : ∀ ty q c W, (Builtin.clear_ #[54] ty #[.slice q 0 c]).run Try.prog W = .ok (.tuple #[]) W := fun ty q c W => by
      cases q <;> simp [Builtin.clear_, u22]
    go_enter Try.func36, Try.ntmps36
    go_wp2_with fail
    go_region_o
    go_wp2_with fail
    go_region_law_o (refine step_copy_runI rfl _ _ 54 54 rfl (.slice (some ⟨b, off + (i + 1), none⟩) (n - (i + 1)) (cap - (i + 1))) (.slice (some ⟨b, off + (i + 1), none⟩) (n - (i + 1)) (cap - (i + 1))) (by simp [Act.eval, Act.put]) (by simp [Act.eval, Act.put]) (by rw [← hW1]; exact hcp2 _ _ _) ?_)
    go_wp2_with fail
    all_goals (go_ret; exact ⟨rfl, [], by simp, by simp <;> omega, rfl⟩)
  · have c11 : i + 1 + (n - j) < n := by omega
    have c12 : ¬ (cap = i + 1 + (n - j)) := by omega
    have c13 : ((i + 1 + (n - j) : Nat) : Int) ≤ (n : Int) := by omega
    have hcl2 : ∀ ty c, (Builtin.clear_ #[54] ty #[.slice (some ⟨b, off + (i + 1 + (n - j)), none⟩) (n - (i + 1 + (n - j))) c]).run Try.prog W2 = .ok (.tuple #[]) (W2.setCells b (off + (i + 1 + (n - j))) (Builtin.zeroCells (Value.agg #[Value.string ⟨#[]⟩]).cells (n - (i + 1 + (n - j)))).toList) := fun ty c =>
      run_clear_rows _ 54 53 ty _ t22 v31 _ b _ _ c (by omega) rfl (by
        intro v hv
        simp [Builtin.zeroCells, Value.cells] at hv
        obtain ⟨a, _, rfl⟩ := hv
        simp [Value.oneCell', Nat.mod_one]) (fun k hk => by
        simp [Builtin.zeroCells, Value.cells] at hk
        rw [Nat.add_assoc]
        exact hsp2 _ (by omega)) fun j _ => hfz2 _
    go_enter Try.func36, Try.ntmps36
    go_wp2_with fail
    go_region_o
    have hcpA := fun ty dc => hcp1 w.drew (fun _ => rfl) (fun _ => rfl) ty (n - j + 1) dc (by omega) (by omega)
    go_wp2_with fail
    go_region_law_o (refine step_copy_runI rfl _ _ 54 54 rfl (.slice (some ⟨b, off + (i + 1), none⟩) (n - j) (cap - (i + 1))) (.slice (some ⟨b, off + j, none⟩) (n - j) (cap - j)) (by simp [Act.eval, Act.put]) (by simp [Act.eval, Act.put]) (by rw [← hW1]; exact hcp2 _ _ _) ?_)
    rw [hW2, hW1] at hcl2
    go_wp2_with fail
    go_ret
    refine ⟨rfl, _, ?_, ?_, rfl⟩
    · intro v hv
      simp [Builtin.zeroCells, Value.cells] at hv
      obtain ⟨a, _, rfl⟩ := hv
      simp [Value.oneCell', Nat.mod_one]
    · simp [Builtin.zeroCells, Value.cells]
      omega
end Go.Proofs.Ytfnepeilccainaa.Den

/- Proved here: what a call of slices.Replace at []piece.part, of some elements by one, does to the caller's store. Its condition: the program's type table is laid as the check 'layB' tells. -/
namespace Go.Proofs.Ytfnepeilccainaa.Den
open Go Go.Proofs
set_option linter.unusedVariables false
set_option linter.unusedSimpArgs false
/-- slices.Replace, by one element. -/
def repD (S : List Blk) (slot : Nat) (args : List AV) : Option (Bool × AV × List Blk × List Nat) := match args with
  | [.w e1 id, .i k i, .i k' j, .w e2 id'] => match S.getD id .dead, S.getD id' .dead with
    | .arr _ xs, .arr _ [v] => some (decide (e1 = 53 ∧ e2 = 53 ∧ k = .i64 ∧ k' = .i64 ∧ id ≠ id' ∧ 0 ≤ i ∧ i ≤ j ∧ j ≤ (xs.length : Int) ∧ xs.length + 1 ≤ 16777216), .w 53 slot, (kill [id, id'] S).set slot (.arr 53 (xs.take i.toNat ++ v :: xs.drop j.toNat)), [])
    | _, _ => none
  | _ => none
section
variable {C : Cfg} {F : Nat → Prop} {σ : Sig} {S : List Blk} {w : World} {slot : Nat}
theorem rep_ok (hl : layB C = true) (hP : C.P = Try.prog) {args : List AV} {vals : Array Value} {q : AV × List Blk × List Nat} {o : Oper} (h1 : C.sz 53 = 1) (hu8 : isU8 C 53 = false) (ho : slotsOf o.op = 8) (hs : Sim C F σ S w) (hsl : ∀ j, slot ≤ j → j < slot + 8 → Slot σ S j)
    (hn : vals.size = args.length) (hv : ∀ (j : Nat) a v, args[j]? = some a → vals[j]? = some v → VR C w F σ a v) (h : repD S slot args = some (true, q)) : Calls C.P 36 vals w fun e w' => ∃ val, e = .returned val ∧ Post C o F σ S w slot q.1 q.2.1 q.2.2 val w' := by
  unfold repD at h
  split at h <;> try (cases h; done)
  rename_i e1 id k i k' j e2 id'
  split at h <;> try (cases h; done)
  rename_i e3 xs e4 v hS hS'
  simp only [Option.some.injEq, Prod.mk.injEq] at h
  obtain ⟨hq, h⟩ := h
  have hq := of_decide_eq_true hq
  obtain ⟨rfl, rfl, rfl, rfl, hne, hi0, hij, hj1, hbig⟩ := hq
  subst h
  dsimp only
  obtain ⟨v0, v1, v2, v3, rfl, g0, g1, g2, g3⟩ : ∃ v0 v1 v2 v3, vals = #[v0, v1, v2, v3] ∧ VR C w F σ (.w 53 id) v0 ∧ VR C w F σ (.i .i64 i) v1 ∧ VR C w F σ (.i .i64 j) v2 ∧ VR C w F σ (.w 53 id') v3 := by
    obtain ⟨l⟩ := vals
    match l, hn with
    | [a, b, c, d], _ => exact ⟨a, b, c, d, rfl, hv 0 _ a rfl rfl, hv 1 _ b rfl rfl, hv 2 _ c rfl rfl, hv 3 _ d rfl rfl⟩
  obtain rfl := g1.i_inv
  obtain rfl := g2.i_inv
  obtain ⟨ii, rfl⟩ := Int.eq_ofNat_of_zero_le hi0
  obtain ⟨jj, rfl⟩ := Int.eq_ofNat_of_zero_le (Int.le_trans hi0 hij)
  simp only [Int.toNat_natCast]
  have hii : ii ≤ jj := by omega
  have hjj : jj ≤ xs.length := by omega
  have r0 := g0.one_inv (by simp) (by simp) (by simp)
  have r3 := g3.one_inv (by simp) (by simp) (by simp)
  have hslot := hsl slot (Nat.le_refl _) (by omega)
  have hlv : live S id := by unfold live; rw [hS]; simp
  have hlv' : live S id' := by unfold live; rw [hS']; simp
  have hb' := hs.blk id'
  rw [hS'] at hb'
  obtain ⟨vb, vo, vc, cvc, hσ', rfl, hA', hk1⟩ : ∃ vb vo vc cvc, σ id' = .arr vb vo 1 cvc 53 ∧ v3 = .slice (some ⟨vb, vo, none⟩) 1 vc ∧ ArrAt C w F 53 [v] vb vo cvc ∧ e4 = 53 := by
    rcases r3.w_inv with ⟨b, o1, n, c, cap, k1, k2, k3, rfl⟩ | ⟨k1, ad, _, rfl⟩
    · rw [k1] at hb'
      obtain ⟨rfl, rfl, hA⟩ := hb'
      exact ⟨b, o1, cap, c, k1, rfl, hA, rfl⟩
    · rw [k1] at hb'; cases hb'
  have hins : ii = jj → Calls Try.prog 45 #[v0, .int .i64 ii, .slice (some ⟨vb, vo, none⟩) 1 vc] w fun e w' => ∃ val, e = .returned val ∧ Post C o F σ S w slot (.w 53 slot) ((kill [id, id'] S).set slot (.arr 53 (xs.take ii ++ v :: xs.drop jj))) [] val w' := fun hij => by
    subst hij
    have hD : insD S slot [.w 53 id, .i .i64 (ii : Int), .w 53 id'] = some (true, .w 53 slot, (kill [id, id'] S).set slot (.arr 53 (xs.take ii ++ v :: xs.drop ii)), []) := by
      unfold insD
      simp only [hS, hS']
      rw [Int.toNat_natCast, decide_eq_true (show True ∧ True ∧ True ∧ id ≠ id' ∧ (0 : Int) ≤ (ii : Int) ∧ (ii : Int) ≤ (xs.length : Int) ∧ xs.length + 1 ≤ 16777216 from ⟨trivial, trivial, trivial, hne, by omega, by omega, hbig⟩)]
    have := ins_ok (o := o) hl hP h1 hu8 ho hs hsl (vals := #[v0, .int .i64 ii, .slice (some ⟨vb, vo, none⟩) 1 vc]) rfl (fun m a u ha hu => by
      match m, ha, hu with
      | 0, ha, hu => cases ha; cases hu; exact g0
      | 1, ha, hu => cases ha; cases hu; exact g1
      | 2, ha, hu => cases ha; cases hu; exact g3) hD
    rw [hP] at this
    exact this
  rw [hP]
  obtain ⟨curv, tv, vsv, hhv, _, hszv, hcv, hvl, hvcell, hvone, hvr⟩ := hA'.single h1
  obtain ⟨u, rfl⟩ : ∃ u, vsv = [u] := by
    match vsv, hvl with
    | [u], _ => exact ⟨u, rfl⟩
  have hvu := hvr 0 v u rfl rfl
  have hu1 : u.oneCell' = true := hvone u (by simp)
  have hu : w.cell? ⟨vb, vo, none⟩ = some u := by
    have := hvcell 0 u rfl
    simpa [World.cell?, hhv] using this
  have hb := hs.blk id
  rw [hS] at hb
  rcases r0.w_inv with ⟨b, o1, n, c, cap, k1, k2, k3, rfl⟩ | ⟨k1, ad, _, rfl⟩
  · rw [k1] at hb
    obtain ⟨rfl, rfl, hA⟩ := hb
    by_cases hsame : ii = jj
    · subst hsame
      exact rep_same b o1 xs.length cap ii vb vo vc w hjj k2 hbig (hins rfl)
    have hlt : ii < jj := by omega
    obtain ⟨cur, t, cs, hh, ht8, hsz, hc, hcl, hcell, hcone, hcr⟩ := hA.single h1
    have hbk : (σ id).blk = some b := by rw [k1]; rfl
    have hbk' : (σ id').blk = some vb := by rw [hσ']; rfl
    have hvb : vb ≠ b := fun e => hne (hs.inj id id' b hlv hlv' hbk (by rw [hbk', e]))
    have hcs : ∀ j x, cs[j]? = some x → w.cell? ⟨b, o1 + j, none⟩ = some x := fun j x hx => by
      have := hcell j x hx
      simpa [World.cell?, hh] using this
    have hbm : ∃ id2 ∈ [id, id'], live S id2 ∧ (σ id2).blk = some b := ⟨id, by simp, hlv, hbk⟩
    have hlen : (xs.take ii ++ v :: xs.drop jj).length = ii + 1 + (xs.length - jj) := by simp; omega
    have inplace : ∀ {w' : World} {cur' : Array Value}, Turned w w' b → w'.heap[b]? = some (.cells cur' t (0, 0)) → cur'.size = cur.size → (∀ j n, (cs.take ii ++ u :: cs.drop jj)[j]? = some n → cur'[o1 + j]? = some n) → Post C o F σ S w slot (.w 53 slot) ((kill [id, id'] S).set slot (.arr 53 (xs.take ii ++ v :: xs.drop jj))) [] (.slice (some ⟨b, o1, none⟩) (ii + 1 + (xs.length - jj)) cap) w' := fun {w' cur'} ht hh' hsz' hat => by
      have := hs.post_row (w' := w') (o := o) (ks := [id, id']) (b := b) (o1 := o1) (c := c) (cap := cap) (e := 53) (ys := xs.take ii ++ v :: xs.drop jj) ho hslot ht (.inr hbm) (by rw [hlen]; omega) k3 fun hF => by
        obtain ⟨zs, e1, e2, hz⟩ := zip_of hcl hcr
        have e3 : xs.take ii ++ v :: xs.drop jj = ((zs.take ii ++ (v, u) :: zs.drop jj)).map (·.1) := by rw [e1]; simp [List.map_take, List.map_drop]
        have e4 : cs.take ii ++ u :: cs.drop jj = ((zs.take ii ++ (v, u) :: zs.drop jj)).map (·.2) := by rw [e2]; simp [List.map_take, List.map_drop]
        refine arr_single h1 hh' ht8 (by rw [hsz']; exact hsz) (by rw [hlen]; omega) (by rw [e3, e4]; simp) hat fun j y n hy hn => ?_
        rw [e3] at hy
        rw [e4] at hn
        refine zip_at (Q := fun x c => Wt C 53 x ∧ R C w' F noSig x [c]) (zs := zs.take ii ++ (v, u) :: zs.drop jj) (fun p hp => ?_) j y n hy hn
        have Qm : ∀ {x : AV} {c : Value}, Wt C 53 x ∧ R C w F noSig x [c] → Wt C 53 x ∧ R C w' F noSig x [c] := fun {x c} hx => ⟨hx.1, hx.2.mono hF (fun _ h => h) noSig fun _ _ => rfl⟩
        simp only [List.mem_append, List.mem_cons] at hp
        rcases hp with hp | rfl | hp
        · exact Qm (hz p (List.mem_of_mem_take hp))
        · exact Qm hvu
        · exact Qm (hz p (List.mem_of_mem_drop hp))
      rw [hlen] at this
      exact this
    have hsp : ∀ j, j < xs.length → (w.cell? ⟨b, o1 + j, none⟩).isSome = true := fun j hj => by
      simp [World.cell?, hh]
      omega
    have hfz : ∀ j, w.frozen? ⟨b, j, none⟩ = false := fun j => by simp [World.frozen?, hh]
    have htk : (cs.take ii).length = ii := by rw [List.length_take]; omega
    by_cases hend : jj = xs.length
    · subst hend
      refine (rep_end b o1 xs.length cap ii vb vo vc u w hlt k2 hbig hu hu1 hsp hfz).mono ?_
      rintro e w' ⟨rfl, zs, z1, z2, rfl⟩
      have hh1 := setCells_heap (oo := o1 + ii) (vs := [u]) hh (by simp; omega) (by simpa using hu1)
      have hs1 : (rowSet cur (o1 + ii) [u]).size = cur.size := rowSet_size (by simp; omega)
      have hh2 := setCells_heap (oo := o1 + (ii + 1)) (vs := zs) hh1 (by rw [hs1]; omega) z1
      have := inplace ((Turned.setCells _ _ _).trans (Turned.setCells _ _ _)) hh2 (by rw [rowSet_size (by rw [hs1]; omega), hs1]) fun j n hj => by
        rw [show cs.drop xs.length = [] by rw [← hcl]; exact List.drop_length] at hj
        have hlj := getElem?_lt hj
        simp only [List.length_append, htk, List.length_cons, List.length_nil] at hlj
        rw [rowSet_at (by rw [hs1]; omega), if_neg (by omega), rowSet_at (by simp; omega)]
        simp only [List.length_cons, List.length_nil]
        rw [List.getElem?_append, htk] at hj
        by_cases q : j < ii
        · rw [if_pos q, List.getElem?_take_of_lt q] at hj
          rw [if_neg (by omega)]
          exact hcell j n hj
        · rw [if_neg q] at hj
          rw [if_pos (by omega), show o1 + j - (o1 + ii) = j - ii by omega]
          exact hj
      rw [Nat.sub_self, Nat.add_zero] at this
      exact ⟨_, rfl, this⟩
    · have hjn : jj < xs.length := by omega
      refine (rep_mid b o1 xs.length cap ii jj vb vo vc cs u w hlt hjn k2 hbig hvb hu hu1 hcl hcs hcone hsp hfz).mono ?_
      rintro e w' ⟨rfl, zs, z1, z2, rfl⟩
      have hd : (cs.drop jj).length = xs.length - jj := by rw [List.length_drop, hcl]
      have hh0 : w.drew.heap[b]? = some (.cells cur t (0, 0)) := hh
      have hh1 := setCells_heap (oo := o1 + ii) (vs := [u]) hh0 (by simp; omega) (by simpa using hu1)
      have hs1 : (rowSet cur (o1 + ii) [u]).size = cur.size := rowSet_size (by simp; omega)
      have hh2 := setCells_heap (w := (w.drew.setCells b (o1 + ii) [u]).drew) (oo := o1 + (ii + 1)) (vs := cs.drop jj) hh1 (by rw [hs1, hd]; omega) fun v hv => hcone v (List.mem_of_mem_drop hv)
      have hs2 : (rowSet (rowSet cur (o1 + ii) [u]) (o1 + (ii + 1)) (cs.drop jj)).size = cur.size := by rw [rowSet_size (by rw [hs1, hd]; omega), hs1]
      have hh3 := setCells_heap (oo := o1 + (ii + 1 + (xs.length - jj))) (vs := zs) hh2 (by rw [hs2]; omega) z1
      refine ⟨_, rfl, inplace (((((Turned.drew _).trans (Turned.setCells _ _ _)).trans (Turned.drew _)).trans (Turned.setCells _ _ _)).trans (Turned.setCells _ _ _)) hh3 (by rw [rowSet_size (by rw [hs2]; omega), hs2]) fun j n hj => ?_⟩
      have hlj := getElem?_lt hj
      simp only [List.length_append, htk, List.length_cons, hd] at hlj
      rw [rowSet_at (by rw [hs2]; omega), if_neg (by omega), rowSet_at (by rw [hs1, hd]; omega), hd, rowSet_at (by simp; omega)]
      simp only [List.length_cons, List.length_nil]
      rw [List.getElem?_append, htk] at hj
      by_cases q : j < ii
      · rw [if_pos q, List.getElem?_take_of_lt q] at hj
        rw [if_neg (by omega), if_neg (by omega)]
        exact hcell j n hj
      · rw [if_neg q] at hj
        by_cases q2 : j = ii
        · subst q2
          rw [if_neg (by omega), if_pos (by omega), Nat.sub_self]
          rw [Nat.sub_self] at hj
          exact hj
        · obtain ⟨m, rfl⟩ : ∃ m, j = ii + 1 + m := ⟨j - ii - 1, by omega⟩
          rw [show ii + 1 + m - ii = m + 1 by omega, List.getElem?_cons_succ] at hj
          rw [if_pos (by omega), show o1 + (ii + 1 + m) - (o1 + (ii + 1)) = m by omega]
          exact hj
  · rw [k1] at hb
    have hx0 : xs = [] := by
      cases xs with
      | nil => rfl
      | cons x xs => cases hb
    subst hx0
    obtain rfl : jj = 0 := by simpa using hjj
    obtain rfl : ii = 0 := by omega
    cases ad with
    | none => exact rep_nil vb vo vc none w (hins rfl)
    | some a => exact rep_nil vb vo vc (some a) w (hins rfl)
end
end Go.Proofs.Ytfnepeilccainaa.Den

/- Proved here: what (*strings.Builder).String does. No condition but those each theorem names. -/
namespace Go.Proofs.Ytfnepeilccainaa.Den
open Go Go.Proofs Go.Shelf Go.RowKit Go.Lib
set_option linter.unusedVariables false
set_option linter.unusedSimpArgs false
theorem run_unsafeString_at {P : Program} (w : World) (pt it ty e : TypeId) (hp : P.underlying pt = some (.pointer e)) (hc : P.cellsOf e = 1) (g o cells : Nat) (hsh : w.shape? g = some (e, cells)) (l : List UInt8) (h0 : l ≠ []) (hn : o + l.length ≤ cells) (h63 : l.length ≤ 9223372036854775807)
    (hcell : ∀ j x, l[j]? = some x → w.cell? ((⟨g, o, none⟩ : Addr).add j) = some (.int .u8 x.toNat)) :
    (Builtin.unsafeString_ #[pt, it] ty #[.pointer (some ⟨g, o, none⟩), .int .i64 l.length]).run P w = .ok (.string ⟨l.toArray⟩) (w.freeze ⟨g, o, none⟩ l.length) := by
  have hl : l.length ≠ 0 := by simpa using h0
  have hlb := run_loadBytes (P := P) w l ⟨g, o, none⟩ .empty hcell
  have hlies := Go.Proofs.Ytfnepeilccainaa.Den.lies_bytes (P := P) hc (count := cells / P.cellsOf e) (off := o) (n := l.length) (by rw [hc]; simpa using hn)
  have h63' : ¬ (9223372036854775807 : Int) < (l.length : Int) := by omega
  have hdef : Builtin.unsafeString_ #[pt, it] ty #[.pointer (some ⟨g, o, none⟩), .int .i64 l.length] =
      (do
        let n ← asInt (.int .i64 l.length)
        if n < 0 then runtimePanic (.error "unsafe.String: len out of range")
        if n > IntKind.i64.max then unsupported (.unsafePointer "String: a length above the largest int")
        if n = 0 then pure (.string .empty)
        else if ← variablesAt ⟨g, o, none⟩ (← Go.elemOf pt) n.toNat then do
          let s ← loadBytes ⟨g, o, none⟩ .empty n.toNat
          freeze ⟨g, o, none⟩ n.toNat
          pure (.string s)
        else unsupported (.unsafePointer "String: not so many bytes at ptr")) := rfl
  rw [hdef]
  have hmax : IntKind.i64.max = 9223372036854775807 := rfl
  have hneg : ¬ (l.length : Int) < 0 := by omega
  simp [asInt, asIntOf, hmax, h63', hneg, hl, variablesAt, hsh, Go.elemOf, run_underlying hp, hlies, hlb]
set_option maxHeartbeats 2000000 in
set_option maxRecDepth 100000 in
theorem str_row (b g o n cap : Nat) (l : List UInt8) (w : World) (hb : w.cell? ⟨b, 1, none⟩ = some (.slice (some ⟨g, o, none⟩) l.length cap)) (h0 : l ≠ []) (hcap : l.length ≤ cap) (h63 : l.length ≤ 9223372036854775807) (hsh : w.shape? g = some (5, n)) (hn : o + l.length ≤ n)
    (hcell : ∀ j x, l[j]? = some x → w.cell? ⟨g, o + j, none⟩ = some (.int .u8 x.toNat)) :
    Calls Try.prog 26 #[.pointer (some ⟨b, 0, none⟩)] w fun e w' => e = .returned (.string ⟨l.toArray⟩) ∧ w' = w.drew.freeze ⟨g, o, none⟩ l.length := by
  have hl0 : l.length ≠ 0 := by simpa using h0
  have c1 : w.drew.cell? ⟨b, 1, none⟩ = some (.slice (some ⟨g, o, none⟩) l.length cap) := hb
  have hSD : (Builtin.unsafeSliceData_ #[70] 92 #[.slice (some ⟨g, o, none⟩) l.length cap]).run Try.prog w.drew = .ok (.pointer (some ⟨g, o, none⟩)) w.drew :=
    Lib.run_unsafeSliceData_row _ _ _ _ _ _ (by omega)
  have hUS : (Builtin.unsafeString_ #[92, 3] 9 #[.pointer (some ⟨g, o, none⟩), .int .i64 l.length]).run Try.prog w.drew = .ok (.string ⟨l.toArray⟩) (w.drew.freeze ⟨g, o, none⟩ l.length) :=
    run_unsafeString_at w.drew 92 3 9 5 Try.underlying92 (by kernel_rfl) g o n hsh l h0 hn h63 fun j x hx => by rw [Addr.add_lit]; exact hcell j x hx
  have mixed := (show Try.prog.follows .mixedOrders = true by kernel_rfl)
  have t72 := Try.underlying72; have a72 := Try.isAgg72; have z72 := Try.sizeOf72; have v72 := Try.zeroValue72; have u72 := run_underlying Try.underlying72
  have t37 := Try.underlying70; have a37 := Try.isAgg70; have z37 := Try.sizeOf70; have v37 := Try.zeroValue70; have u37 := run_underlying Try.underlying70
  have t127 := Try.underlying92; have a127 := Try.isAgg92; have z127 := Try.sizeOf92; have v127 := Try.zeroValue92; have u127 := run_underlying Try.underlying92
  have t3 := Try.underlying3; have a3 := Try.isAgg3; have z3 := Try.sizeOf3; have v3 := Try.zeroValue3; have u3 := run_underlying Try.underlying3
  have t9 := Try.underlying9; have a9 := Try.isAgg9; have z9 := Try.sizeOf9; have v9 := Try.zeroValue9; have u9 := run_underlying Try.underlying9
  have t5 := Try.underlying5; have a5 := Try.isAgg5; have z5 := Try.sizeOf5; have v5 := Try.zeroValue5; have u5 := run_underlying Try.underlying5
  go_enter Try.func26, Try.ntmps26
  go_wp2
  go_region_o
  all_goals (go_wp2; go_ret; exact ⟨rfl, rfl⟩)
set_option maxHeartbeats 2000000 in
set_option maxRecDepth 100000 in
/-- Of no byte, where nothing is made. -/
theorem str_zero (b cap : Nat) (ad : Option Addr) (w : World) (hb : w.cell? ⟨b, 1, none⟩ = some (.slice ad 0 cap)) (h : (ad = none ∧ cap = 0) ∨ ∃ a, ad = some a ∧ cap ≠ 0) :
    Calls Try.prog 26 #[.pointer (some ⟨b, 0, none⟩)] w fun e w' => e = .returned (.string ⟨#[]⟩) ∧ w' = w.drew := by
  have c1 : w.drew.cell? ⟨b, 1, none⟩ = some (.slice ad 0 cap) := hb
  obtain ⟨p, hSD⟩ : ∃ p, (Builtin.unsafeSliceData_ #[70] 92 #[.slice ad 0 cap]).run Try.prog w.drew = .ok (.pointer p) w.drew := by
    rcases h with ⟨rfl, rfl⟩ | ⟨a, rfl, hc⟩
    · exact ⟨none, rfl⟩
    · exact ⟨some a, Lib.run_unsafeSliceData_row _ _ _ _ _ _ hc⟩
  have hUS : (Builtin.unsafeString_ #[92, 3] 9 #[.pointer p, .int .i64 0]).run Try.prog w.drew = .ok (.string .empty) w.drew := Lib.run_unsafeString_none _ _ _ _ _
  clear h
  have mixed := (show Try.prog.follows .mixedOrders = true by kernel_rfl)
  have t72 := Try.underlying72; have a72 := Try.isAgg72; have z72 := Try.sizeOf72; have v72 := Try.zeroValue72; have u72 := run_underlying Try.underlying72
  have t37 := Try.underlying70; have a37 := Try.isAgg70; have z37 := Try.sizeOf70; have v37 := Try.zeroValue70; have u37 := run_underlying Try.underlying70
  have t127 := Try.underlying92; have a127 := Try.isAgg92; have z127 := Try.sizeOf92; have v127 := Try.zeroValue92; have u127 := run_underlying Try.underlying92
  have t3 := Try.underlying3; have a3 := Try.isAgg3; have z3 := Try.sizeOf3; have v3 := Try.zeroValue3; have u3 := run_underlying Try.underlying3
  have t9 := Try.underlying9; have a9 := Try.isAgg9; have z9 := Try.sizeOf9; have v9 := Try.zeroValue9; have u9 := run_underlying Try.underlying9
  have t5 := Try.underlying5; have a5 := Try.isAgg5; have z5 := Try.sizeOf5; have v5 := Try.zeroValue5; have u5 := run_underlying Try.underlying5
  go_enter Try.func26, Try.ntmps26
  go_wp2
  go_region_o
  all_goals (go_wp2; go_ret; exact ⟨rfl, rfl⟩)
set_option maxHeartbeats 2000000 in
set_option maxRecDepth 100000 in
/-- Of no byte, of a row without room. -/
theorem str_new (b g o n : Nat) (w : World) (hb : w.cell? ⟨b, 1, none⟩ = some (.slice (some ⟨g, o, none⟩) 0 0)) (hlt : b < w.heap.size) (hsh : w.shape? g = some (5, n)) :
    Calls Try.prog 26 #[.pointer (some ⟨b, 0, none⟩)] w fun e w' => e = .returned (.string ⟨#[]⟩) ∧ Turned w w' w.heap.size := by
  have hUS : ∀ W q, (Builtin.unsafeString_ #[92, 3] 9 #[.pointer q, .int .i64 0]).run Try.prog W = .ok (.string .empty) W := fun W q => Lib.run_unsafeString_none W _ _ _ q
  have c0 : w.cell? ⟨b, 1, none⟩ = some (.slice (some ⟨g, o, none⟩) 0 0) := hb
  have c1 : w.drew.cell? ⟨b, 1, none⟩ = some (.slice (some ⟨g, o, none⟩) 0 0) := hb
  have hSD : (Builtin.unsafeSliceData_ #[70] 92 #[.slice (some ⟨g, o, none⟩) 0 0]).run Try.prog w.drew = .ok (.pointer (some ⟨w.drew.heap.size, 0, none⟩)) (w.drew.alloc (.view ⟨g, o, none⟩ 5)) :=
    Lib.run_unsafeSliceData_zero w.drew _ _ 5 Try.underlying92 ⟨g, o, none⟩ 0 (5, n) hsh
  have c2 : (w.drew.alloc (.view ⟨g, o, none⟩ 5)).cell? ⟨b, 1, none⟩ = some (.slice (some ⟨g, o, none⟩) 0 0) := by
    have := alloc_keep w.drew (.view ⟨g, o, none⟩ 5) (b := b) hlt
    unfold World.cell? at hb ⊢
    rw [this]
    exact hb
  have c3 : (w.alloc (.view ⟨g, o, none⟩ 5)).drew.cell? ⟨b, 1, none⟩ = some (.slice (some ⟨g, o, none⟩) 0 0) := c2
  have mixed := (show Try.prog.follows .mixedOrders = true by kernel_rfl)
  have t72 := Try.underlying72; have a72 := Try.isAgg72; have z72 := Try.sizeOf72; have v72 := Try.zeroValue72; have u72 := run_underlying Try.underlying72
  have t37 := Try.underlying70; have a37 := Try.isAgg70; have z37 := Try.sizeOf70; have v37 := Try.zeroValue70; have u37 := run_underlying Try.underlying70
  have t127 := Try.underlying92; have a127 := Try.isAgg92; have z127 := Try.sizeOf92; have v127 := Try.zeroValue92; have u127 := run_underlying Try.underlying92
  have t3 := Try.underlying3; have a3 := Try.isAgg3; have z3 := Try.sizeOf3; have v3 := Try.zeroValue3; have u3 := run_underlying Try.underlying3
  have t9 := Try.underlying9; have a9 := Try.isAgg9; have z9 := Try.sizeOf9; have v9 := Try.zeroValue9; have u9 := run_underlying Try.underlying9
  have t5 := Try.underlying5; have a5 := Try.isAgg5; have z5 := Try.sizeOf5; have v5 := Try.zeroValue5; have u5 := run_underlying Try.underlying5
  go_enter Try.func26, Try.ntmps26
  go_wp2
  go_region_o
  all_goals (go_wp2; go_ret; first | exact ⟨rfl, (Turned.alloc _).trans (Turned.drew _)⟩ | exact ⟨rfl, (Turned.drew _).trans (Turned.alloc _)⟩)
end Go.Proofs.Ytfnepeilccainaa.Den

/- Proved here: what a call of (*strings.Builder).String does to the caller's store. Its condition: the program's type table is laid as the check 'layB' tells. -/
namespace Go.Proofs.Ytfnepeilccainaa.Den
open Go Go.Proofs
set_option linter.unusedVariables false
set_option linter.unusedSimpArgs false
/-- Is a datum a byte? -/
def isByte : AV → Bool
  | .i .u8 n => decide (0 ≤ n) && decide (n < 256)
  | _ => false
/-- (*strings.Builder).String: its buffer is no one's any more. -/
def bstrD (S : List Blk) (slot : Nat) (args : List AV) : Option (Bool × AV × List Blk × List Nat) := match args with
  | [.p id []] => match S.getD id .dead with
    | .obj T (.g [_, buf]) => if T = 72 then match buf with
      | .z 1 => some (true, .s ⟨#[]⟩, kill [id] S, [])
      | .w e id2 => match S.getD id2 .dead with
        | .arr _ xs => some (decide (e = 5 ∧ xs.length ≤ 16777216 ∧ xs.all isByte = true), .s (bytesOf xs), kill [id, id2] S, [])
        | _ => none
      | _ => none
      else none
    | _ => none
  | _ => none
section
variable {C : Cfg} {F : Nat → Prop} {σ : Sig} {S : List Blk} {w w' : World} {slot : Nat}
/-- Blocks are no one's any more, and one of them, or none, was turned. -/
theorem Sim.leaves (hs : Sim C F σ S w) {ks : List Nat} {b : Nat} (ht : Turned w w' b) (hb : w.heap.size ≤ b ∨ ∃ id ∈ ks, live S id ∧ (σ id).blk = some b) :
    Sim C F σ (kill ks S) w' ∧ Stp F σ S w F σ (kill ks S) w' := by
  have hlive : ∀ i, live (kill ks S) i → live S i ∧ i ∉ ks := fun i h => by
    unfold live at h
    rw [getD_kill] at h
    by_cases q : i ∈ ks
    · simp [q] at h
    · rw [if_neg (by simpa using q)] at h; exact ⟨h, q⟩
  have hF : ∀ c, F c → c ≠ b := fun c hc e => by
    rcases hb with q | ⟨id, _, q2, q3⟩
    · have := hs.fin c hc; omega
    · exact hs.out id b q2 q3 (e ▸ hc)
  have hFk : ∀ d, F d → w'.heap[d]? = w.heap[d]? := fun d hd => ht.keep d (hs.fin d hd) (hF d hd)
  have hbn : ∀ i c, live S i → i ∉ ks → (σ i).blk = some c → c ≠ b ∧ c < w.heap.size := fun i c hi hn hc => by
    have hclt := hs.lt hi hc
    refine ⟨fun e => ?_, hclt⟩
    rcases hb with q | ⟨id, q1, q2, q3⟩
    · omega
    · exact hn (hs.inj i id c hi q2 hc (e ▸ q3) ▸ q1)
  refine ⟨⟨fun i => ?_, fun i i' c h1 h2 h3 h4 => hs.inj i i' c (hlive i h1).1 (hlive i' h2).1 h3 h4, fun i c h1 h2 => hs.out i c (hlive i h1).1 h2, fun i hi => hs.top i (by simpa [kill_length] using hi), fun c hc => Nat.lt_of_lt_of_le (hs.fin c hc) ht.size⟩, ⟨ht.os, ht.tape, ht.output, ht.size, fun c hc hn => ht.keep c hc fun e => ?_, fun _ h => h, fun _ h => .inl h, fun i c h1 h2 => .inr ⟨i, (hlive i h1).1, h2⟩⟩⟩
  · rw [getD_kill]
    by_cases q2 : i ∈ ks
    · rw [if_pos (by simpa using q2)]; exact trivial
    · rw [if_neg (by simpa using q2)]
      by_cases hi : live S i
      · exact (hs.blk i).mono hFk (fun _ h => h) (fun _ _ => rfl) fun c hc => ht.keep c (hbn i c hi q2 hc).2 (hbn i c hi q2 hc).1
      · have : S.getD i .dead = .dead := Classical.byContradiction fun h => hi h
        rw [this]
        exact trivial
  · rcases hb with q | ⟨id, _, q2, q3⟩
    · omega
    · exact hn id q2 (by rw [q3, e])
theorem Sim.post_left (hs : Sim C F σ S w) {o : Oper} {ks : List Nat} {b : Nat} {s : ByteArray} (ht : Turned w w' b) (hb : w.heap.size ≤ b ∨ ∃ id ∈ ks, live S id ∧ (σ id).blk = some b) : Post C o F σ S w slot (.s s) (kill ks S) [] (.string s) w' := by
  obtain ⟨s1, t1⟩ := hs.leaves ht hb
  refine ⟨F, σ, s1, t1, fun _ _ => rfl, fun id hid => by simp at hid, .one (by simp) .s, kill_length _ _, fun j _ h1 h2 => ⟨?_, h2⟩⟩
  rw [getD_kill]
  split
  · rfl
  · exact h1
theorem Turned.freeze {b o n : Nat} : Turned w (w.freeze ⟨b, o, none⟩ n) b := by
  unfold World.freeze
  by_cases h : n = 0
  · rw [if_pos (by simpa using h)]
    exact .refl
  · rw [if_neg (by simpa using h)]
    exact ⟨rfl, rfl, rfl, by simp, fun c h1 h2 => by
      simp only [Array.getElem?_modify]
      rw [if_neg (fun e => h2 e.symm)]⟩
theorem bytesOf_eq (l : List UInt8) : bytesOf (l.map fun c => AV.i .u8 (c.toNat : Int)) = ⟨l.toArray⟩ := by
  have key : ∀ (l : List UInt8) (r : ByteArray), ((l.map fun c => AV.i .u8 (c.toNat : Int)).map AV.int).foldl (fun r n => r.push (UInt8.ofNat n.toNat)) r = ⟨r.data ++ l.toArray⟩ := by
    intro l
    induction l with
    | nil => intro r; simp
    | cons c l ih =>
      intro r
      simp only [List.map_cons, List.foldl_cons]
      rw [ih]
      simp [AV.int, ByteArray.push]
  unfold bytesOf
  rw [key]
  show (⟨#[] ++ l.toArray⟩ : ByteArray) = _
  simp
/-- Data of bytes are bytes. -/
theorem bytes_of {e : TypeId} (hu : C.und e = some (.int .u8)) : ∀ {xs : List AV} {vs : List Value}, vs.length = xs.length → xs.all isByte = true → (∀ (j : Nat) x v, xs[j]? = some x → vs[j]? = some v → Wt C e x ∧ R C w F noSig x [v]) → ∃ l : List UInt8, xs = l.map (fun c => AV.i .u8 (c.toNat : Int)) ∧ vs = l.map (fun c => Value.int .u8 (c.toNat : Int))
  | [], [], _, _, _ => ⟨[], rfl, rfl⟩
  | x :: xs, v :: vs, hn, hb, h => by
    rw [List.all_cons, Bool.and_eq_true] at hb
    obtain ⟨l, h1, h2⟩ := bytes_of hu (xs := xs) (vs := vs) (by simpa using hn) hb.2 fun j x v hx hv => h (j + 1) x v (by simpa using hx) (by simpa using hv)
    obtain ⟨k1, k2⟩ := h 0 x v rfl rfl
    have hb1 := hb.1
    unfold isByte at hb1
    split at hb1
    · rename_i n
      rw [Bool.and_eq_true, decide_eq_true_eq, decide_eq_true_eq] at hb1
      cases k2
      obtain ⟨m, rfl⟩ := Int.eq_ofNat_of_zero_le hb1.1
      have hm : m < 256 := by have := hb1.2; omega
      have hc : ((UInt8.ofNat m).toNat : Int) = (m : Int) := by
        rw [UInt8.toNat_ofNat']
        congr 1
        exact Nat.mod_eq_of_lt hm
      exact ⟨UInt8.ofNat m :: l, by rw [List.map_cons, ← h1, hc], by rw [List.map_cons, ← h2, hc]⟩
    · cases hb1
theorem bstr_ok (hl : layB C = true) (hP : C.P = Try.prog) {args : List AV} {vals : Array Value} {q : AV × List Blk × List Nat} {o : Oper} (hu5 : C.und 5 = some (.int .u8)) (hoff : pty C 72 [1] = some 70 ∧ poff C 72 [1] = 1 ∧ C.sz 70 = 1) (ho : slotsOf o.op = 8) (hs : Sim C F σ S w) (hsl : ∀ j, slot ≤ j → j < slot + 8 → Slot σ S j)
    (hn : vals.size = args.length) (hv : ∀ (j : Nat) a v, args[j]? = some a → vals[j]? = some v → VR C w F σ a v) (h : bstrD S slot args = some (true, q)) : Calls C.P 26 vals w fun e w' => ∃ val, e = .returned val ∧ Post C o F σ S w slot q.1 q.2.1 q.2.2 val w' := by
  rw [hP]
  have hsz5 : C.sz 5 = 1 := lay_one hl hu5 (by simp) (by simp)
  have h8 : isU8 C 5 = true := by unfold isU8; rw [hu5]
  unfold bstrD at h
  split at h <;> try (cases h; done)
  rename_i id
  split at h <;> try (cases h; done)
  rename_i T a0 buf hS
  have hq := ite_some h
  clear h
  obtain ⟨rfl, h⟩ := hq
  obtain ⟨v0, rfl, g0⟩ : ∃ v0, vals = #[v0] ∧ VR C w F σ (.p id []) v0 := by
    obtain ⟨l⟩ := vals
    match l, hn with
    | [a], _ => exact ⟨a, rfl, hv 0 _ a rfl rfl⟩
  have r0 := g0.one_inv (by simp) (by simp) (by simp)
  have hb := hs.blk id
  rw [hS] at hb
  have hlv : live S id := by unfold live; rw [hS]; simp
  cases r0 with
  | pa h1 => rw [h1] at hb; exact hb.elim
  | p h1 h2 =>
  rename_i b T2 T3
  rw [h1] at hb
  obtain ⟨rfl, hshv, cur, t, hh, hrr⟩ := hb
  have hblt : b < w.heap.size := heap_lt hh
  obtain ⟨cs', p1, p2, p3, p4⟩ := path_at hl [1] _ _ _ cur.toList hshv hrr hoff.1
  rw [hoff.2.1, hoff.2.2] at p3 p4
  have hgp : getPath (AV.g [a0, buf]) [1] = buf := rfl
  rw [hgp] at p1 p2
  have hcell : ∀ v, cs' = [v] → w.cell? ⟨b, 1, none⟩ = some v := fun v hv' => by
    rw [hv'] at p4
    have := congrArg (·[0]?) p4
    simp only [List.getElem?_cons_zero] at this
    rw [List.getElem?_take_of_lt (by omega), List.getElem?_drop, Nat.add_zero, Array.getElem?_toList] at this
    simp [World.cell?, hh, this.symm]
  show Calls Try.prog 26 #[.pointer (some ⟨b, poff C 72 [], none⟩)] w _
  have hp0 : poff C 72 [] = 0 := rfl
  rw [hp0]
  split at h <;> try (cases h; done)
  · simp only [Option.some.injEq, Prod.mk.injEq, true_and] at h
    subst h
    cases p1
    refine (str_zero b 0 none w (hcell _ rfl) (.inl ⟨rfl, rfl⟩)).mono ?_
    rintro e w' ⟨rfl, rfl⟩
    refine ⟨_, rfl, ?_⟩
    exact hs.post_left (slot := slot) (o := o) (ks := [id]) (s := ⟨#[]⟩) (w' := w.drew) (b := w.heap.size) (Turned.drew _) (.inl (Nat.le_refl _))
  · rename_i e id2
    split at h <;> try (cases h; done)
    rename_i e3 xs hS2
    simp only [Option.some.injEq, Prod.mk.injEq] at h
    obtain ⟨hq, h⟩ := h
    have hq := of_decide_eq_true hq
    obtain ⟨rfl, hlen, hby⟩ := hq
    subst h
    dsimp only
    have hlv2 : live S id2 := by unfold live; rw [hS2]; simp
    have hb2 := hs.blk id2
    rw [hS2] at hb2
    cases p1 with
    | w0 k1 k2 =>
      rw [k1] at hb2
      have hx0 : xs = [] := by
        cases xs with
        | nil => rfl
        | cons x xs => cases hb2
      subst hx0
      obtain rfl := k2 h8
      refine (str_zero b 0 none w (hcell _ rfl) (.inl ⟨rfl, rfl⟩)).mono ?_
      rintro e w' ⟨rfl, rfl⟩
      exact ⟨_, rfl, hs.post_left (b := w.heap.size) (Turned.drew _) (.inl (Nat.le_refl _))⟩
    | w k1 k2 k3 =>
      rename_i g o1 n c cap
      rw [k1] at hb2
      obtain ⟨rfl, rfl, hA⟩ := hb2
      obtain ⟨curv, tv, vsv, hhv, ht8, hszv, hcv, hvl, hvcell, hvone, hvr⟩ := hA.single hsz5
      obtain rfl := ht8 h8
      have hsh : w.shape? g = some (5, curv.size) := by simp [World.shape?, hhv]
      have hbk2 : (σ id2).blk = some g := by rw [k1]; rfl
      -- the bytes
      obtain ⟨l, rfl, hlv⟩ : ∃ l : List UInt8, xs = l.map (fun c => AV.i .u8 (c.toNat : Int)) ∧ vsv = l.map (fun c => Value.int .u8 (c.toNat : Int)) := bytes_of hu5 hvl hby hvr
      have hll : (l.map (fun c => AV.i .u8 (c.toNat : Int))).length = l.length := by simp
      rw [hll] at hlen k2
      have hc1 := hcell _ rfl
      rw [hll] at hc1
      rw [bytesOf_eq]
      by_cases h0 : l = []
      · subst h0
        by_cases hc0 : cap = 0
        · subst hc0
          refine (str_new b g o1 curv.size w hc1 hblt hsh).mono ?_
          rintro e w' ⟨rfl, ht⟩
          exact ⟨_, rfl, hs.post_left ht (.inl (Nat.le_refl _))⟩
        · refine (str_zero b cap _ w hc1 (.inr ⟨_, rfl, hc0⟩)).mono ?_
          rintro e w' ⟨rfl, rfl⟩
          exact ⟨_, rfl, hs.post_left (b := w.heap.size) (Turned.drew _) (.inl (Nat.le_refl _))⟩
      · refine (str_row b g o1 curv.size cap l w hc1 h0 k2 (by omega) hsh (by simp at hcv; omega) fun j x hx => ?_).mono ?_
        · have := hvcell j (.int .u8 x.toNat) (by rw [hlv, List.getElem?_map, hx]; rfl)
          simpa [World.cell?, hhv] using this
        · rintro e w' ⟨rfl, rfl⟩
          exact ⟨_, rfl, hs.post_left ((Turned.drew _).trans Turned.freeze) (.inr ⟨id2, by simp, hlv2, hbk2⟩)⟩
end
end Go.Proofs.Ytfnepeilccainaa.Den
