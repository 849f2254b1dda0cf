/- Proved here: a part of the proof, told one step at a time: DenM, DenN, DenO, DenOB, DenOC, DenP, DenQ, DenR, DenS, DenT, DenU, DenV, DenW, DenX. No condition but those each theorem names. -/
import Derived.Test.YteklakapimggeaaGreatDoorKa
import Derived.Deep.Upon
import Derived.Laws.BytesString
import Derived.Great.FillDense
import Derived.Great.BuildSlice
import Derived.Laws.Tables
import Derived.Laws.MakeOwn
import Derived.Lib.Builder
import Derived.MapKept
import Derived.MapFrom
namespace Go.Proofs.YteklakapimggeaaGreatDoor.Den
open Go
set_option linter.unusedVariables false
set_option linter.unusedSimpArgs false
section
variable {C : Cfg}
variable {F : Nat → Prop} {σ : Sig} {S : List Blk} {w : World} {env : List AV} {a : Act} {o : Oper} {slot : Nat} {α : Type} {K : KV α} {out : α}
theorem ite_some {α : Type} {c : Prop} [Decidable c] {x : Option α} {y : α} (h : (if c then x else none) = some y) : c ∧ x = some y := by
 by_cases q : c
 ·rw [if_pos q] at h; exact ⟨q, h⟩
 ·rw [if_neg q] at h; cases h
theorem arr_two {α : Type} {l : Array α} {x y : α} (h : l.toList = [x, y]) : l = #[x, y] := by
 rw [← Array.toArray_toList (xs := l), h]
theorem zck_info {T : TypeId} (h : zck C T = true) : ∃ i v, C.P.info? T = some i ∧ i.zero = some v ∧ Sh C T (zero C C.P.depth T) ∧ (∀ w F σ, VR C w F σ (zero C C.P.depth T) v) ∧ C.P.depth ≠ 0 := by
 have h' := h
 obtain ⟨v, hv1, hv2, hv3⟩ := zck_ok h
 unfold zck at h
 split at h <;> try (cases h; done)
 rename_i v' cs h1 h2
 obtain ⟨i, hi, hz⟩ := Option.bind_eq_some_iff.mp h1
 have hw := hv1 default
 have : v = v' := by
  simp [zeroValue, typeInfo, hi, hz, Sem.run_bind, pure, Sem.run] at hw
  exact hw.symm
 subst this
 refine ⟨i, v, hi, hz, hv2, hv3, fun h0 => ?_⟩
 rw [h0] at h2
 simp [zcells] at h2
theorem setCells_row {b oo : Nat} {vs : List Value} {cur : Array Value} {t : TypeId} (hh : w.heap[b]? = some (.cells cur t (0, 0))) (hl : oo + vs.length ≤ cur.size) (h1 : ∀ v ∈ vs, v.oneCell' = true) : w.setCells b oo vs = w.setRow b (cur.toList.take oo ++ vs ++ cur.toList.drop (oo + vs.length)).toArray := by
 have e1 := run_storeCells_at (P := default) b oo t vs 0 cur w hh (by omega) h1
 have e2 := run_storeCells_cells (P := default) b oo vs 0 w (fun j hj => by simp [World.cell?, hh]; omega) (fun j hj => by simp [World.frozen?, hh]) h1
 rw [e1] at e2
 simp only [Nat.add_zero] at e2
 injection e2 with _ e
 exact e.symm
theorem rowV_rows {e : TypeId} {ys : List AV} {cells : Nat → List Value} (h : ∀ (j : Nat) y, ys[j]? = some y → Wt C e y ∧ R C w F noSig y (cells j) ∧ (cells j).length = C.sz e) : ((List.range ys.length).map cells).flatten.length = ys.length * C.sz e ∧ ∀ v ∈ ((List.range ys.length).map cells).flatten, v.oneCell' = true := by
 constructor
 ·have := (flat_at ((List.range ys.length).map cells) (List.replicate ys.length (C.sz e)) (by simp) fun k c n hc hn => by
   have hk := getElem?_lt hc
   simp only [List.length_map, List.length_range] at hk
   rw [List.getElem?_map, List.getElem?_range hk] at hc
   simp only [Option.map_some, Option.some.injEq] at hc
   rw [List.getElem?_replicate, if_pos hk] at hn
   simp only [Option.some.injEq] at hn
   obtain ⟨y, hy⟩ := getElem?_of_lt (l := ys) hk
   rw [← hc, ← hn]
   exact (h k y hy).2.2).1
  rw [this, List.sum_replicate_nat]
 ·intro v hv
  obtain ⟨c, hc, hvc⟩ := List.mem_flatten.mp hv
  obtain ⟨j, hj, rfl⟩ := List.mem_map.mp hc
  obtain ⟨y, hy⟩ := getElem?_of_lt (l := ys) (List.mem_range.mp hj)
  exact (h j y hy).2.1.plain v hvc
theorem RowV.drew {e : TypeId} {xs : List AV} {ad : Option Addr} {cells : Nat → List Value} (h : RowV C w F e xs ad cells) (n : Nat) : RowV C { w with drawn := n } F e xs ad cells := fun j x hx => by
 obtain ⟨h1, h2, h3, b, o1, h4, h5⟩ := h j x hx
 exact ⟨h1, R.mono (w := w) (w' := { w with drawn := n }) (fun _ _ => rfl) (fun _ h => h) h2 noSig (fun _ _ => rfl), h3, b, o1, h4, h5⟩
theorem flat_one {α β : Type} (g : α → β) : ∀ l : List α, (l.map fun j => [g j]).flatten = l.map g
 | [] => rfl
 | x :: l => by simp [flat_one g l]
theorem range_getD {α β : Type} (L : List α) (d : α) (f : α → β) : ((List.range L.length).map fun j => f (L.getD j d)) = L.map f := by
 apply List.ext_getElem?
 intro j
 rw [List.getElem?_map, List.getElem?_map]
 by_cases h : j < L.length
 ·rw [List.getElem?_range h]
  simp only [Option.map_some, List.getD_eq_getElem?_getD]
  simp [h]
 ·rw [List.getElem?_eq_none (by simp; omega), List.getElem?_eq_none (by omega)]
  rfl
theorem src_of (hl : layB C = true) (hs : Sim C F σ S w) {e T1 : TypeId} (hk : (∃ e', C.P.underlying T1 = some (.slice e')) ∨ C.P.underlying T1 = some .string) (hd : C.P.depth ≠ 0) {y : AV} {ys : List AV} {yv : Value}
  (hy : appSrc C S e y = some ys) (hr : VR C w F σ y yv) :
  ∃ cells, (∀ (j : Nat) v, ys[j]? = some v → Wt C e v ∧ R C w F noSig v (cells j) ∧ (cells j).length = C.sz e) ∧ Src C.P (C.sz e) T1 yv ys.length ((List.range ys.length).map cells).flatten w := by
 unfold appSrc at hy
 split at hy
 ·rename_i s
  obtain ⟨hue, hy⟩ := ite_some hy
  obtain rfl := Option.some.inj hy
  have hue : C.und e = some (.int .u8) := by
   revert hue
   unfold isU8
   cases hq : C.und e with
   | none => intro h; cases h
   | some d =>
    intro h
    cases d with
    | int k => cases k <;> first | rfl | (exact absurd h (by decide))
    | _ => exact absurd h (by simp)
  have hz : C.sz e = 1 := lay_one hl hue (by simp) (by simp)
  obtain rfl := hr.s_inv
  have hn : (s.data.toList.map fun (c : UInt8) => AV.i .u8 (c.toNat : Int)).length = s.size := by rw [List.length_map, Array.length_toList]; rfl
  have hcl : ((List.range (s.data.toList.map fun (c : UInt8) => AV.i .u8 (c.toNat : Int)).length).map fun j => [Value.int .u8 ((s.data.toList.getD j 0).toNat : Int)]).flatten = byteCells s := by
   rw [flat_one (fun j => Value.int .u8 ((s.data.toList.getD j 0).toNat : Int)), List.length_map]
   exact range_getD s.data.toList 0 fun c => Value.int .u8 (c.toNat : Int)
  refine ⟨fun j => [Value.int .u8 ((s.data.toList.getD j 0).toNat : Int)], fun j v hj => ?_, ?_⟩
  ·rw [List.getElem?_map] at hj
   obtain ⟨c, hc, rfl⟩ := Option.map_eq_some_iff.mp hj
   refine ⟨⟨.i hue, ?_⟩, ?_, by simp [hz]⟩
   ·cases hq : C.P.depth with
    | zero => exact absurd hq hd
    | succ d => simp [view, hue, AV.int]
   ·dsimp only
    rw [List.getD_eq_getElem?_getD, hc]
    exact .i
  ·rw [hcl, hz, hn]
   exact ⟨hk, fun _ => rfl, firstCells_string s w, firstCells_string s w.drew, by rw [byteCells_length, Nat.mul_one], fun u hu => by
    obtain ⟨_, _, rfl⟩ := List.mem_map.1 hu
    rfl⟩
 ·obtain ⟨hel, hy⟩ := ite_some hy
  obtain ⟨ad, cap, cells, rfl, hc, hR⟩ := rows_of hs hy (hr.one_inv (fun fs h => by rw [h] at hy; simp [elems] at hy) (fun h => by rw [h] at hy; simp [elems] at hy) (fun vs h => by rw [h] at hy; simp [elems] at hy)) hel
  have hrow : ∀ (j : Nat) v, ys[j]? = some v → Wt C e v ∧ R C w F noSig v (cells j) ∧ (cells j).length = C.sz e := fun j v hj => ⟨(hR j v hj).1, (hR j v hj).2.1, (hR j v hj).2.2.1⟩
  exact ⟨cells, hrow, hk, fun _ => rfl, (hR.load cap).1, ((hR.drew (w.drawn + 1)).load cap).1, (hR.load cap).2, (rowV_rows hrow).2⟩
theorem append_args {tys : Array TypeId} {T0 T1 rT : TypeId} {xs : Array Value} (h0 : tys[0]? = some T0) (h1 : tys[1]? = some T1) : Builtin.append_ tys rT xs = Builtin.append_ #[T0, T1] rT xs := by
 unfold Builtin.append_
 rw [h0, h1]
 rfl
theorem append_grows (hl : layB C = true) (hs : Sim C F σ S w) (hsl : Slot σ S slot) {e T0 T1 rT : TypeId} (hu : C.und T0 = some (.slice e)) (hz : zck C e = true) (hby : C.P.bytesOf e ≤ 65536) {xs ys : List AV} {ad : Option Addr} {cap : Nat} {xcells ycells : Nat → List Value} (hx : RowV C w F e xs ad xcells) (hxc : xs.length ≤ cap) (hy : ∀ (j : Nat) v, ys[j]? = some v → Wt C e v ∧ R C w F noSig v (ycells j) ∧ (ycells j).length = C.sz e) {yv : Value} (hsrc : Src C.P (C.sz e) T1 yv ys.length ((List.range ys.length).map ycells).flatten w)
  (hb : xs.length + ys.length ≤ 16777216) (hroom : cap < xs.length + ys.length) (ks : List Nat) :
  ∃ val w' F' σ', (Builtin.append_ #[T0, T1] rT #[.slice ad xs.length cap, yv]).run C.P w = .ok val w' ∧ Sim C F' σ' ((kill ks S).set slot (.arr e (xs ++ ys))) w' ∧ Stp C F σ S w F' σ' ((kill ks S).set slot (.arr e (xs ++ ys))) w' ∧ (∀ id, σ id ≠ .no → σ' id = σ id) ∧ R C w' F' σ' (.w e slot) [val] ∧ ∀ j, j ≠ slot → σ' j = σ j := by
 obtain ⟨i, zv, hi, hz0, hz1, hz2, hz3⟩ := zck_info hz
 have hsi : i.size = C.sz e := by
  obtain ⟨d, hd⟩ := sh_und hz1
  have := sz_info hd
  rw [hi] at this
  simpa using this
 have hzl : zv.cells.size = C.sz e := by
  have := sh_len hl hz1 ((hz2 w F σ).cells hz1)
  simpa using this
 have hbi : i.bytes ≤ 65536 := by
  unfold Program.bytesOf at hby
  rw [hi] at hby
  exact hby
 have hrun := run_append_grow_src (P := C.P) w T0 T1 rT e i zv (und_P hu) hi hz0 ad xs.length cap ((List.range xs.length).map xcells).flatten (by rw [hsi]; exact ((hx.drew (w.drawn + 1)).load cap).1) yv ys.length _ (by rw [hsi]; exact hsrc) hroom (by omega) (by
  have := nextcap_le hroom
  have h2 : Builtin.nextslicecap (xs.length + ys.length) cap * i.bytes ≤ (2 * (xs.length + ys.length) + 192) * 65536 := Nat.mul_le_mul this hbi
  omega)
 generalize hnc : grownCap w (xs.length + ys.length) cap e = nc at hrun
 have hncg : xs.length + ys.length ≤ nc := hnc ▸ grownCap_ge w _ _ e
 obtain ⟨s1, t1⟩ := hs.drop_ ks
 obtain ⟨s2, t2⟩ := s1.drew_ (w.drawn + 1) (Nat.le_succ _)
 have hxr : ∀ (j : Nat) y, xs[j]? = some y → Wt C e y ∧ R C w F noSig y (xcells j) ∧ (xcells j).length = C.sz e := fun j y hj => ⟨(hx j y hj).1, (hx j y hj).2.1, (hx j y hj).2.2.1⟩
 have hxl := (rowV_rows hxr).1
 generalize hcur : ((((List.range xs.length).map xcells).flatten ++ ((List.range ys.length).map ycells).flatten).toArray ++ Builtin.zeroCells zv.cells (nc - (xs.length + ys.length))) = cur at hrun
 have hsz : cur.size = nc * C.sz e := by
  rw [← hcur, Array.size_append, List.size_toArray, List.length_append, hxl, hsrc.newsLen]
  simp only [Builtin.zeroCells, Array.size_map, Array.size_range, hzl]
  rw [← Nat.add_mul, ← Nat.add_mul]
  congr 1
  omega
 have hdead : (kill ks S).getD slot .dead = .dead := by rw [getD_kill, hsl.dead]; split <;> rfl
 have hF : ∀ b, F b → (w.drew.alloc (.cells cur e)).heap[b]? = w.heap[b]? := fun b hb => alloc_keep w.drew _ (hs.fin b hb)
 have hA : ArrAt C (w.drew.alloc (.cells cur e)) F e (xs ++ ys) w.heap.size 0 nc := grown_new hl hxr hy hF (alloc_heap w.drew (.cells cur e)) hsz hncg ⟨_, by rw [← hcur, Array.toList_append]⟩
 obtain ⟨s3, t3⟩ := s2.alloc (by rw [kill_length]; exact hsl.lt) hdead hsl.no (.cells cur e) (.arr e (xs ++ ys)) (.arr w.heap.size 0 (xs ++ ys).length nc e) rfl ⟨rfl, rfl, hA⟩
 refine ⟨_, _, F, _, hrun, s3, (t1.trans t2).trans t3, put_ext hsl.no, ?_, fun j hj => put_ne hj⟩
 have := R.w (C := C) (w := w.drew.alloc (.cells cur e)) (F := F) (σ := σ.put slot (.arr w.heap.size 0 (xs ++ ys).length nc e)) (id := slot) (cap := nc) put_self (by simpa using hncg) (Nat.le_refl _)
 rw [← List.length_append]
 exact this
theorem append_fits (hl : layB C = true) (hs : Sim C F σ S w) (hsl : Slot σ S slot) {e T0 T1 rT : TypeId} {de : TypeDesc} (hu : C.und T0 = some (.slice e)) (hde : C.und e = some de) {id b o1 n c : Nat} {ws : List AV} (hS : S.getD id .dead = .arr e ws) (hσ : σ id = .arr b o1 n c e) (off len cap : Nat) (hlen : off + len ≤ ws.length) (hcap : off + cap ≤ c) {ys : List AV} {ycells : Nat → List Value} (hy : ∀ (j : Nat) v, ys[j]? = some v → Wt C e v ∧ R C w F noSig v (ycells j) ∧ (ycells j).length = C.sz e) {yv : Value} (hsrc : Src C.P (C.sz e) T1 yv ys.length ((List.range ys.length).map ycells).flatten w)
  (hroom : len + ys.length ≤ cap) :
  ∃ val w' F' σ', (Builtin.append_ #[T0, T1] rT #[.slice (some ⟨b, o1 + off * C.sz e, none⟩) len cap, yv]).run C.P w = .ok val w' ∧ Sim C F' σ' ((kill [id] S).set slot (.arr e ((ws.drop off).take len ++ ys))) w' ∧ Stp C F σ S w F' σ' ((kill [id] S).set slot (.arr e ((ws.drop off).take len ++ ys))) w' ∧ (∀ id, σ id ≠ .no → σ' id = σ id) ∧ R C w' F' σ' (.w e slot) [val] ∧ ∀ j, j ≠ slot → σ' j = σ j := by
 have hlv : live S id := by unfold live; rw [hS]; simp
 have hbk : (σ id).blk = some b := by rw [hσ]; rfl
 have hB := hs.blk id
 rw [hS, hσ] at hB
 obtain ⟨_, rfl, hA⟩ := hB
 have hA' := hA
 obtain ⟨hc, cur, t, hh, hz, _⟩ := hA'
 have hinf := sz_info hde
 obtain ⟨i, hi⟩ : ∃ i, C.P.info? e = some i := by
  cases hq : C.P.info? e with
  | none => rw [hq] at hinf; cases hinf
  | some i => exact ⟨i, rfl⟩
 have hsi : i.size = C.sz e := by rw [hi] at hinf; simpa using hinf
 have hmul : (off + len + ys.length) * C.sz e ≤ c * C.sz e := Nat.mul_le_mul_right _ (by omega)
 rw [Nat.add_mul, Nat.add_mul] at hmul
 have hnl := hsrc.newsLen
 have hrun := run_append_room_src (P := C.P) w T0 T1 rT e i (und_P hu) hi b (o1 + off * C.sz e) len cap yv ys.length _ (by rw [hsi]; exact hsrc) hroom (fun j hj => by
  rw [hsi]
  simp [World.cell?, hh]
  omega) (fun j hj => by simp [World.frozen?, hh])
 rw [hsi, setCells_row hh (by omega) hsrc.one] at hrun
 have hnF : ¬ F b := hs.out id b hlv hbk
 have hG := grown_in hl hA off len hlen (by omega) hy hh hnF rfl hnl
 have hlen2 : ((ws.drop off).take len ++ ys).length = len + ys.length := by simp; omega
 obtain ⟨s1, t1⟩ := hs.move_ hsl hlv hbk _ (.arr e ((ws.drop off).take len ++ ys)) (.arr b (o1 + off * C.sz e) (len + ys.length) (c - off) e) rfl ⟨rfl, hlen2.symm, hG⟩
 exact ⟨_, _, F, _, hrun, s1, t1, put_ext hsl.no, .w put_self hroom (by omega), fun j hj => put_ne hj⟩
theorem append_none (hl : layB C = true) (hs : Sim C F σ S w) (hsl : Slot σ S slot) {e T0 T1 rT : TypeId} {de : TypeDesc} (hu : C.und T0 = some (.slice e)) (hde : C.und e = some de) {ad : Option Addr} (had : isU8 C e = true → ad = none) {yv : Value} (hsrc : Src C.P (C.sz e) T1 yv 0 [] w) (ks : List Nat) :
  ∃ val w' F' σ', (Builtin.append_ #[T0, T1] rT #[.slice ad 0 0, yv]).run C.P w = .ok val w' ∧ Sim C F' σ' ((kill ks S).set slot (.arr e [])) w' ∧ Stp C F σ S w F' σ' ((kill ks S).set slot (.arr e [])) w' ∧ (∀ id, σ id ≠ .no → σ' id = σ id) ∧ R C w' F' σ' (.w e slot) [val] ∧ ∀ j, j ≠ slot → σ' j = σ j := by
 have hinf := sz_info hde
 obtain ⟨i, hi⟩ : ∃ i, C.P.info? e = some i := by
  cases hq : C.P.info? e with
  | none => rw [hq] at hinf; cases hinf
  | some i => exact ⟨i, rfl⟩
 have hsi : i.size = C.sz e := by rw [hi] at hinf; simpa using hinf
 have hrun := run_append_nothing (P := C.P) w T0 T1 rT e i (und_P hu) hi ad 0 0 (Nat.le_refl _) yv (by rw [hsi]; exact hsrc)
 obtain ⟨s1, t1⟩ := hs.drop_ ks
 have hdead : (kill ks S).getD slot .dead = .dead := by rw [getD_kill, hsl.dead]; split <;> rfl
 obtain ⟨s2, t2⟩ := s1.nil_ ⟨by rw [kill_length]; exact hsl.lt, hdead, hsl.no⟩ e
 exact ⟨_, _, F, _, hrun, s2, t1.trans t2, put_ext hsl.no, .w0 put_self had, fun j hj => put_ne hj⟩
theorem ok_append {args : Array Operand} {argTypes : Array TypeId} (hl : layB C = true) (hs : Sim C F σ S w) (he : EnvR C w F σ env a.tmps) (hsl : Slot σ S slot) (ho : o.op = .call { callee := .builtin .append, args, argTypes }) (h : opD C S env slot K o.op = some out) : ∃ v S' ks, K v S' ks = some out ∧ OpOk C o F σ S w a slot v S' ks := by
 have hn : slotsOf o.op = 1 := by rw [ho]; rfl
 rw [ho] at h
 simp only [opD] at h
 split at h <;> try (cases h; done)
 rename_i e x y hu hxy
 replace h := ite_some h
 obtain ⟨⟨hz, hby, hk1⟩, h⟩ := h
 replace h := ite_some h
 obtain ⟨hel, h⟩ := h
 generalize hxs : elems S x = qx at h
 generalize hys : appSrc C S e y = qy at h
 cases qx with
 | none => simp at h
 | some xs =>
 cases qy with
 | none => simp at h
 | some ys =>
 simp only at h
 replace h : (∀ e' zs, x ≠ .l e' zs) ∧ (xs.length + ys.length ≤ 16777216 ∧ (isU8 C e && roomless x) = false) ∧ K (.w e slot) ((kill (ownId x) S).set slot (.arr e (xs ++ ys))) [] = some out := by
  cases x <;> first | (cases h; done) | exact ⟨by simp, ite_some h⟩
 obtain ⟨hnl, ⟨hb, hrl⟩, hK⟩ := h
 obtain ⟨ox, oy, hargs, rfl, rfl⟩ : ∃ ox oy, args.toList = [ox, oy] ∧ ev env ox = x ∧ ev env oy = y := by
  match hq : args.toList, hxy with
  | [ox, oy], hxy => simp at hxy; exact ⟨ox, oy, rfl, hxy.1, hxy.2⟩
  | [], hxy => simp at hxy
  | [_], hxy => simp at hxy
  | _ :: _ :: _ :: _, hxy => simp at hxy
 have hargs := arr_two hargs
 have hx := ev_ok he ox
 have hy := ev_ok he oy
 have ht0 : argTypes[0]? = some ((argTypes[0]?).getD C.P.types.size) := by
  cases hq : argTypes[0]? with
  | none =>
   rw [hq] at hu
   exact absurd (und_lt hu) (by simp)
  | some T => rfl
 generalize (argTypes[0]?).getD C.P.types.size = T0 at hu ht0
 have hk : ∃ T1, argTypes[1]? = some T1 ∧ ((∃ e', C.P.underlying T1 = some (.slice e')) ∨ C.P.underlying T1 = some .string) := by
  unfold appKind at hk1
  cases hq : argTypes[1]? with
  | none =>
   rw [hq] at hk1
   cases hd : C.und C.P.types.size with
   | none => simp [hd] at hk1
   | some d => exact absurd (und_lt hd) (by simp)
  | some T =>
   rw [hq] at hk1
   cases hd : C.und T with
   | none => simp [hd] at hk1
   | some d => cases d <;> first | (simp [hd] at hk1; done) | exact ⟨T, rfl, .inl ⟨_, und_P hd⟩⟩ | exact ⟨T, rfl, .inr (und_P hd)⟩
 obtain ⟨T1, ht1, hk⟩ := hk
 obtain ⟨i, zv, hi, hz0, hz1, hz2, hz3⟩ := zck_info hz
 obtain ⟨de, hde⟩ := sh_und hz1
 obtain ⟨ycells, hyr, hsrc⟩ := src_of hl hs hk hz3 hys hy
 have hr := hx.one_inv (fun fs h => by rw [h] at hxs; simp [elems] at hxs) (fun h => by rw [h] at hxs; simp [elems] at hxs) (fun vs h => by rw [h] at hxs; simp [elems] at hxs)
 have fin : ∀ {ks : List Nat} {zs : List AV} (hK : K (.w e slot) ((kill ks S).set slot (.arr e zs)) [] = some out) (hh : ∃ val w' F' σ', (Builtin.append_ #[T0, T1] o.type #[a.eval ox, a.eval oy]).run C.P w = .ok val w' ∧ Sim C F' σ' ((kill ks S).set slot (.arr e zs)) w' ∧ Stp C F σ S w F' σ' ((kill ks S).set slot (.arr e zs)) w' ∧ (∀ id, σ id ≠ .no → σ' id = σ id) ∧ R C w' F' σ' (.w e slot) [val] ∧ ∀ j, j ≠ slot → σ' j = σ j), ∃ v S' ks, K v S' ks = some out ∧ OpOk C o F σ S w a slot v S' ks := by
  intro ks zs hK ⟨val, w', F', σ', h1, h2, h3, h4, h5, h6⟩
  refine ⟨_, _, _, hK, val, w', F', σ', .inl ?_, h2, h3, h4, fun id h => by simp at h, .one (by simp) h5, by rw [List.length_set, kill_length], fun j hj q1 q2 => ⟨?_, ?_⟩⟩
  ·rw [call_builtin ho, hargs]
   have hb : ∀ c xs, builtin .append argTypes o.type c xs = (do pure (.value (← Builtin.append_ argTypes o.type xs))) := fun _ _ => rfl
   rw [hb, Sem.run_bind, append_args ht0 ht1]
   simp [h1, pure, Sem.run]
  ·rw [getD_set_ne (by omega), getD_kill, q1]; split <;> rfl
  ·rw [h6 j (by omega)]; exact q2
 obtain ⟨ad, cap, xcells, hxv, hcap, hR⟩ := rows_of hs hxs hr hel
 by_cases hroom : xs.length + ys.length ≤ cap
 ·have none_ : xs = [] → ys = [] → cap = 0 → (isU8 C e = true → ad = none) → ∃ v S' ks, K v S' ks = some out ∧ OpOk C o F σ S w a slot v S' ks := by
   intro e1 e2 e3 had
   subst e1 e2 e3
   refine fin hK ?_
   rw [hxv]
   exact append_none hl hs hsl hu hde had hsrc _
  cases hxe : ev env ox <;> rw [hxe] at hxs hr hK hrl <;> simp only [elems] at hxs <;> try (cases hxs; done)
  case l e' zs => exact absurd hxe (hnl e' zs)
  case z m =>
   match m, hxs, hr with
   | 0, hxs, _ => simp at hxs
   | 1, hxs, hr =>
    simp only [Option.some.injEq] at hxs
    subst hxs
    rw [hxv] at hr
    generalize hln : ([] : List AV).length = ln at hr
    cases hr
    exact none_ rfl (by simpa using hroom) rfl fun _ => rfl
   | 8, hxs, hr =>
    simp only [Option.some.injEq] at hxs
    subst hxs
    rw [hxv] at hr
    generalize hln : ([] : List AV).length = ln at hr
    cases hr
    exact none_ rfl (by simpa using hroom) rfl fun h8 => by rw [h8] at hrl; simp [roomless] at hrl
   | 2, hxs, _ | 3, hxs, _ | 4, hxs, _ | 5, hxs, _ | 6, hxs, _ | 7, hxs, _ => simp at hxs
   | m + 9, hxs, _ => simp at hxs
  case w e' id =>
   rw [hxe] at hel
   simp only [elT] at hel
   obtain rfl : e' = e := by rcases hel with h | h <;> simp at h; exact h
   cases hS : S.getD id .dead <;> rw [hS] at hxs <;> simp only at hxs <;> try (cases hxs; done)
   rename_i e2 ws
   obtain rfl := Option.some.inj hxs
   have hB := hs.blk id
   rw [hS] at hB
   rcases hr.w_inv with ⟨b, o1, n, c, cap', g1, g2, g3, g4⟩ | ⟨g1, ad', g5, g4⟩
   ·rw [g1] at hB
    obtain ⟨rfl, hn', hA⟩ := hB
    rw [hxv] at g4
    simp only [Value.slice.injEq] at g4
    obtain ⟨rfl, _, rfl⟩ := g4
    have := append_fits (rT := o.type) hl hs hsl hu hde hS g1 0 ws.length cap (by omega) (by omega) hyr hsrc hroom
    simp only [List.drop_zero, List.take_length, Nat.zero_mul, Nat.add_zero] at this
    refine fin hK ?_
    rw [hxv]
    exact this
   ·rw [g1] at hB
    simp only [BlkAt] at hB
    subst hB
    rw [hxv] at g4
    simp only [Value.slice.injEq] at g4
    obtain ⟨rfl, _, rfl⟩ := g4
    exact none_ rfl (by simpa using hroom) rfl g5
  case r e' id off len =>
   rw [hxe] at hel
   simp only [elT] at hel
   obtain rfl : e' = e := by rcases hel with h | h <;> simp at h; exact h
   cases hS : S.getD id .dead <;> rw [hS] at hxs <;> simp only at hxs <;> try (cases hxs; done)
   rename_i e2 ws
   obtain rfl := Option.some.inj hxs
   have hB := hs.blk id
   rw [hS] at hB
   rw [hxv] at hr
   generalize hln : ((ws.drop off).take len).length = ln at hr hxv hroom
   cases hr with
   | r g1 g2 g3 g4 =>
    rename_i b o1 n c
    rw [g1] at hB
    obtain ⟨rfl, hn', hA⟩ := hB
    have := append_fits (rT := o.type) hl hs hsl hu hde hS g1 off len cap (by omega) (by omega) hyr hsrc hroom
    refine fin hK ?_
    rw [hxv]
    exact this
   | r0 => exact none_ (by simp) (by simpa using hroom) rfl fun h8 => by rw [h8] at hrl; simp [roomless] at hrl
 ·refine fin hK ?_
  rw [hxv]
  exact append_grows hl hs hsl hu hz hby hR hcap hyr hsrc hb (by omega) _
end
section
variable {C : Cfg}
variable {F : Nat → Prop} {σ : Sig} {S : List Blk} {w : World} {env : List AV} {a : Act} {o : Oper} {slot : Nat} {α : Type} {K : KV α} {out : α}
theorem fill_step (css : List (List Value)) (i : Nat) (c0 c : List Value) (h : css[i]? = some c0) (hc : c.length = c0.length) {off : Nat} (ho : off = (css.take i).flatten.length) :
  off + c.length ≤ css.flatten.length ∧ (c.zipIdx.foldl (fun cs (x : Value × Nat) => cs.setIfInBounds (off + x.2) x.1) css.flatten.toArray) = (css.set i c).flatten.toArray := by
 have hi := getElem?_lt h
 have e0 : css = css.take i ++ c0 :: css.drop (i + 1) := by
  have hc0 : css[i] = c0 := by rw [List.getElem?_eq_getElem hi] at h; exact Option.some.inj h
  rw [← hc0, List.getElem_cons_drop, List.take_append_drop]
 have e1 : css.set i c = css.take i ++ c :: css.drop (i + 1) := List.set_eq_take_append_cons_drop .. |>.trans (by rw [if_pos hi])
 have f0 : css.flatten = (css.take i).flatten ++ (c0 ++ (css.drop (i + 1)).flatten) := by
  conv => lhs; rw [e0]
  simp
 have hle : off + c.length ≤ css.flatten.length := by
  rw [f0, ho, hc]
  simp only [List.length_append]
  omega
 refine ⟨hle, ?_⟩
 obtain ⟨h1, h2⟩ := Go.Great.foldl_set off c 0 css.flatten.toArray
 apply Array.ext_getElem?
 intro k
 rw [h2 k, e1]
 simp only [Nat.add_zero, List.size_toArray, List.getElem?_toArray, List.flatten_append, List.flatten_cons]
 rw [f0]
 generalize (css.take i).flatten = A at *
 generalize (css.drop (i + 1)).flatten = B at *
 simp only [List.length_append]
 rw [List.getElem?_append, List.getElem?_append, List.getElem?_append, List.getElem?_append]
 by_cases q1 : k < A.length
 ·rw [if_neg (by omega), if_pos q1, if_pos q1]
 ·rw [if_neg q1, if_neg q1]
  by_cases q2 : k - A.length < c.length
  ·rw [if_pos (by omega), if_pos (by omega), ho]
  ·rw [if_neg (by omega), if_neg (by omega), if_neg (by omega), hc]
theorem fill_R {szs : List Nat} {place : Nat → Option (Nat × Nat)} (hp : ∀ i n, szs[i]? = some n → place i = some ((szs.take i).sum, n)) {Q : AV → List Value → Prop} : ∀ (L : List (Nat × AV × Value)) (zs : List AV) (css : List (List Value)), css.length = szs.length → zs.length = szs.length → (∀ (j : Nat) c n, css[j]? = some c → szs[j]? = some n → c.length = n) → (∀ (j : Nat) a c, zs[j]? = some a → css[j]? = some c → Q a c) →
  (∀ q ∈ L, ∃ n, szs[q.1]? = some n ∧ q.2.2.cells.size = n ∧ Q q.2.1 q.2.2.cells.toList) →
  ∃ css' : List (List Value), Instr.fill place css.flatten.toArray (L.map fun q => (q.1, q.2.2)) = some css'.flatten.toArray ∧ css'.length = szs.length ∧ (L.foldl (fun zs q => zs.set q.1 q.2.1) zs).length = szs.length ∧ (∀ (j : Nat) c n, css'[j]? = some c → szs[j]? = some n → c.length = n) ∧ (∀ (j : Nat) a c, (L.foldl (fun zs q => zs.set q.1 q.2.1) zs)[j]? = some a → css'[j]? = some c → Q a c)
 | [], zs, css, h1, h2, h3, h4, _ => ⟨css, rfl, h1, h2, h3, h4⟩
 | q :: L, zs, css, h1, h2, h3, h4, h5 => by
  obtain ⟨n, g1, g2, g3⟩ := h5 q (by simp)
  have hi := getElem?_lt g1
  obtain ⟨c0, hc0⟩ := getElem?_of_lt (l := css) (j := q.1) (by omega)
  have hl0 := h3 _ _ _ hc0 g1
  have htk : (szs.take q.1).sum = (css.take q.1).flatten.length := by
   rw [(flat_at (css.take q.1) (szs.take q.1) (by simp [h1]) fun j c m hc hm => by
    rw [List.getElem?_take] at hc hm
    split at hc
    ·rename_i hj
     rw [if_pos hj] at hm
     exact h3 j c m hc hm
    ·cases hc).1]
  obtain ⟨s1, s2⟩ := fill_step css q.1 c0 q.2.2.cells.toList hc0 (by simp [g2, hl0]) htk
  have key : Instr.fill place css.flatten.toArray ((q :: L).map fun q => (q.1, q.2.2)) = Instr.fill place (css.set q.1 q.2.2.cells.toList).flatten.toArray (L.map fun q => (q.1, q.2.2)) := by
   rw [List.map_cons]
   conv => lhs; unfold Instr.fill
   rw [hp _ _ g1]
   simp only
   rw [if_neg (by
    simp only [g2, bne_self_eq_false, Bool.false_or, List.size_toArray, decide_eq_true_eq, ne_eq, not_true_eq_false, decide_false, Bool.or_eq_true]
    have : q.2.2.cells.toList.length = n := by simp [g2]
    rw [this] at s1
    omega)]
   congr 1
   rw [← s2]
   rw [← Array.foldl_toList]
   congr 1
   simp
  obtain ⟨css', r1, r2, r3, r4, r5⟩ := fill_R hp L (zs.set q.1 q.2.1) (css.set q.1 q.2.2.cells.toList) (by simp [h1]) (by simp [h2]) (fun j c m hc hm => by
   rw [List.getElem?_set] at hc
   split at hc
   ·rename_i e
    subst e
    rw [if_pos (by omega)] at hc
    rw [g1] at hm
    obtain rfl := Option.some.inj hc
    obtain rfl := Option.some.inj hm
    simp [g2]
   ·exact h3 j c m hc hm) (fun j b c hb hc => by
   rw [List.getElem?_set] at hb hc
   split at hc
   ·rename_i e
    subst e
    rw [if_pos (by omega)] at hc
    rw [if_pos rfl, if_pos (by omega)] at hb
    obtain rfl := Option.some.inj hc
    obtain rfl := Option.some.inj hb
    exact g3
   ·rename_i e
    rw [if_neg e] at hb
    exact h4 j b c hb hc) fun p hp => h5 p (by simp [hp])
  exact ⟨css', key.trans r1, r2, r3, r4, r5⟩
theorem made_flat (z : Array Value) : ∀ n, madeCells z (n * z.size) = (List.replicate n z.toList).flatten.toArray
 | 0 => by simp [madeCells]
 | n + 1 => by
  have ih := congrArg Array.toList (made_flat z n)
  apply Array.ext'
  rw [List.replicate_succ']
  simp only [madeCells, Array.toList_map, Array.toList_range, List.flatten_append, List.flatten_cons, List.flatten_nil, List.append_nil] at ih ⊢
  rw [Nat.add_mul, Nat.one_mul, List.range_add, List.map_append, ih]
  congr 1
  apply List.ext_getElem
  ·simp
  ·intro j h1 h2
   simp only [List.length_map, List.length_range] at h1
   simp [Nat.mod_eq_of_lt h1, h1]
theorem rows_arr {w' : World} {e : TypeId} {xs : List AV} {css : List (List Value)} (hn : css.length = xs.length) (hx : ∀ (j : Nat) y c, xs[j]? = some y → css[j]? = some c → Wt C e y ∧ R C w F noSig y c ∧ c.length = C.sz e) (hl : layB C = true) (hk : ∀ b, F b → w'.heap[b]? = w.heap[b]?) {g nc : Nat} {cur : Array Value} (hg : w'.heap[g]? = some (.cells cur e (0, 0))) (hsz : cur.size = nc * C.sz e) (hnc : xs.length ≤ nc) (hcur : ∃ rest, cur.toList = css.flatten ++ rest) : ArrAt C w' F e xs g 0 nc := by
 obtain ⟨rest, hcur⟩ := hcur
 have := grown_new (C := C) (F := F) (w := w) hl (e := e) (xs := xs) (ys := []) (xcells := fun j => css.getD j []) (ycells := fun _ => []) (fun j y hy => by
  obtain ⟨c, hc⟩ := getElem?_of_lt (l := css) (j := j) (by have := getElem?_lt hy; omega)
  have := hx j y c hy hc
  simpa [List.getD_eq_getElem?_getD, hc] using this) (fun j y hy => by simp at hy) hk hg hsz (by simpa using hnc) ⟨rest, by
   rw [hcur, ← hn]
   have := range_getD css [] id
   simp only [id, List.map_id] at this
   rw [this]
   simp⟩
 simpa using this
theorem lies_self {P : Program} {T : TypeId} (h : P.cellsOf T ≠ 0) : liesAt P P.depth T 1 0 T 1 = true := by
 have hd : P.depth = (2 * (P.types.size + Made.depth) + 1) + 1 := rfl
 rw [hd]
 simp only [liesAt, Bool.or_eq_true]
 left
 rw [hd]
 simp [rowAt, h, sameLayout]
theorem lies_bytes {P : Program} {e : TypeId} (h : P.cellsOf e = 1) {count off n : Nat} (hn : off + n ≤ count) : liesAt P P.depth e count off e n = true := by
 have hd : P.depth = (2 * (P.types.size + Made.depth) + 1) + 1 := rfl
 rw [hd]
 simp only [liesAt, Bool.or_eq_true]
 left
 rw [hd]
 simp [rowAt, h, hn, sameLayout, Nat.mod_one]
theorem ok_convert (hl : layB C = true) {src dst : TypeId} {x : Operand} (hs : Sim C F σ S w) (he : EnvR C w F σ env a.tmps) (ho : o.op = .convert src dst x) (h : opD C S env slot K o.op = some out) : ∃ v S' ks, K v S' ks = some out ∧ OpOk C o F σ S w a slot v S' ks := by
 rw [ho] at h
 simp only [opD] at h
 have hx := ev_ok he x
 split at h
 ·rename_i d k k' n hu1 hu2 ex
  rw [ex] at hx
  refine ⟨_, _, _, h, OpOk.still hs (val := .int k (k.wrap n)) ?_ (.one (by simp) .i)⟩
  simp [execOp, ho, hx.i_inv, convert, Sem.run_bind, run_underlying (und_P hu1) w, run_underlying (und_P hu2) w, Conv.intToInt, pure, Sem.run]
 ·rename_i d s hu1 hu2 ex
  rw [ex] at hx
  refine ⟨_, _, _, h, OpOk.still hs (val := .string s) ?_ (.one (by simp) .s)⟩
  simp [execOp, ho, hx.s_inv, convert, Sem.run_bind, run_underlying (und_P hu1) w, run_underlying (und_P hu2) w, pure, Sem.run]
 ·rename_i e hu1 hu2 hn
  obtain ⟨⟨hu8, ht⟩, h⟩ := ite_some h
  split at h <;> try (cases h; done)
  rename_i xs hxs
  have hr : R C w F σ (ev env x) [a.eval x] := by
   generalize ev env x = ax at hx hxs
   generalize a.eval x = vx at hx
   cases hx with
   | one h1 hr => exact hr
   | u => simp [elems] at hxs
   | agg => simp [elems] at hxs
   | t => simp [elems] at hxs
  obtain ⟨ad, cap, cells, hv, hcap, hrow⟩ := rows_of hs hxs hr ht
  have hue : C.und e = some (.int .u8) := by
   unfold isU8 at hu8
   split at hu8
   ·assumption
   ·cases hu8
  have hconv : (convert src dst (.slice ad xs.length cap)).run C.P w = .ok (.string (bytesOf xs)) w := by
   rw [run_convert_bytes_string w src dst e ad xs.length cap (und_P hu1) (und_P hue) (und_P hu2)]
   have hcell : ∀ (j : Nat) y, xs[j]? = some y → ∃ b o, ad = some ⟨b, o, none⟩ ∧ w.cell? ⟨b, o + j, none⟩ = some (.int .u8 y.int) := fun j y hy => by
    obtain ⟨q1, q2, q3, b, o1, q4, q5⟩ := hrow j y hy
    cases q1.1 <;> rename_i hu' <;> rw [hue] at hu' <;> cases hu'
    rename_i n
    cases hc : cells j with
    | nil => rw [hc] at q2; cases q2
    | cons c cs =>
     rw [hc] at q2 q3 q5
     cases q2
     have hsz : C.sz e = 1 := by simpa using q3.symm
     rw [hsz, Nat.mul_one] at q5
     exact ⟨b, o1, q4, by simpa [AV.int] using q5 0 _ rfl⟩
   cases ad with
   | none =>
    have : xs = [] := by
     cases xs with
     | nil => rfl
     | cons y ys => obtain ⟨_, _, q, _⟩ := hcell 0 y rfl; cases q
    subst this
    rfl
   | some p =>
    have := run_bytesToString (P := C.P) w p xs.length cap (xs.map AV.int) (by
     have := run_loadCells_list (P := C.P) w p ((xs.map AV.int).map (Value.int .u8)) fun j v hj => by
      rw [List.getElem?_map, List.getElem?_map] at hj
      cases hy : xs[j]? with
      | none => rw [hy] at hj; simp at hj
      | some y =>
       rw [hy] at hj
       simp only [Option.map_some, Option.some.injEq] at hj
       obtain ⟨b, o1, q1, q2⟩ := hcell j y hy
       cases q1
       rw [Addr.add_mid, q2, ← hj]
     simpa using this)
    rw [this]
    rfl
  refine ⟨_, _, _, h, OpOk.still hs (val := .string (bytesOf xs)) ?_ (.one (by simp) .s)⟩
  simp [execOp, ho, hv, Sem.run_bind, hconv, pure, Sem.run]
 ·rename_i T1 id path hu1 hu2 ex
  rw [ex] at hx
  split at h <;> try (cases h; done)
  rename_i T v hS
  have hq := ite_some h
  clear h
  obtain ⟨⟨hp, hpk⟩, h⟩ := hq
  have hb := hs.blk id
  rw [hS] at hb
  have hr := hx.one_inv (by simp) (by simp) (by simp)
  generalize hpv : a.eval x = pv at hr hx
  cases hr with
  | p h1 h2 =>
   rename_i b T2 T3
   rw [h1] at hb
   obtain ⟨rfl, hshv, cur, t, hh, hrr⟩ := hb
   obtain ⟨cs', r1, r2, r3, r4⟩ := path_at hl path _ T1 v cur.toList hshv hrr hp
   obtain ⟨T4, hp4, hz⟩ := pok_pty hpk
   rw [hp] at hp4
   cases hp4
   obtain ⟨d1, hd1⟩ := sh_und r2
   have hi := sz_info hd1
   cases hj : C.P.info? T1 with
   | none => rw [hj] at hi; cases hi
   | some j =>
    rw [hj] at hi
    simp only [Option.map_some, Option.some.injEq] at hi
    refine ⟨_, _, _, h, OpOk.still hs (val := .pointer (some ⟨b, poff C _ path, none⟩)) ?_ hx⟩
    have := Lib.run_to_unsafe (P := C.P) w (src := src) (dst := dst) (e := T2) (cells := cur.size) ⟨b, poff C _ path, none⟩ (und_P hu1) (und_P hu2) hj (by rw [hi]; exact hz) (by simp [World.shape?, hh]) (Nat.lt_of_lt_of_le (Nat.lt_add_of_pos_right (Nat.pos_of_ne_zero hz)) (by simpa using r3))
    simp [execOp, ho, hpv, Sem.run_bind, this, pure, Sem.run]
  | pa h1 => rw [h1] at hb; exact hb.elim
 ·rename_i T1 id hu1 hu2 ex
  rw [ex] at hx
  split at h <;> try (cases h; done)
  rename_i T v hS
  have hq := ite_some h
  clear h
  obtain ⟨⟨rfl, hpk⟩, h⟩ := hq
  have hb := hs.blk id
  rw [hS] at hb
  have hr := hx.one_inv (by simp) (by simp) (by simp)
  generalize hpv : a.eval x = pv at hr hx
  cases hr with
  | p h1 h2 =>
   rename_i b T2 T3
   rw [h1] at hb
   obtain ⟨rfl, hshv, cur, t, hh, hrr⟩ := hb
   obtain ⟨T4, hp4, hz⟩ := pok_pty hpk
   cases hp4
   have hlen := sh_len hl hshv hrr
   obtain ⟨d1, hd1⟩ := sh_und hshv
   have hi := sz_info hd1
   cases hj : C.P.info? T2 with
   | none => rw [hj] at hi; cases hi
   | some j =>
    refine ⟨_, _, _, h, OpOk.still hs (val := .pointer (some ⟨b, poff C T2 [], none⟩)) ?_ hx⟩
    have hc : cur.size / C.P.cellsOf T2 = 1 := by
     have e : cur.size = C.P.cellsOf T2 := by simpa using hlen
     rw [e]
     exact Nat.div_self (Nat.pos_of_ne_zero hz)
    have := Lib.run_from_unsafe (P := C.P) w (src := src) (dst := dst) (e := T2) (cells := cur.size) ⟨b, 0, none⟩ (und_P hu1) (und_P hu2) hj (by simp [World.shape?, hh]) (by rw [hc]; exact lies_self hz)
    simp [execOp, ho, hpv, Sem.run_bind, this, poff, pure, Sem.run]
  | pa h1 => rw [h1] at hb; exact hb.elim
 ·cases h
theorem ok_max {args : Array Operand} {argTypes : Array TypeId} (hs : Sim C F σ S w) (he : EnvR C w F σ env a.tmps) (ho : o.op = .call { callee := .builtin .max, args, argTypes }) (h : opD C S env slot K o.op = some out) : ∃ v S' ks, K v S' ks = some out ∧ OpOk C o F σ S w a slot v S' ks := by
 rw [ho] at h
 simp only [opD] at h
 split at h <;> try (cases h; done)
 rename_i k n k' m hm
 obtain ⟨x, y, hxy, e1, e2⟩ : ∃ x y, args.toList = [x, y] ∧ ev env x = .i k n ∧ ev env y = .i k' m := by
  cases hl : args.toList with
  | nil => rw [hl] at hm; simp at hm
  | cons x l =>
   cases l with
   | nil => rw [hl] at hm; simp at hm
   | cons y l =>
    cases l with
    | nil => rw [hl] at hm; simp only [List.map_cons, List.map_nil, List.cons.injEq, and_true] at hm; exact ⟨x, y, rfl, hm.1, hm.2⟩
    | cons => rw [hl] at hm; simp at hm
 have hx := ev_ok he x
 have hy := ev_ok he y
 rw [e1] at hx
 rw [e2] at hy
 refine ⟨_, _, _, h, OpOk.still hs (val := .int k (if m > n then m else n)) ?_ (.one (by simp) .i)⟩
 rw [call_builtin ho, arr_two hxy]
 simp [builtin, hx.i_inv, hy.i_inv, run_max_int2, Sem.run_bind, pure, Sem.run]
theorem ok_min {args : Array Operand} {argTypes : Array TypeId} (hs : Sim C F σ S w) (he : EnvR C w F σ env a.tmps) (ho : o.op = .call { callee := .builtin .min, args, argTypes }) (h : opD C S env slot K o.op = some out) : ∃ v S' ks, K v S' ks = some out ∧ OpOk C o F σ S w a slot v S' ks := by
 rw [ho] at h
 simp only [opD] at h
 split at h <;> try (cases h; done)
 rename_i k n k' m hm
 obtain ⟨x, y, hxy, e1, e2⟩ : ∃ x y, args.toList = [x, y] ∧ ev env x = .i k n ∧ ev env y = .i k' m := by
  cases hl : args.toList with
  | nil => rw [hl] at hm; simp at hm
  | cons x l =>
   cases l with
   | nil => rw [hl] at hm; simp at hm
   | cons y l =>
    cases l with
    | nil => rw [hl] at hm; simp only [List.map_cons, List.map_nil, List.cons.injEq, and_true] at hm; exact ⟨x, y, rfl, hm.1, hm.2⟩
    | cons => rw [hl] at hm; simp at hm
 have hx := ev_ok he x
 have hy := ev_ok he y
 rw [e1] at hx
 rw [e2] at hy
 refine ⟨_, _, _, h, OpOk.still hs (val := .int k (if m < n then m else n)) ?_ (.one (by simp) .i)⟩
 rw [call_builtin ho, arr_two hxy]
 simp [builtin, hx.i_inv, hy.i_inv, run_min_int2, Sem.run_bind, pure, Sem.run]
end
section
variable {C : Cfg}
variable {F : Nat → Prop} {σ : Sig} {S : List Blk} {w : World} {env : List AV} {a : Act} {o : Oper} {slot : Nat} {α : Type} {K : KV α} {out : α}
theorem ok_newRow (hl : layB C = true) (hs : Sim C F σ S w) (hsl : Slot σ S slot) (hn : slotsOf o.op = 1) (ks : List Nat) {e : TypeId} {xs : List AV} {css : List (List Value)} (hcn : css.length = xs.length) (hx : ∀ (j : Nat) y c, xs[j]? = some y → css[j]? = some c → Wt C e y ∧ R C w (more F σ S ks) noSig y c ∧ c.length = C.sz e) {nc : Nat} {cur : Array Value} (hsz : cur.size = nc * C.sz e) (hnc : xs.length ≤ nc) (hcur : ∃ rest, cur.toList = css.flatten ++ rest)
  (hrun : (execOp a.eval o).run C.P w = .ok (.value (.slice (some ⟨w.heap.size, 0, none⟩) xs.length nc)) (w.alloc (.cells cur e))) :
  OpOk C o F σ S w a slot (.w e slot) ((kill ks S).set slot (.arr e xs)) ks := by
 obtain ⟨s1, t1⟩ := hs.open_ ks
 have hdead : (kill ks S).getD slot .dead = .dead := by rw [getD_kill, hsl.dead]; split <;> rfl
 have hF : ∀ b, more F σ S ks b → (w.alloc (.cells cur e)).heap[b]? = w.heap[b]? := fun b hb => alloc_keep w _ (s1.fin b hb)
 have hA := rows_arr hcn hx hl hF (alloc_heap w (.cells cur e)) hsz hnc hcur
 obtain ⟨s2, t2⟩ := s1.alloc (by rw [kill_length]; exact hsl.lt) hdead hsl.no (.cells cur e) (.arr e xs) (.arr w.heap.size 0 xs.length nc e) rfl ⟨rfl, rfl, hA⟩
 refine ⟨_, _, more F σ S ks, _, .inl hrun, s2, t1.trans t2, put_ext hsl.no, fun id hid b hlv hb => ⟨.inr ⟨id, hid, hlv, hb⟩, alloc_keep w _ (hs.lt hlv hb)⟩, .one (by simp) (.w put_self hnc (Nat.le_refl _)), by rw [List.length_set, kill_length], fun j hj q1 q2 => ?_⟩
 rw [hn] at hj
 rw [getD_set_ne (by omega), put_ne (by omega), getD_kill, q1]
 exact ⟨by split <;> rfl, q2⟩
theorem ok_makeSlice (hl : layB C = true) {T : TypeId} {len cap : Operand} (hs : Sim C F σ S w) (he : EnvR C w F σ env a.tmps) (hsl : Slot σ S slot) (ho : o.op = .makeSlice T len cap) (h : opD C S env slot K o.op = some out) : ∃ v S' ks, K v S' ks = some out ∧ OpOk C o F σ S w a slot v S' ks := by
 have hn : slotsOf o.op = 1 := by rw [ho]; rfl
 rw [ho] at h
 simp only [opD] at h
 have hlen := ev_ok he len
 have hcap := ev_ok he cap
 split at h <;> try (cases h; done)
 rename_i e k1 n k2 c hu e1 e2
 rw [e1] at hlen
 rw [e2] at hcap
 obtain ⟨⟨hz, hby⟩, h1⟩ := ite_some h
 split at h1 <;> try (cases h1; done)
 rename_i z hf
 obtain ⟨⟨h0, hnc, hc⟩, hK⟩ := ite_some h1
 obtain ⟨i, zv, hi, hz0, hz1, hz2, hz3⟩ := zck_info hz
 have hr0 := (hz2 w F σ).cells hz1
 obtain ⟨f1, f2⟩ := fz_more hl hs hf hr0
 have hsi : i.size = C.sz e := by
  obtain ⟨d, hd⟩ := sh_und hz1
  have := sz_info hd
  rw [hi] at this
  simpa using this
 have hzl : zv.cells.size = C.sz e := by
  have := sh_len hl hz1 hr0
  simpa using this
 have hbi : i.bytes ≤ 65536 := by
  unfold Program.bytesOf at hby
  rw [hi] at hby
  exact hby
 have hb2 : (i.bytes : Int) * c ≤ 281474976710656 := by
  have : (i.bytes : Int) * c ≤ 65536 * 16777216 := Int.mul_le_mul (by omega) hc (by omega) (by omega)
  omega
 have hrun := run_make (P := C.P) w T e i zv (und_P hu) hi hz0 k1 k2 n c h0 hnc hb2 (by omega)
 rw [hsi, ← hzl, made_flat] at hrun
 have hK' : K (.w e slot) ((kill [] S).set slot (.arr e (List.replicate n.toNat z))) [] = some out := by rw [kill_nil]; exact hK
 refine ⟨_, _, _, hK', ok_newRow hl hs hsl hn [] (css := List.replicate n.toNat zv.cells.toList) (by simp) (fun j y c' hy hc' => ?_) (nc := c.toNat) (cur := (List.replicate c.toNat zv.cells.toList).flatten.toArray) ?_ (by simp; omega) ⟨(List.replicate (c.toNat - n.toNat) zv.cells.toList).flatten, ?_⟩ ?_⟩
 ·rw [List.getElem?_replicate] at hy hc'
  split at hy <;> try (cases hy; done)
  rename_i hj
  rw [if_pos hj] at hc'
  obtain rfl := Option.some.inj hy
  obtain rfl := Option.some.inj hc'
  exact ⟨f1, f2, by simpa using hzl⟩
 ·simp [hzl]
 ·rw [← List.flatten_append, List.replicate_append_replicate, show n.toNat + (c.toNat - n.toNat) = c.toNat by omega]
 ·simp [execOp, ho, hlen.i_inv, hcap.i_inv, Sem.run_bind, hrun, pure, Sem.run]
theorem VR.data {d : Nat} {T : TypeId} {x y : AV} {ks : List Nat} {v : Value} (h : VR C w F σ x v) (hf : fz C S d T x = some (y, ks)) : R C w F σ x v.cells.toList := by
 cases h with
 | u => cases d <;> simp [fz] at hf
 | t => cases d <;> simp [fz] at hf
 | agg h => exact h
 | one h1 h2 =>
  have := h2.plain v (by simp)
  have e : v.cells = #[v] := by cases v <;> simp_all [Value.cells, Value.oneCell']
  rw [e]
  exact h2
theorem fzL_at {f : TypeId → AV → Option (AV × List Nat)} {Ts : List TypeId} {as xs : List AV} {ks : List Nat} (h : fzL f Ts as = some (xs, ks)) : as.length = Ts.length ∧ xs.length = Ts.length ∧ ∀ (j : Nat) T a x, Ts[j]? = some T → as[j]? = some a → xs[j]? = some x → ∃ ks', (∀ id ∈ ks', id ∈ ks) ∧ f T a = some (x, ks') :=
 fzL_sound (Q := fun T a x ks => f T a = some (x, ks)) (fun _ _ _ _ h => h) Ts as xs ks h
theorem ok_buildSlice (hl : layB C = true) {T : TypeId} {len : Nat} {parts : Array (Nat × Operand)} (hs : Sim C F σ S w) (he : EnvR C w F σ env a.tmps) (hsl : Slot σ S slot) (ho : o.op = .buildSlice T len parts) (h : opD C S env slot K o.op = some out) : ∃ v S' ks, K v S' ks = some out ∧ OpOk C o F σ S w a slot v S' ks := by
 have hn : slotsOf o.op = 1 := by rw [ho]; rfl
 rw [ho] at h
 simp only [opD] at h
 split at h <;> try (cases h; done)
 rename_i e hu
 obtain ⟨⟨hz, hsm, hix⟩, h1⟩ := ite_some h
 split at h1 <;> try (cases h1; done)
 rename_i z x hf hx
 obtain ⟨xs, ks⟩ := x
 dsimp only at h1
 obtain ⟨i, zv, hi, hz0, hz1, hz2, hz3⟩ := zck_info hz
 have hr0 := (hz2 w F σ).cells hz1
 obtain ⟨f1, f2⟩ := fz_more hl hs hf hr0
 rw [more_nil] at f2
 have hsi : i.size = C.sz e := by
  obtain ⟨d, hd⟩ := sh_und hz1
  have := sz_info hd
  rw [hi] at this
  simpa using this
 have hzl : zv.cells.size = C.sz e := by
  have := sh_len hl hz1 hr0
  simpa using this
 obtain ⟨g1, g2, g3⟩ := fzL_at hx
 simp only [List.length_map] at g1 g2
 have hxs : ∀ (j : Nat) q y, parts.toList[j]? = some q → xs[j]? = some y → Wt C e y ∧ R C w (more F σ S ks) noSig y (a.eval q.2).cells.toList ∧ (a.eval q.2).cells.size = C.sz e := by
  intro j q y hq hy
  obtain ⟨ks', k1, k2⟩ := g3 j e (ev env q.2) y (by rw [List.getElem?_map, hq]; rfl) (by rw [List.getElem?_map, hq]; rfl) hy
  have hlv := fz_live _ _ _ _ _ k2
  have hv := ev_ok he q.2
  have hvr : R C w F σ (ev env q.2) (a.eval q.2).cells.toList := hv.data k2
  obtain ⟨q1, q2, q3⟩ := fz_sound hl hs (F' := more F σ S ks) (fun _ h => .inl h) _ e _ y ks' k2 _ (fun id hid b hb => .inr ⟨id, k1 id hid, hlv id hid, hb⟩) hvr
  exact ⟨⟨q1, q2⟩, q3, by have := sh_len hl q1 q3; simpa using this⟩
 have hfill := fill_R (szs := List.replicate len (C.sz e)) (place := fun i => some (i * C.sz e, C.sz e)) (fun i n hin => by
   rw [List.getElem?_replicate] at hin
   split at hin <;> try (cases hin; done)
   rename_i hlt
   obtain rfl := Option.some.inj hin
   rw [List.take_replicate, Nat.min_eq_left (by omega), List.sum_replicate_nat])
  (Q := fun y c => Wt C e y ∧ R C w (more F σ S ks) noSig y c) ((parts.toList.zip xs).map fun q => (q.1.1, q.2, a.eval q.1.2)) (List.replicate len z) (List.replicate len zv.cells.toList) (by simp) (by simp) (fun j c n hc hn => by
   rw [List.getElem?_replicate] at hc hn
   split at hc <;> try (cases hc; done)
   rename_i hlt
   rw [if_pos hlt] at hn
   obtain rfl := Option.some.inj hc
   obtain rfl := Option.some.inj hn
   simpa using hzl) (fun j y c hy hc => by
   rw [List.getElem?_replicate] at hc hy
   split at hc <;> try (cases hc; done)
   rename_i hlt
   rw [if_pos hlt] at hy
   obtain rfl := Option.some.inj hc
   obtain rfl := Option.some.inj hy
   exact ⟨f1, f2.keepF fun _ h => .inl h⟩) (fun q hq => by
   obtain ⟨p, hp, rfl⟩ := List.mem_map.mp hq
   obtain ⟨j, hj⟩ := List.getElem?_of_mem hp
   rw [List.getElem?_zip_eq_some] at hj
   obtain ⟨r1, r2, r3⟩ := hxs j p.1 p.2 hj.1 hj.2
   have := List.all_eq_true.mp hix p.1 (List.mem_of_getElem? hj.1)
   refine ⟨C.sz e, ?_, r3, r1, r2⟩
   rw [List.getElem?_replicate, if_pos (by simpa using this)])
 obtain ⟨css', r1, r2, r3, r4, r5⟩ := hfill
 have hparts : ((parts.toList.zip xs).map fun q => (q.1.1, q.2, a.eval q.1.2)).map (fun q => (q.1, q.2.2)) = (parts.map fun (i, x) => (i, a.eval x)).toList := by
  rw [List.map_map, Array.toList_map]
  apply List.ext_getElem?
  intro j
  rw [List.getElem?_map, List.getElem?_map]
  cases hq : parts.toList[j]? with
  | none =>
   have : (parts.toList.zip xs)[j]? = none := by
    rw [List.getElem?_eq_none_iff] at hq ⊢
    rw [List.length_zip]
    omega
   rw [this]; rfl
  | some q =>
   obtain ⟨y, hy⟩ := getElem?_of_lt (l := xs) (j := j) (by have := getElem?_lt hq; simp at g2 g1; simp at this; omega)
   have : (parts.toList.zip xs)[j]? = some (q, y) := by rw [List.getElem?_zip_eq_some]; exact ⟨hq, hy⟩
   rw [this]; rfl
 rw [hparts] at r1
 rw [List.foldl_map] at r3 r5
 dsimp only at r3 r5
 simp only [List.length_replicate] at r2 r3
 have hclen : css'.flatten.length = len * C.sz e := by
  rw [(flat_at css' (List.replicate len (C.sz e)) (by simpa using r2) r4).1, List.sum_replicate_nat]
 have hrun : (Instr.buildSlice T len (parts.map fun (i, x) => (i, a.eval x))).run C.P w = .ok (.slice (some ⟨w.heap.size, 0, none⟩) len len) (w.alloc (.cells css'.flatten.toArray e)) := by
  have hmk : (Array.range (len * C.sz e)).map (zv.cells[· % zv.cells.size]!) = (List.replicate len zv.cells.toList).flatten.toArray := by
   rw [← made_flat, hzl, madeCells, hzl]
  by_cases h0 : len * C.sz e = 0
  ·rw [h0] at hmk
   have hmk0 : (List.replicate len zv.cells.toList).flatten.toArray = #[] := by rw [← hmk]; simp
   rw [hmk0] at r1
   rw [Array.toList_map] at r1
   simp [Instr.buildSlice, run_underlying (und_P hu), sizeOf, typeInfo, hi, hsi, h0, newRow]
   rw [show (Array.range 0) = #[] from rfl]
   simp [r1]
  ·exact run_buildSlice w T e len _ _ i zv (und_P hu) hi hz0 (by rw [hsi]; show ¬ len * C.P.cellsOf e > 2 ^ 24; omega) (by rw [hsi]; exact h0) (by rw [hsi, hmk]; exact r1)
 refine ⟨_, _, _, h1, ok_newRow hl hs hsl hn ks (css := css') (by rw [r2, r3]) (fun j y c hy hc => ?_) (nc := len) (cur := css'.flatten.toArray) (by simpa using hclen) (by omega) ⟨[], by simp⟩ ?_⟩
 ·obtain ⟨q1, q2⟩ := r5 j y c hy hc
  refine ⟨q1, q2, r4 j c (C.sz e) hc ?_⟩
  have := getElem?_lt hc
  rw [List.getElem?_replicate, if_pos (by omega)]
 ·rw [r3]
  simp [execOp, ho, Sem.run_bind, hrun, pure, Sem.run]
end
section
variable {C : Cfg}
variable {F : Nat → Prop} {σ : Sig} {S : List Blk} {w : World} {env : List AV} {a : Act} {o : Oper} {slot : Nat} {α : Type} {K : KV α} {out : α}
theorem plain_val {k : TypeId} {x : AV} {v : Value} (hx : plainOk C k x = true) (h : VR C w F σ x v) : v = plainV x := by
 unfold plainOk at hx
 split at hx <;> try (cases hx; done)
 ·exact h.i_inv
 ·exact h.b_inv
 ·exact h.s_inv
theorem plain_R {k : TypeId} {x : AV} (hx : plainOk C k x = true) : VR C w F σ x (plainV x) := by
 unfold plainOk at hx
 split at hx <;> try (cases hx; done)
 ·exact .one (by simp) .i
 ·exact .one (by simp) .b
 ·exact .one (by simp) .s
theorem plain_und {k : TypeId} {x : AV} (hx : plainOk C k x = true) : ∃ d, C.und k = some d := by
 unfold plainOk at hx
 split at hx <;> try (cases hx; done)
 all_goals exact ⟨_, by assumption⟩
theorem plain_cases {k : TypeId} {x : AV} (hx : plainOk C k x = true) : (∃ k' n, C.und k = some (.int k') ∧ x = .i k' n) ∨ (∃ b, C.und k = some .bool ∧ x = .b b) ∨ (∃ s, C.und k = some .string ∧ x = .s s) := by
 unfold plainOk at hx
 split at hx <;> try (cases hx; done)
 ·simp only [beq_iff_eq] at hx
  subst hx
  exact .inl ⟨_, _, by assumption, rfl⟩
 ·exact .inr (.inl ⟨_, by assumption, rfl⟩)
 ·exact .inr (.inr ⟨_, by assumption, rfl⟩)
theorem bytes_eq {s t : ByteArray} : s.toList = t.toList → s = t := fun h => by
 rw [ByteArray.toList_eq, ByteArray.toList_eq] at h
 obtain ⟨⟨x⟩⟩ := s
 obtain ⟨⟨y⟩⟩ := t
 simp only at h
 rw [h]
theorem same_ok {k : TypeId} {d : TypeDesc} {x y : AV} (hd : C.und k = some d) (hx : plainOk C k x = true) (hy : plainOk C k y = true) : Instr.sameNow d (plainV x) (plainV y) = some (eqK x y) ∧ (eqK x y = true → plainV y = plainV x) := by
 rcases plain_cases hx with ⟨k1, n, h1, rfl⟩ | ⟨b, h1, rfl⟩ | ⟨s, h1, rfl⟩ <;> rcases plain_cases hy with ⟨k2, m, h2, rfl⟩ | ⟨c, h2, rfl⟩ | ⟨t, h2, rfl⟩ <;> rw [h1] at h2 <;> cases h2 <;> rw [hd] at h1 <;> cases h1
 ·simp only [plainV, Instr.sameNow, if_true, eqK, true_and, beq_iff_eq]
  rintro rfl
  rfl
 ·simp only [plainV, Instr.sameNow, eqK, true_and, beq_iff_eq]
  rintro rfl
  rfl
 ·simp only [plainV, Instr.sameNow, eqK]
  have e := beq_toListBytes s t
  refine ⟨by rw [e], fun h => ?_⟩
  rw [beq_iff_eq] at h
  rw [bytes_eq h]
theorem find_ok {k : TypeId} {d : TypeDesc} {x : AV} (hd : C.und k = some d) (hx : plainOk C k x = true) : ∀ (cur : List MapEntry) (es : List (AV × AV)) (i : Nat), cur.map (fun y => (y.key, y.val)) = es.map (fun q => (plainV q.1, plainV q.2)) → (∀ q ∈ es, plainOk C k q.1 = true) →
  (Instr.findNow d (plainV x) cur i = some none ∧ findM x es = none ∧ ∀ y, putM x y es = es ++ [(x, y)]) ∨ ∃ j q m, Instr.findNow d (plainV x) cur i = some (some (i + j, m.val)) ∧ es[j]? = some q ∧ cur[j]? = some m ∧ m.key = plainV x ∧ m.val = plainV q.2 ∧ findM x es = some q.2 ∧ ∀ y, putM x y es = es.set j (x, y)
 | [], [], i, _, _ => .inl ⟨rfl, rfl, fun _ => rfl⟩
 | [], _ :: _, i, h, _ => by simp at h
 | _ :: _, [], i, h, _ => by simp at h
 | m :: cur, q :: es, i, h, hq => by
  simp only [List.map_cons, List.cons.injEq, Prod.mk.injEq] at h
  obtain ⟨⟨h1, h2⟩, h3⟩ := h
  obtain ⟨s1, s2⟩ := same_ok hd hx (hq q (by simp))
  unfold Instr.findNow
  rw [h1, s1]
  cases hk : eqK x q.1 with
  | true =>
   refine .inr ⟨0, q, m, rfl, rfl, rfl, by rw [h1, s2 hk], h2, by simp [findM, hk], fun y => by simp [putM, hk]⟩
  | false =>
   rcases find_ok hd hx cur es (i + 1) h3 fun p hp => hq p (by simp [hp]) with ⟨r1, r2, r3⟩ | ⟨j, p, m', r1, r2, r3, r4, r5, r6, r7⟩
   ·exact .inl ⟨r1, by simp [findM, hk, r2], fun y => by simp [putM, hk, r3]⟩
   ·refine .inr ⟨j + 1, p, m', ?_, by simpa using r2, by simpa using r3, r4, r5, by simp [findM, hk, r6], fun y => by simp [putM, hk, r7]⟩
    dsimp only
    rw [r1]
    congr 3
    omega
theorem check_ok {k : TypeId} {x : AV} (hx : plainOk C k x = true) (e : Bool) : (Instr.checkKey e 10000 k (plainV x)).run C.P w = .ok () w := by
 have : ∀ n, (Instr.checkKey e (n + 1) k (plainV x)).run C.P w = .ok () w := fun n => by
  unfold plainOk at hx
  split at hx <;> try (cases hx; done)
  all_goals
   rename_i hu
   unfold Instr.checkKey
   rw [Sem.run_bind, run_underlying (und_P hu) w]
   rfl
 exact this 9999
theorem key_run {k : TypeId} {d : TypeDesc} {x : AV} (hd : C.und k = some d) {cur : List MapEntry} {r : Option (Nat × Value)} (h : Instr.findNow d (plainV x) cur 0 = some r) : (Instr.findKey k (plainV x) cur).run C.P w = .ok r w := by
 unfold Instr.findKey
 rw [Sem.run_bind, run_underlying (und_P hd) w]
 simp only [Result.andThen, h]
 rfl
theorem stays_ok {k : TypeId} {x : AV} (hx : plainOk C k x = true) : (Instr.keyThatStays (plainV x) (plainV x)).run C.P w = .ok (plainV x) w := by
 have : Instr.sameBits 10000 (plainV x) (plainV x) = true := by
  unfold plainOk at hx
  split at hx <;> try (cases hx; done)
  all_goals simp [plainV, Instr.sameBits, beq_toListBytes]
 unfold Instr.keyThatStays
 rw [if_pos this]
 rfl
theorem ok_makeMap {T : TypeId} {r : Option Operand} (hs : Sim C F σ S w) (hsl : Slot σ S slot) (ho : o.op = .makeMap T r) (h : opD C S env slot K o.op = some out) : ∃ v S' ks, K v S' ks = some out ∧ OpOk C o F σ S w a slot v S' ks := by
 have hn : slotsOf o.op = 1 := by rw [ho]; rfl
 rw [ho] at h
 cases r with
 | some r => simp [opD] at h
 | none =>
  simp only [opD] at h
  split at h <;> try (cases h; done)
  rename_i k e hu
  have hF : ∀ b, F b → (w.alloc (.map #[] 0)).heap[b]? = w.heap[b]? := fun b hb => alloc_keep w _ (hs.fin b hb)
  obtain ⟨m1, m2⟩ := hs.alloc hsl.lt hsl.dead hsl.no (.map #[] 0) (.map T []) (.map w.heap.size) rfl ⟨[], 0, alloc_heap w _, rfl, k, e, hu, fun q hq => by simp at hq⟩
  refine ⟨_, _, _, h, .map (some w.heap.size), _, F, _, .inl ?_, m1, m2, put_ext hsl.no, fun id h => by simp at h, .one (by simp) (.m put_self), List.length_set .., by rw [hn]; exact slot_rest (Nat.le_refl 1)⟩
  have hr : (newObj (.map #[] 0)).run C.P w = .ok w.heap.size (w.alloc (.map #[] 0)) := rfl
  simp only [execOp, ho, Instr.makeMap, Option.map_none, Sem.run_bind, hr, Result.andThen, pure, Sem.run]
theorem gotM_ok {ok : Bool} {z : AV} {zv : Value} (hz : VR C w F σ z zv) (t : Bool) : VR C w F σ (gotM ok z t) (if ok = true then .tuple #[zv, .bool t] else zv) := by
 cases ok
 ·exact hz
 ·refine .t [zv, .bool t] rfl fun j a u ha hu => ?_
  match j with
  | 0 => cases ha; cases hu; exact hz
  | 1 => cases ha; cases hu; exact .one (by simp) .b
  | j + 2 => simp at ha
theorem asP_plain {e : TypeId} {v : AV} (h : plainOk C e v = true) : asP C e v = v := by
 rcases plain_cases h with ⟨k, n, h1, rfl⟩ | ⟨b, h1, rfl⟩ | ⟨s, h1, rfl⟩ <;> simp only [asP, h1] <;> rfl
theorem ok_lookup {T : TypeId} {x ix : Operand} {ok : Bool} (hs : Sim C F σ S w) (he : EnvR C w F σ env a.tmps) (ho : o.op = .lookup T x ix ok) (h : opD C S env slot K o.op = some out) : ∃ v S' ks, K v S' ks = some out ∧ OpOk C o F σ S w a slot v S' ks := by
 rw [ho] at h
 simp only [opD] at h
 have hx := ev_ok he x
 have hix := ev_ok he ix
 split at h <;> try (cases h; done)
 ·rename_i k e id hu ex
  split at h <;> try (cases h; done)
  rename_i V es hS
  have hq_ := ite_some h
  clear h
  obtain ⟨⟨rfl, hp, hz⟩, h⟩ := hq_
  rw [ex] at hx
  have hr := hx.one_inv (by simp) (by simp) (by simp)
  have hb := hs.blk id
  rw [hS] at hb
  generalize hpv : a.eval x = p at hr
  cases hr with
  | m g1 =>
   rename_i b
   rw [g1] at hb
   obtain ⟨cur, clock, hh, hm, k', e', hu', hall⟩ := hb
   rw [hu] at hu'
   cases hu'
   obtain ⟨d, hd⟩ := plain_und hp
   have hkv := plain_val hp hix
   obtain ⟨zv, hz1, _, hz3⟩ := zck_ok hz
   have F0 := find_ok hd hp cur es 0 hm fun q hq => (hall q hq).1
   have hrun : ∀ r : Option (Nat × Value), Instr.findNow d (plainV (ev env ix)) cur 0 = some r → (execOp a.eval o).run C.P w = .ok (.value (if ok = true then .tuple #[(r.map (·.2)).getD zv, .bool (r.map (·.2)).isSome] else (r.map (·.2)).getD zv)) w := fun r hr => by
    have hf := key_run (w := w) hd hr
    cases r with
    | none =>
     simp [execOp, ho, Sem.run_bind, hpv, hkv, Instr.lookup, run_underlying (und_P hu) w, MapKept.run_getObj_map hh, check_ok hp, hf, hz1, Result.andThen, pure, Sem.run]
    | some r =>
     simp [execOp, ho, Sem.run_bind, hpv, hkv, Instr.lookup, run_underlying (und_P hu) w, MapKept.run_getObj_map hh, check_ok hp, hf, Result.andThen, pure, Sem.run]
   rcases F0 with ⟨r1, r2, _⟩ | ⟨j, q, m, r1, r2, r3, r4, r5, r6, _⟩
   ·rw [if_neg (by simp [hasM, r2])] at h
    exact ⟨_, _, _, h, OpOk.still hs (hrun _ r1) (gotM_ok (hz3 w F σ) false)⟩
   ·rw [if_pos (by simp [hasM, r6])] at h
    have hpl := (hall q (List.mem_of_getElem? r2)).2
    have hg : asP C e (getM (ev env ix) es) = q.2 := by simp only [getM, r6, Option.getD_some]; exact asP_plain hpl
    rw [hg] at h
    refine ⟨_, _, _, h, OpOk.still hs (hrun _ r1) (gotM_ok (zv := m.val) ?_ true)⟩
    rw [r5]
    exact plain_R hpl
 ·rename_i k e hu ex
  obtain ⟨⟨hp, hz⟩, h⟩ := ite_some h
  rw [ex] at hx
  have hr := hx.one_inv (by simp) (by simp) (by simp)
  generalize hpv : a.eval x = p at hr
  cases hr with
  | z3 =>
   obtain ⟨d, hd⟩ := plain_und hp
   have hkv := plain_val hp hix
   obtain ⟨zv, hz1, _, hz3⟩ := zck_ok hz
   have hf := key_run (w := w) (x := ev env ix) hd (cur := []) (r := none) rfl
   refine ⟨_, _, _, h, OpOk.still hs (val := if ok = true then .tuple #[zv, .bool false] else zv) ?_ (gotM_ok (hz3 w F σ) false)⟩
   simp [execOp, ho, Sem.run_bind, hpv, hkv, Instr.lookup, run_underlying (und_P hu) w, check_ok hp, hf, hz1, Result.andThen, pure, Sem.run]
theorem Sim.setM (hs : Sim C F σ S w) {id b : Nat} (hlv : live S id) (hb : (σ id).blk = some b) (ob : Obj) (B : Blk) (hB : BlkAt C { w with heap := w.heap.setIfInBounds b ob } F σ B (σ id)) :
  Sim C F σ (S.set id B) { w with heap := w.heap.setIfInBounds b ob } ∧ Stp C F σ S w F σ (S.set id B) { w with heap := w.heap.setIfInBounds b ob } := by
 have hlt := live_lt hlv
 have other : ∀ c, c ≠ b → (w.heap.setIfInBounds b ob)[c]? = w.heap[c]? := fun c hc => by rw [Array.getElem?_setIfInBounds_ne (Ne.symm hc)]
 have hne : ∀ i, live S i → i ≠ id → ∀ c, (σ i).blk = some c → c ≠ b := fun i hi hn c hc e => hn (hs.inj i id c hi hlv hc (e ▸ hb))
 have hF : ∀ c, F c → c ≠ b := fun c hc e => hs.out id b hlv hb (e ▸ hc)
 have hlive : ∀ i, live (S.set id B) i → live S i := fun i h => by
  by_cases e : i = id
  ·rw [e]; exact hlv
  ·unfold live at *
   rwa [getD_set_ne e] at h
 refine ⟨⟨fun i => ?_, fun i i' c h1 h2 h3 h4 => hs.inj i i' c (hlive i h1) (hlive i' h2) h3 h4, fun i c h1 h2 => hs.out i c (hlive i h1) h2, fun i hi => hs.top i (by rw [List.length_set] at hi; exact hi), fun c hc => by simpa using hs.fin c hc, hs.tabk (fun c hc => other c (hF c hc)) fun _ h => h⟩, ⟨rfl, rfl, rfl, .inr (Nat.le_refl _), by simp, fun c hc hn => ?_, fun _ h => h, fun _ h => .inl h, fun i c h1 h2 => .inr ⟨i, hlive i h1, h2⟩⟩⟩
 ·by_cases e : i = id
  ·subst e
   rw [getD_set_self hlt]
   exact hB
  ·rw [getD_set_ne e]
   by_cases hi : live S i
   ·exact (hs.blk i).mono (fun c hc => other c (hF c hc)) (fun _ h => h) (fun _ _ => rfl) fun c hc => other c (hne i hi e c hc)
   ·have : S.getD i .dead = .dead := Classical.byContradiction fun h => hi h
    rw [this]
    exact trivial
 ·exact other c fun e => hn id hlv (e ▸ hb)
theorem ok_mapUpdate {T : TypeId} {x k y : Operand} (hs : Sim C F σ S w) (he : EnvR C w F σ env a.tmps) (ho : o.op = .mapUpdate T x k y ∨ o.op = .insert T x k y) (h : opD C S env slot K o.op = some out) : ∃ v S' ks, K v S' ks = some out ∧ OpOk C o F σ S w a slot v S' ks := by
 replace h : updD C S T (ev env x) (ev env k) (ev env y) K = some out := by rcases ho with ho | ho <;> (rw [ho] at h; exact h)
 have hex : ∀ w, (execOp a.eval o).run C.P w = ((Instr.mapUpdate T (a.eval x) (a.eval k) (a.eval y)).run C.P w).andThen fun _ w => .ok .skip w := fun w => by rcases ho with ho | ho <;> simp [execOp, ho, Sem.run_bind, pure, Sem.run]
 unfold updD at h
 have hx := ev_ok he x
 have hk := ev_ok he k
 have hy := ev_ok he y
 split at h <;> try (cases h; done)
 rename_i kt et id hu ex
 split at h <;> try (cases h; done)
 rename_i V es hS
 have hq_ := ite_some h
 clear h
 obtain ⟨⟨rfl, hp, hq⟩, h⟩ := hq_
 rw [ex] at hx
 have hr := hx.one_inv (by simp) (by simp) (by simp)
 have hb := hs.blk id
 rw [hS] at hb
 have hlv : live S id := by unfold live; rw [hS]; simp
 generalize hpv : a.eval x = p at hr
 cases hr with
 | m g1 =>
  rename_i b
  have hblk : (σ id).blk = some b := by rw [g1]; rfl
  have hblt := hs.lt hlv hblk
  rw [g1] at hb
  obtain ⟨cur, clock, hh, hm, k', e', hu', hall⟩ := hb
  have hlen : cur.length = es.length := by simpa using congrArg List.length hm
  rw [hu] at hu'
  cases hu'
  obtain ⟨d, hd⟩ := plain_und hp
  have hkv := plain_val hp hk
  have hyv := plain_val hq hy
  have hself : ∀ ob, (w.heap.setIfInBounds b ob)[b]? = some ob := fun ob => by rw [Array.getElem?_setIfInBounds_self_of_lt hblt]
  have fin : ∀ (ob : Obj) (cur' : List MapEntry) clock' es', ob = .map cur'.toArray clock' → cur'.map (fun y => (y.key, y.val)) = es'.map (fun q => (plainV q.1, plainV q.2)) → (∀ q ∈ es', plainOk C kt q.1 = true ∧ plainOk C et q.2 = true) → (execOp a.eval o).run C.P w = .ok .skip { w with heap := w.heap.setIfInBounds b ob } → K .u (S.set id (.map V es')) [] = some out → ∃ v S' ks, K v S' ks = some out ∧ OpOk C o F σ S w a slot v S' ks := fun ob cur' clock' es' e1 e2 e3 hrun hK => by
   subst e1
   obtain ⟨m1, m2⟩ := hs.setM hlv hblk (.map cur'.toArray clock') (.map V es') (by
    rw [g1]
    exact ⟨cur', clock', hself _, e2, kt, et, hu, e3⟩)
   refine ⟨_, _, _, hK, undef, _, F, σ, .inr ⟨hrun, rfl⟩, m1, m2, fun _ _ => rfl, fun k hk => by simp at hk, .u, List.length_set .., fun j hj h1 h2 => ⟨?_, h2⟩⟩
   by_cases e : j = id
   ·subst e
    exact absurd h1 hlv
   ·rw [getD_set_ne e]
    exact h1
  rcases find_ok hd hp cur es 0 hm fun q hq => (hall q hq).1 with ⟨r1, _, r3⟩ | ⟨j, q, m, r1, r2, r3, r4, r5, _, r7⟩
  ·rw [r3] at h
   refine fin _ (cur ++ [⟨plainV (ev env k), plainV (ev env y), clock⟩]) (clock + 1) _ rfl (by simp [hm]) (fun q hq' => ?_) ?_ h
   ·rcases List.mem_append.mp hq' with hq' | hq'
    ·exact hall q hq'
    ·simp only [List.mem_singleton] at hq'
     subst hq'
     exact ⟨hp, hq⟩
   ·have hf := key_run (w := w) hd r1
    simp [hex, Sem.run_bind, hpv, hkv, hyv, Instr.mapUpdate, run_underlying (und_P hu) w, MapKept.run_getObj_map hh, check_ok hp, hf, MapKept.run_setObj_map _ hh, Result.andThen, pure, Sem.run]
  ·rw [r7] at h
   have hj := getElem?_lt r3
   refine fin (.map (cur.toArray.modify j fun e => { e with key := plainV (ev env k), val := plainV (ev env y) }) clock) (cur.modify j fun e => { e with key := plainV (ev env k), val := plainV (ev env y) }) clock _ (by simp) ?_ (fun p hp' => ?_) ?_ h
   ·have hmm : ∀ (l : List MapEntry) i, (l.modify i fun e => { e with key := plainV (ev env k), val := plainV (ev env y) }).map (fun y => (y.key, y.val)) = (l.map (fun y => (y.key, y.val))).set i (plainV (ev env k), plainV (ev env y)) := fun l i => by
     apply List.ext_getElem?
     intro n
     simp only [List.getElem?_map, List.getElem?_modify, List.getElem?_set, List.length_map]
     by_cases hin : i = n
     ·subst hin
      simp only [if_true]
      by_cases hi : i < l.length
      ·simp [hi]
      ·simp [hi]
     ·simp only [hin, if_false]
      cases l[n]? <;> rfl
    rw [hmm, hm, List.map_set]
   ·rcases List.mem_or_eq_of_mem_set hp' with hp' | rfl
    ·exact hall p hp'
    ·exact ⟨hp, hq⟩
   ·have hf := key_run (w := w) hd r1
    have hst := stays_ok (w := w) hp
    have hj2 : cur.toArray[j]? = some m := by simpa using r3
    simp [hex, Sem.run_bind, hpv, hkv, hyv, Instr.mapUpdate, run_underlying (und_P hu) w, MapKept.run_getObj_map hh, check_ok hp, hf, hj2, r3, r4, hst, MapKept.run_setObj_map _ hh, Result.andThen, pure, Sem.run]
end
section
variable {C : Cfg}
variable {F : Nat → Prop} {σ : Sig} {S : List Blk} {w : World} {env : List AV} {a : Act} {o : Oper} {slot : Nat} {α : Type} {K : KV α} {out : α}
theorem set_same {S : List Blk} {id : Nat} {B : Blk} (h : S.getD id .dead = B) : S.set id B = S := by
 apply List.ext_getElem?
 intro j
 rw [List.getElem?_set]
 by_cases e : id = j
 ·subst e
  rw [if_pos rfl]
  by_cases hl : id < S.length
  ·rw [if_pos hl, List.getElem?_eq_getElem hl, ← h, List.getD_eq_getElem?_getD, List.getElem?_eq_getElem hl]
   rfl
  ·rw [if_neg hl, List.getElem?_eq_none (by omega)]
 ·rw [if_neg e]
theorem rep_at {zc : List Value} {n k i : Nat} (hk : k < n) (hi : i < zc.length) : (List.replicate n zc).flatten[k * zc.length + i]? = zc[i]? := by
 have := (flat_at (List.replicate n zc) (List.replicate n zc.length) (by simp) fun j c m hc hm => by
  rw [List.getElem?_replicate] at hc hm
  split at hc <;> try (cases hc; done)
  rename_i hj
  rw [if_pos hj] at hm
  cases hc
  cases hm
  rfl).2 k zc (by rw [List.getElem?_replicate, if_pos hk])
 rw [List.take_replicate, Nat.min_eq_left (by omega), List.sum_replicate_nat] at this
 have h2 := congrArg (·[i]?) this
 rw [List.getElem?_take, if_pos hi, List.getElem?_drop] at h2
 exact h2
theorem ok_clear (hl : layB C = true) {args : Array Operand} {tys : Array TypeId} (hs : Sim C F σ S w) (he : EnvR C w F σ env a.tmps) (ho : o.op = .call { callee := .builtin .clear, args, argTypes := tys }) (h : opD C S env slot K o.op = some out) : ∃ v S' ks, K v S' ks = some out ∧ OpOk C o F σ S w a slot v S' ks := by
 rw [ho] at h
 simp only [opD] at h
 split at h <;> try (cases h; done)
 rename_i e e' id off len hu hargs
 obtain ⟨⟨rfl, hz⟩, h⟩ := ite_some' h
 split at h <;> try (cases h; done)
 rename_i e2 xs z hS hf
 have hq_ := ite_some' h
 clear h
 obtain ⟨⟨rfl, hle⟩, hK⟩ := hq_
 -- the argument
 obtain ⟨x, hx1⟩ : ∃ x, args.toList = [x] := by
  cases hq : args.toList with
  | nil => rw [hq] at hargs; simp at hargs
  | cons x l =>
   cases l with
   | nil => exact ⟨x, rfl⟩
   | cons y l => rw [hq] at hargs; simp at hargs
 have hx2 : ev env x = .r e2 id off len := by rw [hx1] at hargs; simpa using hargs
 have hxa : args = #[x] := by rw [← Array.toList_inj]; exact hx1
 have hx := ev_ok he x
 rw [hx2] at hx
 have hr := hx.one_inv (by simp) (by simp) (by simp)
 have hlv : live S id := by unfold live; rw [hS]; simp
 have hb := hs.blk id
 rw [hS] at hb
 have hT : ∃ T, tys[0]? = some T ∧ C.und T = some (.slice e2) := by
  cases hq : tys[0]? with
  | none =>
   rw [hq] at hu
   have := und_lt hu
   simp at this
  | some T => rw [hq] at hu; exact ⟨T, rfl, hu⟩
 obtain ⟨T, ht0, hT⟩ := hT
 have hexec : (execOp a.eval o).run C.P w = ((Builtin.clear_ tys o.type #[a.eval x]).run C.P w).andThen fun v w => .ok (.value v) w := by
  subst hxa
  simp [execOp, ho, resolve, invoke, builtin, Sem.run_bind, pure, Sem.run]
 have vt : ∀ {w' : World} {F' : Nat → Prop} {σ' : Sig}, VR C w' F' σ' (.t []) (.tuple #[]) := fun {w' F' σ'} => .t [] rfl fun j a v h => by simp at h
 by_cases hlen : len = 0
 ·subst hlen
  have hrun : (Builtin.clear_ tys o.type #[a.eval x]).run C.P w = .ok (.tuple #[]) w := by
   generalize a.eval x = v at hr
   cases hr with
   | r h1 h2 h3 h4 => simp [Builtin.clear_, ht0, Sem.run_bind, run_underlying (und_P hT) w, Result.andThen, pure, Sem.run]
   | r0 =>
    rename_i ad
    cases ad <;> simp [Builtin.clear_, ht0, Sem.run_bind, run_underlying (und_P hT) w, Result.andThen, pure, Sem.run]
  have hsame : xs.take off ++ (List.replicate 0 z ++ xs.drop (off + 0)) = xs := by simp
  rw [hsame] at hK
  have he2 : S.set id (.arr e2 xs) = S := set_same hS
  rw [he2] at hK
  exact ⟨_, _, _, hK, OpOk.still hs (val := .tuple #[]) (by rw [hexec, hrun]; rfl) vt⟩
 ·obtain ⟨i, zv, hi, hz0, hz1, hz2, hz3⟩ := zck_info hz
  have hr0 := (hz2 w F σ).cells hz1
  obtain ⟨f1, f2⟩ := fz_more hl hs hf hr0
  rw [more_nil] at f2
  have hzl : zv.cells.toList.length = C.sz e2 := sh_len hl hz1 hr0
  have hzrun : (zeroValue e2).run C.P w = .ok zv w := by
   simp [zeroValue, typeInfo, hi, hz0, Sem.run_bind, pure, Sem.run]
  generalize hpv : a.eval x = p at hr
  cases hr with
  | r0 => exact absurd rfl hlen
  | r h1 h2 h3 h4 =>
   rename_i b o1 n c cap
   have hblk : (σ id).blk = some b := by rw [h1]; rfl
   rw [h1] at hb
   obtain ⟨_, rfl, hc, cur, t, hh, hzz, cells, hxs⟩ := hb
   generalize hzc : zv.cells.toList = zc at hzl f2
   have hZ : (List.replicate len zc).flatten.length = len * C.sz e2 := by
    rw [(flat_at (List.replicate len zc) (List.replicate len (C.sz e2)) (by simp) fun j c m hc hm => by
     rw [List.getElem?_replicate] at hc hm
     split at hc <;> try (cases hc; done)
     rename_i hj
     rw [if_pos hj] at hm
     cases hc
     cases hm
     exact hzl).1, List.sum_replicate_nat]
   have hmul : off * C.sz e2 + len * C.sz e2 ≤ c * C.sz e2 := by
    rw [← Nat.add_mul]
    exact Nat.mul_le_mul_right _ (by omega)
   have hplain : ∀ v ∈ (List.replicate len zc).flatten, v.oneCell' = true := fun v hv => by
    obtain ⟨l, hl1, hl2⟩ := List.mem_flatten.mp hv
    obtain rfl := (List.mem_replicate.mp hl1).2
    exact f2.plain v hl2
   have hst := run_storeCells_at (P := C.P) b (o1 + off * C.sz e2) t (List.replicate len zc).flatten 0 cur w hh (by rw [hZ]; omega) hplain
   simp only [Nat.add_zero, hZ] at hst
   obtain ⟨new, hnew⟩ : ∃ new, new = (cur.toList.take (o1 + off * C.sz e2) ++ (List.replicate len zc).flatten ++ cur.toList.drop (o1 + off * C.sz e2 + len * C.sz e2)).toArray := ⟨_, rfl⟩
   rw [← hnew] at hst
   have hget : ∀ i, new[i]? = if i < o1 + off * C.sz e2 then cur[i]? else if i < o1 + off * C.sz e2 + len * C.sz e2 then (List.replicate len zc).flatten[i - (o1 + off * C.sz e2)]? else cur[i]? := fun i => by
    have hl1 : (cur.toList.take (o1 + off * C.sz e2)).length = o1 + off * C.sz e2 := by rw [List.length_take]; simp; omega
    rw [hnew, List.getElem?_toArray, List.append_assoc, List.getElem?_append, hl1]
    split
    ·rename_i hi
     rw [List.getElem?_take, if_pos hi, Array.getElem?_toList]
    ·rename_i hi
     rw [List.getElem?_append, hZ]
     by_cases hi2 : i < o1 + off * C.sz e2 + len * C.sz e2
     ·rw [if_pos (by omega), if_pos hi2]
     ·rw [if_neg (by omega), if_neg hi2, List.getElem?_drop, Array.getElem?_toList]
      congr 1
      omega
   have hsize : new.size = cur.size := by
    rw [hnew]
    simp only [List.size_toArray, List.length_append, List.length_take, List.length_drop, Array.length_toList, hZ]
    omega
   have hzcells : (Builtin.zeroCells zv.cells len).toList = (List.replicate len zc).flatten := by
    have := congrArg Array.toList (made_flat zv.cells len)
    rw [hzc] at this
    exact this
   have hrun : (Builtin.clear_ tys o.type #[a.eval x]).run C.P w = .ok (.tuple #[]) (w.setRow b new) := by
    cases len with
    | zero => exact absurd rfl hlen
    | succ k =>
     rw [hpv]
     simp [Builtin.clear_, ht0, Sem.run_bind, run_underlying (und_P hT) w, hzrun, hzcells, hst, Result.andThen, pure, Sem.run]
   have hlen2 : (xs.take off ++ (List.replicate len z ++ xs.drop (off + len))).length = xs.length := by simp; omega
   have hat : ∀ j, (xs.take off ++ (List.replicate len z ++ xs.drop (off + len)))[j]? = if j < off then xs[j]? else if j < off + len then some z else xs[j]? := fun j => by
    rw [List.getElem?_append]
    have hl1 : (xs.take off).length = off := by rw [List.length_take]; omega
    rw [hl1]
    split
    ·rename_i hj
     rw [List.getElem?_take, if_pos hj]
    ·rename_i hj
     rw [List.getElem?_append, List.length_replicate]
     by_cases h2 : j < off + len
     ·rw [if_pos (by omega), if_pos h2, List.getElem?_replicate, if_pos (by omega)]
     ·rw [if_neg (by omega), if_neg h2, List.getElem?_drop]
      congr 1
      omega
   have hFk : ∀ c, F c → (w.setRow b new).heap[c]? = w.heap[c]? := fun c hc => setRow_other w b c _ fun e => hs.out id b hlv hblk (e ▸ hc)
   obtain ⟨m1, m2⟩ := hs.set hlv hblk new (.arr e2 (xs.take off ++ (List.replicate len z ++ xs.drop (off + len)))) (by
    rw [h1]
    refine ⟨rfl, hlen2.symm, by rw [hlen2]; exact hc, new, t, setRow_heap w b cur _ t (0, 0) hh, by rw [hsize]; exact hzz, fun j => if off ≤ j ∧ j < off + len then zc else cells j, fun j v hv => ?_⟩
    rw [hat] at hv
    by_cases hj : off ≤ j ∧ j < off + len
    ·rw [if_neg (by omega), if_pos hj.2] at hv
     obtain rfl := Option.some.inj hv
     dsimp only
     rw [if_pos hj]
     refine ⟨f1, f2.mono hFk (fun _ h => h) noSig (fun _ _ => rfl), hzl, rangeAt_set hh fun i u hu => ?_⟩
     have hi := getElem?_lt hu
     rw [hzl] at hi
     have e1 : off * C.sz e2 + (j - off) * C.sz e2 = j * C.sz e2 := by rw [← Nat.add_mul]; congr 1; omega
     have e3 : (j - off + 1) * C.sz e2 ≤ len * C.sz e2 := Nat.mul_le_mul_right _ (by omega)
     rw [Nat.add_mul] at e3
     rw [hget, if_neg (by omega), if_pos (by omega), show o1 + j * C.sz e2 + i - (o1 + off * C.sz e2) = (j - off) * zc.length + i by rw [hzl]; omega, rep_at (by omega) (by omega)]
     exact hu
    ·have hv' : xs[j]? = some v := by
      by_cases q : j < off
      ·rwa [if_pos q] at hv
      ·rwa [if_neg q, if_neg (by omega)] at hv
     dsimp only
     rw [if_neg hj]
     obtain ⟨q1, q2, q3, q4⟩ := hxs j v hv'
     have hjl := getElem?_lt hv'
     refine ⟨q1, q2.mono hFk (fun _ h => h) noSig (fun _ _ => rfl), q3, rangeAt_new hh q4 fun i hi => ?_⟩
     rw [q3] at hi
     rw [hget]
     by_cases q : j < off
     ·have : (j + 1) * C.sz e2 ≤ off * C.sz e2 := Nat.mul_le_mul_right _ q
      rw [Nat.add_mul] at this
      rw [if_pos (by omega)]
     ·have : (off + len) * C.sz e2 ≤ j * C.sz e2 := Nat.mul_le_mul_right _ (by omega)
      rw [Nat.add_mul] at this
      rw [if_neg (by omega), if_neg (by omega)])
   refine ⟨_, _, _, hK, .tuple #[], _, F, σ, .inl (by rw [hexec, hrun]; rfl), m1, m2, fun _ _ => rfl, fun k hk => by simp at hk, vt, List.length_set .., fun j hj g1 g2 => ⟨?_, g2⟩⟩
   by_cases e : j = id
   ·subst e
    exact absurd g1 hlv
   ·rw [getD_set_ne e]
    exact g1
end
section
variable {C : Cfg}
variable {F : Nat → Prop} {σ : Sig} {S : List Blk} {w : World} {env : List AV} {a : Act} {o : Oper} {slot : Nat} {α : Type} {K : KV α} {out : α}
theorem mapM_places : ∀ fs : List Field, (∀ f ∈ fs, ∃ d, C.und f.type = some d) → fs.mapM (fun f => (C.P.info? f.type).map fun i => (f.offset, i.size)) = some (fs.map fun f => (f.offset, C.sz f.type))
 | [], _ => by simp
 | f :: fs, h => by
  obtain ⟨d, hd⟩ := h f (by simp)
  have hi := sz_info hd
  obtain ⟨i, hq⟩ : ∃ i, C.P.info? f.type = some i := by
   cases hq : C.P.info? f.type with
   | none => rw [hq] at hi; cases hi
   | some i => exact ⟨i, rfl⟩
  rw [hq] at hi
  simp only [Option.map_some, Option.some.injEq] at hi
  simp [List.mapM_cons, mapM_places fs fun g hg => h g (by simp [hg]), hq, hi]
theorem parts_map (parts : Array (Nat × Operand)) (env : List AV) (a : Act) : (parts.toList.map fun q => (q.1, ev env q.2, a.eval q.2)).map (fun q : Nat × AV × Value => (q.1, q.2.2)) = (parts.map fun (i, x) => (i, a.eval x)).toList := by
 rw [List.map_map, Array.toList_map]
 rfl
theorem ok_build (hl : layB C = true) {T : TypeId} {parts : Array (Nat × Operand)} (hs : Sim C F σ S w) (he : EnvR C w F σ env a.tmps) (ho : o.op = .build T parts) (h : opD C S env slot K o.op = some out) : ∃ v S' ks, K v S' ks = some out ∧ OpOk C o F σ S w a slot v S' ks := by
 rw [ho] at h
 simp only [opD] at h
 obtain ⟨hz, h1⟩ := ite_some h
 obtain ⟨i, zv, hi, hz0, hz1, hz2, hz3⟩ := zck_info hz
 have hr0 := (hz2 w F σ).cells hz1
 have part : ∀ {f : TypeId} (q : Nat × Operand), sh C C.P.depth f (ev env q.2) = true → R C w F σ (ev env q.2) (a.eval q.2).cells.toList ∧ (a.eval q.2).cells.size = C.sz f := fun q hq => by
  have hsh := sh_of hq
  have := (ev_ok he q.2).cells hsh
  exact ⟨this, by have := sh_len hl hsh this; simpa using this⟩
 split at h1 <;> try (cases h1; done)
 ·rename_i fs zs hu hzz
  obtain ⟨hall, hK⟩ := ite_some h1
  rw [hzz] at hr0 hz1
  cases hz1 with
  | ga hu' => rw [hu] at hu'; simp at hu'
  | g hu' hn hf =>
   rw [hu] at hu'
   obtain rfl := TypeDesc.struct.inj (Option.some.inj hu')
   obtain ⟨l1, l2⟩ := lay_struct hl hu
   generalize hzc : zv.cells.toList = zc at hr0
   cases hr0 with
   | g css c1 c2 =>
    have hszs : (fs.toList.map fun f => C.sz f.type).length = fs.size := by simp
    have hfill := fill_R (szs := fs.toList.map fun f => C.sz f.type) (place := ((fs.toList.map fun f => (f.offset, C.sz f.type)).toArray[·]?)) (fun j n hj => by
      rw [List.getElem?_map] at hj
      obtain ⟨f, hf', rfl⟩ := Option.map_eq_some_iff.mp hj
      have := l2 j f (by rw [← Array.getElem?_toList]; exact hf')
      simp only [List.getElem?_toArray, List.getElem?_map, hf', Option.map_some]
      rw [this, List.map_take])
     (Q := fun y c => R C w F σ y c) (parts.toList.map fun q => (q.1, ev env q.2, a.eval q.2)) zs css (by rw [c1, hszs, hn]) (by rw [hszs, hn]) (fun j c n hc hj => by
      rw [List.getElem?_map] at hj
      obtain ⟨f, hf', rfl⟩ := Option.map_eq_some_iff.mp hj
      obtain ⟨z, hz⟩ := getElem?_of_lt (l := zs) (j := j) (by have := getElem?_lt hc; omega)
      exact sh_len hl (hf j f z (by rw [← Array.getElem?_toList]; exact hf') hz) (c2 j z c hz hc)) c2 (fun q hq => by
      obtain ⟨p, hp, rfl⟩ := List.mem_map.mp hq
      have := List.all_eq_true.mp hall p hp
      split at this
      ·rename_i f hf'
       obtain ⟨r1, r2⟩ := part p this
       exact ⟨C.sz f.type, by rw [List.getElem?_map, Array.getElem?_toList, hf']; rfl, r2, r1⟩
      ·cases this)
    obtain ⟨css', r1, r2, r3, r4, r5⟩ := hfill
    rw [parts_map] at r1
    rw [List.foldl_map] at r3 r5
    dsimp only at r3 r5
    have hb : C.P.built T (parts.map fun (i, x) => (i, a.eval x)).toList = some css'.flatten.toArray := by
     unfold Program.built
     rw [hi, und_P hu]
     dsimp only
     rw [hz0, mapM_places fs.toList fun f hf' => by
      obtain ⟨j, hj⟩ := List.getElem?_of_mem hf'
      obtain ⟨z, hz⟩ := getElem?_of_lt (l := zs) (j := j) (by have := getElem?_lt hj; simp at this; omega)
      exact sh_und (hf j f z (by rw [← Array.getElem?_toList]; exact hj) hz)]
     dsimp only
     rw [show zv.cells = css.flatten.toArray by rw [← hzc]]
     exact r1
    have hrun := run_build w T _ _ hb
    refine ⟨_, _, _, hK, OpOk.still hs (val := .agg css'.flatten.toArray) (by simp [execOp, ho, Sem.run_bind, hrun, pure, Sem.run]) (.agg (.g css' (by rw [r2, r3]) r5))⟩
 ·rename_i n e zs hu hzz
  obtain ⟨⟨hde, hall⟩, hK⟩ := ite_some h1
  obtain ⟨d, hd⟩ := Option.isSome_iff_exists.mp hde
  rw [hzz] at hr0 hz1
  cases hz1 with
  | g hu' => rw [hu] at hu'; simp at hu'
  | ga hu' hn hf =>
   rw [hu] at hu'
   simp only [Option.some.injEq, TypeDesc.array.injEq] at hu'
   obtain ⟨rfl, rfl⟩ := hu'
   generalize hzc : zv.cells.toList = zc at hr0
   cases hr0 with
   | g css c1 c2 =>
    have hze : ∃ ie, C.P.info? e = some ie ∧ ie.size = C.sz e := by
     have hi := sz_info hd
     cases hq : C.P.info? e with
     | none => rw [hq] at hi; cases hi
     | some i => rw [hq] at hi; exact ⟨i, rfl, by simpa using hi⟩
    obtain ⟨ie, hie, hise⟩ := hze
    have hfill := fill_R (szs := List.replicate n (C.sz e)) (place := fun i => some (i * C.sz e, C.sz e)) (fun i m hin => by
      rw [List.getElem?_replicate] at hin
      split at hin <;> try (cases hin; done)
      rename_i hlt
      obtain rfl := Option.some.inj hin
      rw [List.take_replicate, Nat.min_eq_left (by omega), List.sum_replicate_nat])
     (Q := fun y c => R C w F σ y c) (parts.toList.map fun q => (q.1, ev env q.2, a.eval q.2)) zs css (by simp [c1, hn]) (by simp [hn]) (fun j c m hc hj => by
      rw [List.getElem?_replicate] at hj
      split at hj <;> try (cases hj; done)
      obtain rfl := Option.some.inj hj
      obtain ⟨z, hz⟩ := getElem?_of_lt (l := zs) (j := j) (by omega)
      exact sh_len hl (hf j z hz) (c2 j z c hz hc)) c2 (fun q hq => by
      obtain ⟨p, hp, rfl⟩ := List.mem_map.mp hq
      have := List.all_eq_true.mp hall p hp
      simp only [Bool.and_eq_true, decide_eq_true_eq] at this
      obtain ⟨r1, r2⟩ := part p this.2
      exact ⟨C.sz e, by rw [List.getElem?_replicate, if_pos this.1], r2, r1⟩)
    obtain ⟨css', r1, r2, r3, r4, r5⟩ := hfill
    rw [parts_map] at r1
    rw [List.foldl_map] at r3 r5
    dsimp only at r3 r5
    have hb : C.P.built T (parts.map fun (i, x) => (i, a.eval x)).toList = some css'.flatten.toArray := by
     unfold Program.built
     rw [hi, und_P hu]
     dsimp only
     rw [hz0, hie]
     dsimp only
     rw [show zv.cells = css.flatten.toArray by rw [← hzc], hise]
     exact r1
    have hrun := run_build w T _ _ hb
    refine ⟨_, _, _, hK, OpOk.still hs (val := .agg css'.flatten.toArray) (by simp [execOp, ho, Sem.run_bind, hrun, pure, Sem.run]) (.agg (.g css' (by rw [r2, r3]) r5))⟩
theorem opD_ok (hl : layB C = true) (hs : Sim C F σ S w) (he : EnvR C w F σ env a.tmps) (hsl : ∀ j, slot ≤ j → j < slot + slotsOf o.op → Slot σ S j) (h : opD C S env slot K o.op = some out) : ∃ v S' ks, K v S' ks = some out ∧ OpOk C o F σ S w a slot v S' ks := by
 have sl : slotsOf o.op = 1 → Slot σ S slot := fun q => hsl slot (Nat.le_refl _) (by omega)
 generalize ho : o.op = op at h sl
 cases op
 case move x => exact ok_move hs he (.inl ho) h
 case assign x => exact ok_move hs he (.inr ho) h
 case alloc T => exact ok_alloc hl hs (sl rfl) ho (ho ▸ h)
 case box T x => exact ok_box hl hs he (sl rfl) ho (ho ▸ h)
 case build T parts => exact ok_build hl hs he ho (ho ▸ h)
 case buildSlice T n parts => exact ok_buildSlice hl hs he (sl rfl) ho (ho ▸ h)
 case load T x => exact ok_load hl hs he ho (ho ▸ h)
 case store T x y => exact ok_store hl hs he ho (ho ▸ h)
 case nilCheck x => exact ok_nilCheck hs he ho (ho ▸ h)
 case binOp op T x y yT => exact ok_bin hl hs he ho (ho ▸ h)
 case unOp op T x => exact ok_un hs he ho (ho ▸ h)
 case convert s d x => exact ok_convert hl hs he ho (ho ▸ h)
 case makeFunc f x y =>
  cases f
  case func f => exact ok_makeFunc hs he ho (ho ▸ h)
  all_goals simp [opD] at h
 case makeSlice T x y => exact ok_makeSlice hl hs he (sl rfl) ho (ho ▸ h)
 case makeMap T r => exact ok_makeMap hs (sl rfl) ho (ho ▸ h)
 case lookup T x ix ok => exact ok_lookup hs he ho (ho ▸ h)
 case mapUpdate T x k y => exact ok_mapUpdate hs he (.inl ho) (ho ▸ h)
 case insert T x k y => exact ok_mapUpdate hs he (.inr ho) (ho ▸ h)
 case slice T x lo hi mx => exact ok_slice hl hs he ho (ho ▸ h)
 case fieldAddr s x f => exact ok_fieldAddr hl hs he ho (ho ▸ h)
 case field s x f => exact ok_field hl hs he ho (ho ▸ h)
 case indexAddr T x ix => exact ok_indexAddr hl hs he ho (ho ▸ h)
 case index T x ix => exact ok_index hl hs he ho (ho ▸ h)
 case extract x j => exact ok_extract hs he ho (ho ▸ h)
 case call c =>
  obtain ⟨callee, args, tys⟩ := c
  cases callee
  case builtin b =>
   cases b
   case len => exact ok_len hs he ho (ho ▸ h)
   case max => exact ok_max hs he ho (ho ▸ h)
   case min => exact ok_min hs he ho (ho ▸ h)
   case clear => exact ok_clear hl hs he ho (ho ▸ h)
   case append => exact ok_append hl hs he (sl rfl) ho (ho ▸ h)
   all_goals simp [opD] at h
  all_goals simp [opD] at h
 all_goals simp [opD] at h
end
section
variable {C : Cfg} {α : Type}
abbrev keepK : KV (AV × List Blk × List Nat) := fun v S ks => some (v, S, ks)
theorem ite_bind {β : Type} {c : Prop} [Decidable c] {x : Option α} {y : Option β} {k : β → Option α} (h : x = y.bind k) : (if c then x else none) = (if c then y else none).bind k := by
 split
 ·exact h
 ·rfl
theorem binD_nat (op : BinOp) (T : TypeId) (x y : AV) (K : AV → Option α) : binD C op T x y K = (binD C op T x y some).bind K := by
 unfold binD
 split
 ·cases op <;> dsimp only <;> first | exact ite_bind rfl | exact ite_bind (ite_bind rfl) | skip
  all_goals (refine ite_bind ?_; cases cmpI _ _ _ <;> rfl)
 ·cases op <;> dsimp only <;> first | exact ite_bind rfl | (split <;> rfl)
 ·split <;> rfl
 ·refine ite_bind ?_
  split <;> rfl
 ·refine ite_bind ?_
  split <;> first | exact ite_bind rfl | rfl
 ·split <;> rfl
 ·refine ite_bind ?_
  split <;> rfl
 ·split <;> rfl
 ·rfl
theorem unD_nat (op : UnOp) (x : AV) (K : AV → Option α) : unD op x K = (unD op x some).bind K := by
 unfold unD
 cases op <;> cases x <;> rfl
theorem cut3_nat (len : Nat) (lo hi : Option AV) (K : Nat → Nat → Option α) : cut3 len lo hi K = (cut3 len lo hi fun l h => some (l, h)).bind fun q => K q.1 q.2 := by
 unfold cut3
 split <;> first | rfl | exact ite_bind rfl | exact ite_bind (ite_bind rfl)
theorem opD_nat {S : List Blk} {env : List AV} {slot : Nat} (K : KV α) (op : Op) : opD C S env slot K op = (opD C S env slot keepK op).bind fun q => K q.1 q.2.1 q.2.2 := by
 cases op
 case alloc T =>
  simp only [opD]
  refine ite_bind ?_
  split
  ·split <;> rfl
  ·rfl
 case box T x =>
  simp only [opD]
  split
  ·split <;> rfl
  ·exact ite_bind rfl
 case build T parts =>
  simp only [opD]
  refine ite_bind ?_
  split <;> first | exact ite_bind rfl | rfl
 case buildSlice T n parts =>
  simp only [opD]
  split
  ·refine ite_bind ?_
   split <;> rfl
  ·rfl
 case load T x =>
  simp only [opD]
  split
  ·exact ite_bind rfl
  ·split
   ·exact ite_bind rfl
   ·split <;> first | exact ite_bind rfl | rfl
   ·rfl
  ·split
   ·exact ite_bind rfl
   ·rfl
  ·rfl
 case store T x y =>
  simp only [opD]
  split
  ·split
   ·exact ite_bind rfl
   ·split <;> first | exact ite_bind rfl | rfl
   ·rfl
  ·split
   ·refine ite_bind ?_
    split
    ·exact ite_bind rfl
    ·rfl
   ·rfl
  ·rfl
 case nilCheck x =>
  simp only [opD]
  split <;> rfl
 case binOp => simp only [opD]; rw [binD_nat]; rw [binD_nat (K := fun v => keepK v S [])]; simp [Option.bind_assoc]
 case unOp => simp only [opD]; rw [unD_nat]; rw [unD_nat (K := fun v => keepK v S [])]; simp [Option.bind_assoc]
 case convert =>
  simp only [opD]
  split
  ·rfl
  ·rfl
  ·refine ite_bind ?_
   split <;> rfl
  ·split <;> first | exact ite_bind rfl | rfl
  ·split <;> first | exact ite_bind rfl | rfl
  ·rfl
 case makeFunc f x y =>
  cases f <;> simp only [opD] <;> first | exact ite_bind rfl | rfl
 case makeMap T r =>
  cases r <;> simp only [opD]
  ·split <;> rfl
  ·rfl
 case lookup =>
  simp only [opD]
  split
  ·split
   ·refine ite_bind ?_
    split <;> rfl
   ·rfl
  ·exact ite_bind rfl
  ·rfl
 case mapUpdate =>
  simp only [opD]
  unfold updD
  split
  ·split
   ·exact ite_bind rfl
   ·rfl
  ·rfl
 case insert =>
  simp only [opD]
  unfold updD
  split
  ·split
   ·exact ite_bind rfl
   ·rfl
  ·rfl
 case makeSlice =>
  simp only [opD]
  split
  ·refine ite_bind ?_
   split
   ·exact ite_bind rfl
   ·rfl
  ·rfl
 case slice T x lo hi mx =>
  have cut : ∀ (len : Nat) (lo hi : Option AV) (G : Nat → Nat → AV), (cut3 len lo hi fun l h => K (G l h) S []) = (cut3 len lo hi fun l h => keepK (G l h) S []).bind fun q => K q.1 q.2.1 q.2.2 := fun len lo hi G => by
   rw [cut3_nat, cut3_nat (K := fun l h => keepK (G l h) S [])]
   simp [Option.bind_assoc]
  cases mx with
  | none =>
   simp only [opD]
   split
   ·exact cut _ _ _ _
   ·exact ite_bind (cut _ _ _ _)
   ·exact ite_bind (cut _ _ _ fun _ _ => .z 1)
   ·refine ite_bind ?_
    split
    ·exact cut _ _ _ _
    ·rfl
   ·refine ite_bind ?_
    split
    ·exact cut _ _ _ _
    ·rfl
   ·split
    ·exact ite_bind (cut _ _ _ _)
    ·rfl
   ·rfl
  | some m =>
   cases lo <;> cases hi <;> simp only [opD] <;> try rfl
   split
   ·exact ite_bind rfl
   ·rfl
 case fieldAddr =>
  simp only [opD]
  split
  ·split
   ·exact ite_bind rfl
   ·rfl
  ·split
   ·exact ite_bind rfl
   ·rfl
  ·refine ite_bind ?_
   split <;> rfl
  ·rfl
 case field => simp only [opD]; exact ite_bind rfl
 case indexAddr =>
  simp only [opD]
  split
  ·split
   ·exact ite_bind (ite_bind rfl)
   ·refine ite_bind ?_
    split
    ·exact ite_bind rfl
    ·rfl
   ·refine ite_bind ?_
    split
    ·exact ite_bind rfl
    ·rfl
   ·split
    ·exact ite_bind (ite_bind rfl)
    ·rfl
   ·rfl
  ·rfl
 case index =>
  simp only [opD]
  split
  ·split
   ·exact ite_bind rfl
   ·split
    ·exact ite_bind rfl
    ·split
     ·exact ite_bind rfl
     ·rfl
   ·rfl
  ·rfl
 case extract =>
  simp only [opD]
  split
  ·split <;> rfl
  ·rfl
 case call c =>
  obtain ⟨callee, args, tys⟩ := c
  cases callee
  case builtin b =>
   cases b <;> simp only [opD] <;> try rfl
   case len =>
    split
    ·split <;> rfl
    ·split
     ·rfl
     ·split <;> rfl
    ·rfl
    ·rfl
   case max => split <;> rfl
   case min => split <;> rfl
   case clear =>
    split
    ·refine ite_bind ?_
     split
     ·exact ite_bind rfl
     ·rfl
    ·rfl
   case append =>
    split
    ·refine ite_bind (ite_bind ?_)
     split
     ·split
      ·rfl
      ·exact ite_bind rfl
     ·rfl
    ·rfl
  all_goals simp only [opD]; rfl
 all_goals simp only [opD]; rfl
def Still (S : List Blk) (r : Option (AV × List Blk × List Nat)) : Prop := ∀ q, r = some q → q.2.1 = S ∧ q.2.2 = []
theorem Still.none {S : List Blk} : Still S none := fun q h => by cases h
theorem Still.some {S : List Blk} {v : AV} : Still S (some (v, S, [])) := fun q h => by cases h; exact ⟨rfl, rfl⟩
theorem Still.ite {S : List Blk} {c : Prop} [Decidable c] {r : Option (AV × List Blk × List Nat)} (h : Still S r) : Still S (if c then r else Option.none) := by
 split
 ·exact h
 ·exact .none
theorem Still.bind {β : Type} {S : List Blk} {r : Option β} {k : β → Option (AV × List Blk × List Nat)} (h : ∀ b, Still S (k b)) : Still S (r.bind k) := by
 cases r
 ·exact .none
 ·exact h _
theorem cls_still {S : List Blk} {env : List AV} {slot : Nat} {op : Op} (hc : cls op ≤ 1) : Still S (opD C S env slot keepK op) := by
 cases op <;> try (simp [cls] at hc; done)
 case binOp => simp only [opD]; rw [binD_nat]; exact .bind fun _ => .some
 case unOp => simp only [opD]; rw [unD_nat]; exact .bind fun _ => .some
 case call c =>
  obtain ⟨callee, args, tys⟩ := c
  cases callee
  case builtin b =>
   cases b <;> try (simp [cls] at hc; done)
   all_goals
    simp only [opD]
    repeat' split
    all_goals first | exact .some | exact .none
  all_goals (simp [cls] at hc)
 case slice T x lo hi mx =>
  have cut : ∀ (len : Nat) (lo hi : Option AV) (G : Nat → Nat → AV), Still S (cut3 len lo hi fun l h => keepK (G l h) S []) := fun len lo hi G => by
   rw [cut3_nat]
   exact .bind fun _ => .some
  cases mx with
  | none =>
   simp only [opD]
   repeat' split
   all_goals first | exact cut _ _ _ _ | exact cut _ _ _ (fun _ _ => .z 1) | exact .none | exact .some
  | some m =>
   cases lo <;> cases hi <;> simp only [opD] <;> try exact .none
   repeat' split
   all_goals first | exact .some | exact .none
 case makeFunc f x y =>
  cases f <;> simp only [opD]
  all_goals first | exact .none | exact Still.ite .some
 all_goals
  simp only [opD]
  (repeat' split)
  all_goals first | exact .some | exact .none
theorem cls_slot {S : List Blk} {env : List AV} {slot : Nat} {op : Op} (hc : cls op = 2) {v : AV} {S' : List Blk} (h : opD C S env slot keepK op = some (v, S', [])) : slotsOf op = 1 ∧ ∃ B, S' = S.set slot B := by
 cases op <;> try (simp [cls] at hc; done)
 case call c =>
  obtain ⟨callee, args, tys⟩ := c
  cases callee
  case builtin b => cases b <;> simp [cls] at hc
  all_goals (simp [cls] at hc)
 all_goals refine ⟨rfl, ?_⟩
 case makeMap T r =>
  cases r with
  | some r => simp [opD] at h
  | none =>
   simp only [opD] at h
   split at h
   ·simp only [Option.some.injEq, Prod.mk.injEq] at h; exact ⟨_, h.2.1.symm⟩
   ·cases h
 all_goals simp only [opD] at h
 case buildSlice =>
  split at h <;> try (cases h; done)
  replace h := (ite_some h).2
  split at h <;> try (cases h; done)
  simp only [Option.some.injEq, Prod.mk.injEq] at h
  obtain ⟨_, h, hk⟩ := h
  rw [hk, kill_nil] at h
  exact ⟨_, h.symm⟩
 all_goals
  (repeat' split at h)
  all_goals first | (cases h; done) | (simp only [Option.some.injEq, Prod.mk.injEq] at h; exact ⟨_, h.2.1.symm⟩)
end
section
variable {C : Cfg} {F F' : Nat → Prop} {σ σ' : Sig} {S S2 S' S'' : List Blk} {w w' : World}
def Sub (S S2 : List Blk) : Prop := S.length = S2.length ∧ ∀ id, live S id → S2.getD id .dead = S.getD id .dead
theorem Sub.refl (S : List Blk) : Sub S S := ⟨rfl, fun _ _ => rfl⟩
theorem Sub.live {id : Nat} (h : Sub S S2) (hl : live S id) : live S2 id := by
 unfold Den.live at *
 rw [h.2 id hl]
 exact hl
theorem not_live {id : Nat} (h : ¬ live S id) : S.getD id .dead = .dead := Classical.byContradiction h
theorem Sim.sub (hs : Sim C F σ S2 w) (h : Sub S S2) : Sim C F σ S w where
 blk := fun id => by
  by_cases q : live S id
  ·have := hs.blk id
   rw [h.2 id q] at this
   exact this
  ·rw [not_live q]; exact trivial
 inj := fun id id' b h1 h2 => hs.inj id id' b (h.live h1) (h.live h2)
 out := fun id b h1 => hs.out id b (h.live h1)
 top := fun id hid => hs.top id (h.1 ▸ hid)
 fin := hs.fin
 tab := hs.tab
theorem Sim.place (hs : Sim C F σ S w) {id : Nat} (h : live S id) : σ id ≠ .no := fun e => by
 have := hs.blk id
 rw [e] at this
 unfold Den.live at h
 cases hB : S.getD id .dead with
 | dead => exact h hB
 | obj T a => rw [hB] at this; exact this
 | arr e xs => rw [hB] at this; exact this
 | map V es => rw [hB] at this; exact this
theorem frame (hs2 : Sim C F σ S2 w) (hsub : Sub S S2) (hs' : Sim C F' σ' S' w') (hst : Stp C F σ S w F' σ' S' w') (hσ : ∀ id, σ id ≠ .no → σ' id = σ id)
  (hlen : S'.length = S.length) (hlen2 : S''.length = S.length) (h1 : ∀ id, live S2 id → ¬ live S id → S''.getD id .dead = S2.getD id .dead) (h2 : ∀ id, (live S id ∨ ¬ live S2 id) → S''.getD id .dead = S'.getD id .dead) :
  Sim C F' σ' S'' w' ∧ Stp C F σ S2 w F' σ' S'' w' := by
 have hs := hs2.sub hsub
 have split : ∀ id, (live S2 id ∧ ¬ live S id) ∨ (live S id ∨ ¬ live S2 id) := fun id => by
  by_cases q1 : live S id
  ·exact .inr (.inl q1)
  ·by_cases q2 : live S2 id
   ·exact .inl ⟨q2, q1⟩
   ·exact .inr (.inr q2)
 have fr : ∀ id, live S2 id → ¬ live S id → ∀ b, (σ' id).blk = some b → (σ id).blk = some b ∧ b < w.heap.size ∧ ∀ id', live S id' → (σ id').blk ≠ some b := fun id l2 l1 b hb => by
  rw [hσ id (hs2.place l2)] at hb
  exact ⟨hb, hs2.lt l2 hb, fun id' hl' he => l1 (hs2.inj id' id b (hsub.live hl') l2 he hb ▸ hl')⟩
 have rest : ∀ id, (live S id ∨ ¬ live S2 id) → live S'' id → live S' id := fun id h hl => by
  unfold Den.live at *
  rwa [h2 id h] at hl
 refine ⟨⟨fun id => ?_, fun id id' b l1 l2 e1 e2 => ?_, fun id b l1 e1 hF => ?_, fun id hid => hs'.top id (by omega), hs'.fin, hs'.tab⟩, ⟨hst.os, hst.tape, hst.output, hst.drawn, hst.heap, fun b hb hn => hst.keep b hb fun id hl => hn id (hsub.live hl), hst.grow, fun b hb => ?_, fun id b hl e => ?_⟩⟩
 ·rcases split id with ⟨q1, q2⟩ | q
  ·rw [h1 id q1 q2, hσ id (hs2.place q1)]
   exact (hs2.blk id).mono (hst.dat hs) hst.grow hσ fun b hb => by
    obtain ⟨_, hlt, hno⟩ := fr id q1 q2 b (by rw [hσ id (hs2.place q1)]; exact hb)
    exact hst.keep b hlt hno
  ·rw [h2 id q]
   exact hs'.blk id
 ·rcases split id with ⟨q1, q2⟩ | q
  ·rcases split id' with ⟨r1, r2⟩ | r
   ·exact hs2.inj id id' b q1 r1 (fr id q1 q2 b e1).1 (fr id' r1 r2 b e2).1
   ·obtain ⟨g1, g2, g3⟩ := fr id q1 q2 b e1
    rcases hst.own id' b (rest id' r l2) e2 with h | ⟨j, hj, hb⟩
    ·omega
    ·exact absurd hb (g3 j hj)
  ·rcases split id' with ⟨r1, r2⟩ | r
   ·obtain ⟨g1, g2, g3⟩ := fr id' r1 r2 b e2
    rcases hst.own id b (rest id q l1) e1 with h | ⟨j, hj, hb⟩
    ·omega
    ·exact absurd hb (g3 j hj)
   ·exact hs'.inj id id' b (rest id q l1) (rest id' r l2) e1 e2
 ·rcases split id with ⟨q1, q2⟩ | q
  ·obtain ⟨g1, g2, g3⟩ := fr id q1 q2 b e1
   rcases hst.new b hF with h | h | ⟨j, hj, hb⟩
   ·exact hs2.out id b q1 g1 h
   ·omega
   ·exact g3 j hj hb
  ·exact hs'.out id b (rest id q l1) e1 hF
 ·rcases hst.new b hb with h | h | ⟨j, hj, hb'⟩
  ·exact .inl h
  ·exact .inr (.inl h)
  ·exact .inr (.inr ⟨j, hsub.live hj, hb'⟩)
 ·rcases split id with ⟨q1, q2⟩ | q
  ·exact .inr ⟨id, q1, (fr id q1 q2 b e).1⟩
  ·rcases hst.own id b (rest id q hl) e with h | ⟨j, hj, hb⟩
   ·exact .inl h
   ·exact .inr ⟨j, hsub.live hj, hb⟩
end
section
variable {C : Cfg} {F : Nat → Prop} {σ : Sig} {S : List Blk} {w : World} {env : List AV} {a : Act} {o : Oper} {slot : Nat} {α : Type} {out : α}
def Post (C : Cfg) (o : Oper) (F : Nat → Prop) (σ : Sig) (S : List Blk) (w : World) (slot : Nat) (v : AV) (S' : List Blk) (ks : List Nat) (val : Value) (w' : World) : Prop :=
 ∃ F' σ', Sim C F' σ' S' w' ∧ Stp C F σ S w F' σ' S' w' ∧ (∀ id, σ id ≠ .no → σ' id = σ id) ∧
  (∀ id ∈ ks, ∀ b, live S id → (σ id).blk = some b → F' b ∧ w'.heap[b]? = w.heap[b]?) ∧ VR C w' F' σ' v val ∧ S'.length = S.length ∧ (∀ j, (j < slot ∨ slot + slotsOf o.op ≤ j) → S.getD j .dead = .dead → σ j = .no → S'.getD j .dead = .dead ∧ σ' j = .no)
theorem OpOk.post {v : AV} {S' : List Blk} {ks : List Nat} (h : OpOk C o F σ S w a slot v S' ks) : ∃ val w', ((execOp a.eval o).run C.P w = .ok (.value val) w' ∨ ((execOp a.eval o).run C.P w = .ok .skip w' ∧ val = undef)) ∧ Post C o F σ S w slot v S' ks val w' := by
 obtain ⟨val, w', F', σ', h1, h2⟩ := h
 exact ⟨val, w', h1, F', σ', h2⟩
theorem Post.still {val : Value} {v : AV} (hs : Sim C F σ S w) (hv : VR C w F σ v val) : Post C o F σ S w slot v S [] val w :=
 ⟨F, σ, hs, .refl, fun _ _ => rfl, fun id h => by simp at h, hv, rfl, fun j _ h1 h2 => ⟨h1, h2⟩⟩
def SNat (call : CallF) : Prop := ∀ {α : Type} {n : FuncId} {f : Func} {S : List Blk} {slot : Nat} {args : List AV} {K : KV α} {out : α}, call.s n f S slot args K = some out → ∃ v S' ks, K v S' ks = some out ∧ ∀ {β : Type} (K' : KV β), call.s n f S slot args K' = K' v S' ks
def Met (C : Cfg) (n : FuncId) (vals : Array Value) (w : World) (Q : Value → World → Prop) : Prop :=
 (∃ f, C.P.funcs[n]? = some f ∧ f.body.isSome = true ∧ Calls C.P n vals w fun e w' => ∃ val, e = .returned val ∧ Q val w') ∨ ∃ val w', (callFunc n vals).run C.P w = .ok (.value val) w' ∧ Q val w'
structure Called (C : Cfg) (call : CallF) : Prop where
 nat : SNat call
 ok : ∀ {F : Nat → Prop} {σ : Sig} {S : List Blk} {w : World} {slot : Nat} {n : FuncId} {args : List AV} {vals : Array Value} {α : Type} {K : KV α} {out : α} {o : Oper}, slotsOf o.op = 8 → Sim C F σ S w → (∀ j, slot ≤ j → j < slot + 8 → Slot σ S j) →
  vals.size = args.length → (∀ (j : Nat) a v, args[j]? = some a → vals[j]? = some v → VR C w F σ a v) → callD C call S slot n args K = some out →
  ∃ v S' ks, K v S' ks = some out ∧ (∀ {β : Type} (K' : KV β), callD C call S slot n args K' = K' v S' ks) ∧ Met C n vals w fun val w' => Post C o F σ S w slot v S' ks val w'
theorem setO_same {env : List AV} {c : Operand} {b : Bool} (h : ev env c = .b b) : setO env c (.b b) = env := by
 cases c with
 | tmp t =>
  simp only [ev, setO] at *
  rw [List.getD_eq_getElem?_getD] at h
  apply List.ext_getElem?
  intro j
  rw [List.getElem?_set]
  by_cases e : t = j
  ·subst e
   rw [if_pos rfl]
   split
   ·rename_i hlt
    rw [List.getElem?_eq_getElem hlt] at h ⊢
    simp only [Option.getD_some] at h
    rw [h]
   ·rename_i hlt
    rw [List.getElem?_eq_none (by omega)]
  ·rw [if_neg e]
 | _ => rfl
theorem run_enter {n : FuncId} {f : Func} {vals : Array Value} {w : World} (hnm : namesB C = true) (hf : C.P.funcs[n]? = some f) (hb : f.body.isSome = true) : (callFunc n vals).run C.P w = .ok (.enter n vals) w := by
 have hname : ¬ f.name = "runtime.NumGoroutine" := by
  unfold namesB at hnm
  have := List.all_eq_true.mp hnm f (List.mem_of_getElem? (by rw [Array.getElem?_toList]; exact hf))
  simpa using this
 have hbn : ¬ f.body = none := by cases q : f.body <;> simp_all
 unfold callFunc
 simp [Sem.run_bind, hf, hname, hbn]
theorem goD_ok {ops : Array Oper} {Q : Exit → Act → World → Prop} {call : CallF} {i : Nat} (hl : layB C = true) (hnm : namesB C = true) (hcall : Called C call) (hi : ops[i]? = some o) (hw : Region.wanted o (yielded ops a.tmps) = true) (hs : Sim C F σ S w) (he : EnvR C w F σ env a.tmps) (hsl : ∀ j, slot ≤ j → j < slot + slotsOf o.op → Slot σ S j) {K : KE α} (h : goD C call o slot env S K = some out) :
  ∃ v S' ks, K env v S' ks = some out ∧ (∀ {β : Type} (K' : KE β), goD C call o slot env S K' = K' env v S' ks) ∧ ∀ Kc : Act → World → Prop, (∀ val w', Post C o F σ S w slot v S' ks val w' → Kc (a.put o.dst val) w') → wpOp C.P ops Q i Kc a w := by
 have wp : ∀ {Kc : Act → World → Prop}, o.wp C.P a w Kc Q → wpOp C.P ops Q i Kc a w := fun hh => by
  unfold wpOp
  rw [hi]
  dsimp only
  rw [if_pos hw]
  exact .inl hh
 have done : ∀ {v : AV} {S' : List Blk} {ks : List Nat} {val : Value} {w' : World} (hr : (execOp a.eval o).run C.P w = .ok (.value val) w' ∨ ((execOp a.eval o).run C.P w = .ok .skip w' ∧ val = undef)) (hp : Post C o F σ S w slot v S' ks val w') (Kc : Act → World → Prop), (∀ val w', Post C o F σ S w slot v S' ks val w' → Kc (a.put o.dst val) w') → wpOp C.P ops Q i Kc a w := by
  intro v S' ks val w' hr hp Kc hK
  refine wp ?_
  unfold Oper.wp
  rcases hr with hr | ⟨hr, rfl⟩ <;> rw [hr]
  ·exact hK _ _ hp
  ·exact hK _ _ hp
 have plain : (∀ {β : Type} (K' : KE β), goD C call o slot env S K' = opD C S env slot (K' env) o.op) → ∃ v S' ks, K env v S' ks = some out ∧ (∀ {β : Type} (K' : KE β), goD C call o slot env S K' = K' env v S' ks) ∧ ∀ Kc : Act → World → Prop, (∀ val w', Post C o F σ S w slot v S' ks val w' → Kc (a.put o.dst val) w') → wpOp C.P ops Q i Kc a w := by
  intro hg
  rw [hg, opD_nat] at h
  obtain ⟨⟨v, S', ks⟩, hq, hK⟩ := Option.bind_eq_some_iff.mp h
  obtain ⟨v', S1, ks', e1, e2⟩ := opD_ok (a := a) hl hs he hsl hq
  simp only [Option.some.injEq, Prod.mk.injEq] at e1
  obtain ⟨rfl, rfl, rfl⟩ := e1
  obtain ⟨val, w', hr, hp⟩ := e2.post
  refine ⟨_, _, _, hK, fun K' => ?_, done hr hp⟩
  rw [hg, opD_nat, hq]
  rfl
 cases hop : o.op
 case pick c x y =>
  have hg : ∀ {β : Type} (K' : KE β), goD C call o slot env S K' = match ev env c with
   | .b t => if t = true then K' (setO env c (.b true)) (ev env x) S [] else K' (setO env c (.b false)) (ev env y) S []
   | _ => none := fun K' => by unfold goD; rw [hop]; rfl
  rw [hg] at h
  have hc := he.at_
  have hcv := ev_ok he c
  split at h <;> try (cases h; done)
  rename_i t ec
  rw [ec] at hcv
  have hcv := hcv.b_inv
  cases t with
  | true =>
   rw [if_pos rfl, setO_same ec] at h
   refine ⟨_, _, _, h, fun K' => by rw [hg, ec]; simp only [if_true]; rw [setO_same ec], done (val := a.eval x) (.inl ?_) (.still hs (ev_ok he x))⟩
   simp [execOp, hop, hcv, asBool, Sem.run_bind, pure, Sem.run]
  | false =>
   rw [if_neg (by simp), setO_same ec] at h
   refine ⟨_, _, _, h, fun K' => by rw [hg, ec]; simp only [Bool.false_eq_true, if_false]; rw [setO_same ec], done (val := a.eval y) (.inl ?_) (.still hs (ev_ok he y))⟩
   simp [execOp, hop, hcv, asBool, Sem.run_bind, pure, Sem.run]
 case call c =>
  obtain ⟨callee, args, tys⟩ := c
  cases callee
  case value f =>
   have hg : ∀ {β : Type} (K' : KE β), goD C call o slot env S K' = match ev env f with
    | .fn n first cap => if (first.all isOne && cap.all isOne) = true then callD C call S slot n (first ++ args.toList.map (ev env) ++ cap) (K' env) else none
    | _ => none := fun K' => by unfold goD; rw [hop]; rfl
   rw [hg] at h
   have hf := ev_ok he f
   split at h <;> try (cases h; done)
   rename_i n first cap ef
   rw [ef] at hf
   obtain ⟨hones, h⟩ := ite_some h
   have hones' := hones
   rw [Bool.and_eq_true, List.all_eq_true, List.all_eq_true] at hones'
   have hr := hf.one_inv (by simp) (by simp) (by simp)
   generalize hv : a.eval f = fv at hr
   cases hr with
   | fn cs ds c1 c2 c3 c4 =>
    have hmap : ∀ (j : Nat) b v, (args.toList.map (ev env))[j]? = some b → (args.toList.map a.eval)[j]? = some v → VR C w F σ b v := fun j b v hb hv => by
     rw [List.getElem?_map] at hb hv
     cases hq : args.toList[j]? with
     | none => rw [hq] at hb; cases hb
     | some q =>
      rw [hq] at hb hv
      simp only [Option.map_some, Option.some.injEq] at hb hv
      subst hb hv
      exact ev_ok he q
    have hone : ∀ {b : AV} {v : Value}, isOne b = true → R C w F σ b [v] → VR C w F σ b v := fun {b v} h1 hb => .one (fun fs e => by rw [e] at h1; simp [isOne] at h1) hb
    have happ : ∀ (j : Nat) b v, (first ++ args.toList.map (ev env) ++ cap)[j]? = some b → ((cs ++ args.toList.map a.eval ++ ds).toArray)[j]? = some v → VR C w F σ b v := fun j b v hb hv => by
     rw [List.getElem?_toArray] at hv
     rw [List.getElem?_append] at hb hv
     simp only [List.length_append, List.length_map, c1] at hb hv
     by_cases q1 : j < first.length + args.toList.length
     ·rw [if_pos q1] at hb hv
      rw [List.getElem?_append] at hb hv
      rw [c1] at hv
      by_cases q2 : j < first.length
      ·rw [if_pos q2] at hb hv
       exact hone (hones'.1 b (List.mem_of_getElem? hb)) (c3 j b v hb hv)
      ·rw [if_neg q2] at hb hv
       exact hmap _ b v hb hv
     ·rw [if_neg q1] at hb hv
      exact hone (hones'.2 b (List.mem_of_getElem? hb)) (c4 _ b v hb hv)
    obtain ⟨v, S', ks, hK, hall, hmet⟩ := hcall.ok (o := o) (by rw [hop]; rfl) hs (fun j h1 h2 => hsl j h1 (by rw [hop]; exact h2)) (vals := (cs ++ args.toList.map a.eval ++ ds).toArray) (by simp [c1, c2]) happ h
    refine ⟨v, S', ks, hK, fun K' => by rw [hg, ef]; dsimp only; rw [if_pos hones]; exact hall (K' env), fun Kc hKc => ?_⟩
    have e : (cs ++ args.toList.map a.eval ++ ds).toArray = cs.toArray ++ args.map a.eval ++ ds.toArray := by
     apply Array.ext'
     simp
    have hrun : (execOp a.eval o).run C.P w = (callFunc n (cs ++ args.toList.map a.eval ++ ds).toArray).run C.P w := by
     rw [e]
     simp [execOp, hop, resolve, hv, Deferred.ofValue, invoke, Sem.run_bind, pure, Sem.run]
    rcases hmet with ⟨fn, hfn, hfb, hcalls⟩ | ⟨val, w1, hr, hp⟩
    ·refine wp ?_
     rw [run_enter (w := w) hnm hfn hfb] at hrun
     unfold Oper.wp
     rw [hrun]
     show Calls _ _ _ _ _
     refine hcalls.mono fun e w' hq => ?_
     obtain ⟨val, rfl, hp⟩ := hq
     exact hKc val w' hp
    ·exact done (.inl (hrun.trans hr)) hp Kc hKc
  all_goals exact plain fun K' => by unfold goD; rw [hop]
 all_goals exact plain fun K' => by unfold goD; rw [hop]
theorem stepD_ok {ops : Array Oper} {Q : Exit → Act → World → Prop} {call : CallF} {i : Nat} (hl : layB C = true) (hnm : namesB C = true) (hcall : Called C call) (hi : ops[i]? = some o) (hs : Sim C F σ S w) (he : EnvR C w F σ env a.tmps) (hsl : ∀ j, slot ≤ j → j < slot + slotsOf o.op → Slot σ S j) {K : KE α} (h : stepD C call ops.toList o slot env S K = some out) :
  ∃ v S' ks, K env v S' ks = some out ∧ (∀ {β : Type} (K' : KE β), stepD C call ops.toList o slot env S K' = K' env v S' ks) ∧ ∀ Kc : Act → World → Prop, (∀ val w', Post C o F σ S w slot v S' ks val w' → Kc (a.put o.dst val) w') → wpOp C.P ops Q i Kc a w := by
 have skip : ∀ (v : Value), Region.wanted o (yielded ops a.tmps) = false → ∀ Kc : Act → World → Prop, (∀ val w', Post C o F σ S w slot (.t []) S [] val w' → Kc (a.put o.dst val) w') → wpOp C.P ops Q i Kc a w := fun v hw Kc hK => by
  unfold wpOp
  rw [hi]
  dsimp only
  rw [if_neg (by rw [hw]; simp)]
  exact hK undef _ (.still hs (.t [] rfl fun j a v h => by simp at h))
 cases hg : o.guard with
 | none =>
  have hst : ∀ {β : Type} (K' : KE β), stepD C call ops.toList o slot env S K' = goD C call o slot env S K' := fun K' => by unfold stepD; rw [hg]
  rw [hst] at h
  obtain ⟨v, S', ks, h1, h2, h3⟩ := goD_ok (Q := Q) hl hnm hcall hi (by unfold Region.wanted; rw [hg]) hs he hsl h
  exact ⟨v, S', ks, h1, fun K' => by rw [hst]; exact h2 K', h3⟩
 | some gp =>
  obtain ⟨g, pol⟩ := gp
  have hst : ∀ {β : Type} (K' : KE β), stepD C call ops.toList o slot env S K' = match ev env (guardT ops.toList g) with
   | .b t => if t = pol then goD C call o slot (setO env (guardT ops.toList g) (.b pol)) S K' else K' (setO env (guardT ops.toList g) (.b (!pol))) (.t []) S []
   | .t [] => K' env (.t []) S []
   | _ => none := fun K' => by unfold stepD; rw [hg]; rfl
  rw [hst] at h
  have hgv := ev_ok he (guardT ops.toList g)
  split at h <;> try (cases h; done)
  rotate_left
  ·rename_i et
   rw [et] at hgv
   have hgu : a.eval (guardT ops.toList g) = undef := by
    generalize a.eval (guardT ops.toList g) = gv at hgv
    cases hgv with
    | t vs h1 h2 =>
     have : vs = [] := List.length_eq_zero_iff.mp h1
     subst this
     rfl
    | one h1 hr => cases hr
   have hyn : yielded ops a.tmps g = none := by
    unfold guardT at hgu et
    rw [Array.getElem?_toList] at hgu et
    unfold yielded
    cases hog : ops[g]? with
    | none => rw [hog] at et; simp [ev] at et
    | some og =>
     rw [hog] at et hgu
     cases hd : og.dst with
     | none => simp [hd, ev] at et
     | some d =>
      simp only [hd, Act.eval] at hgu
      simp only [Option.bind_some, hd]
      rw [Array.getD_eq_getD_getElem?] at hgu
      cases ht : a.tmps[d]? with
      | none => rfl
      | some v => rw [ht] at hgu; simp only [Option.getD_some] at hgu; rw [hgu]; rfl
   exact ⟨.t [], S, [], h, fun K' => by rw [hst, et], skip undef (by unfold Region.wanted; rw [hg]; simp [hyn])⟩
  rename_i t et
  rw [et] at hgv
  have hgv := hgv.b_inv
  have hy : yielded ops a.tmps g = some t := by
   unfold guardT at hgv et
   rw [Array.getElem?_toList] at hgv et
   unfold yielded
   cases hog : ops[g]? with
   | none => rw [hog] at et; simp [ev] at et
   | some og =>
    rw [hog] at et hgv
    cases hd : og.dst with
    | none => simp [hd, ev] at et
    | some d =>
     simp only [hd, Act.eval] at hgv
     simp only [Option.bind_some, hd]
     rw [Array.getD_eq_getD_getElem?] at hgv
     cases ht : a.tmps[d]? with
     | none => rw [ht] at hgv; simp [undef] at hgv
     | some v => rw [ht] at hgv; simp only [Option.getD_some] at hgv; rw [hgv]
  by_cases q : t = pol
  ·subst q
   rw [if_pos rfl, setO_same et] at h
   obtain ⟨v, S', ks, h1, h2, h3⟩ := goD_ok (Q := Q) hl hnm hcall hi (by unfold Region.wanted; rw [hg]; simp [hy]) hs he hsl h
   exact ⟨v, S', ks, h1, fun K' => by rw [hst, et]; simp only [if_true]; rw [setO_same et]; exact h2 K', h3⟩
  ·have e : (!pol) = t := by cases t <;> cases pol <;> simp_all
   rw [if_neg q, e, setO_same et] at h
   refine ⟨.t [], S, [], h, fun K' => by rw [hst, et]; simp only [if_neg q]; rw [e, setO_same et], skip undef (by unfold Region.wanted; rw [hg]; simp [hy, q])⟩
end
section
variable {C : Cfg} {F F' : Nat → Prop} {σ σ' : Sig} {S S' : List Blk} {w w' : World} {env : List AV} {a : Act} {α : Type} {out : α}
theorem EnvR.mono {tmps : Array Value} (h : EnvR C w F σ env tmps) (hk : ∀ b, F b → w'.heap[b]? = w.heap[b]?) (hF : ∀ b, F b → F' b) (hσ : ∀ id, σ id ≠ .no → σ' id = σ id) : EnvR C w' F' σ' env tmps :=
 ⟨h.n, fun t => (h.at_ t).mono hk hF hσ⟩
theorem EnvR.put {dst : Option Tmp} {v : AV} {val : Value} (h : EnvR C w F σ env a.tmps) (hv : VR C w F σ v val) : EnvR C w F σ (putE env dst v) (a.put dst val).tmps := by
 cases dst with
 | none => exact h
 | some d =>
  refine ⟨by simp [putE, Act.put, h.n], fun t => ?_⟩
  have := h.at_ t
  simp only [putE, Act.put, List.getD_eq_getElem?_getD, Array.getD_eq_getD_getElem?, List.getElem?_set, Array.getElem?_setIfInBounds] at this ⊢
  by_cases q : d = t
  ·subst q
   simp only [if_true]
   by_cases hd : d < env.length
   ·rw [if_pos hd, if_pos (by rw [← h.n]; exact hd)]
    exact hv
   ·rw [if_neg hd, if_neg (by rw [← h.n]; exact hd)]
    exact .u
  ·rw [if_neg q, if_neg q]
   exact this
def OpenOk (C : Cfg) (F : Nat → Prop) (σ : Sig) (w : World) (op : List (List Blk × List Nat)) : Prop :=
 ∀ q ∈ op, ∀ id ∈ q.2, BlkAt C w F σ (q.1.getD id .dead) (σ id) ∧ ∀ b, live q.1 id → (σ id).blk = some b → F b
theorem place_no {B : Blk} {p : Place} (h : BlkAt C w F σ B p) (hB : B ≠ .dead) : p ≠ .no := by
 cases B with
 | dead => exact absurd rfl hB
 | obj T a => cases p <;> simp_all [BlkAt]
 | arr e xs => cases p <;> simp_all [BlkAt]
 | map V es => cases p <;> simp_all [BlkAt]
theorem OpenOk.mono {op : List (List Blk × List Nat)} (h : OpenOk C F σ w op) (hk : ∀ b, F b → w'.heap[b]? = w.heap[b]?) (hF : ∀ b, F b → F' b) (hσ : ∀ id, σ id ≠ .no → σ' id = σ id) : OpenOk C F' σ' w' op := fun q hq id hid => by
 obtain ⟨h1, h2⟩ := h q hq id hid
 by_cases hd : live q.1 id
 ·have e := hσ id (place_no h1 hd)
  rw [e]
  exact ⟨h1.mono hk hF hσ fun b hb => hk b (h2 b hd hb), fun b l hb => hF b (h2 b l hb)⟩
 ·rw [not_live hd]
  exact ⟨trivial, fun b l => absurd l hd⟩
theorem OpenOk.one {q : List Blk × List Nat} (h : OpenOk C F σ w [q]) {x : AV} {v : Value} (hv : VR C w F σ x v) : VR C w F σ (openAV q.1 q.2 x) v := by
 have hq := h q (by simp)
 cases x <;> simp only [openAV] <;> try exact hv
 case w e id =>
  split
  ·rename_i hc
   have hid : id ∈ q.2 := by simpa using hc
   obtain ⟨h1, h2⟩ := hq id hid
   have hr := hv.one_inv (by simp) (by simp) (by simp)
   split
   ·rename_i e2 xs hS
    rw [hS] at h1
    have hlv : live q.1 id := by unfold live; rw [hS]; simp
    rcases hr.w_inv with ⟨b, o, n, c, cap, g1, g2, g3, rfl⟩ | ⟨g1, ad, _, rfl⟩
    ·rw [g1] at h1
     obtain ⟨rfl, rfl, hA⟩ := h1
     exact .one (by simp) (hA.all (fun _ h => h) (h2 b hlv (by rw [g1]; rfl)) _ g2)
    ·rw [g1] at h1
     simp only [BlkAt] at h1
     subst h1
     exact .one (by simp) .l0
   ·exact .u
  ·exact hv
 case r e id off len =>
  split
  ·rename_i hc
   have hid : id ∈ q.2 := by simpa using hc
   obtain ⟨h1, h2⟩ := hq id hid
   have hr := hv.one_inv (by simp) (by simp) (by simp)
   split
   ·rename_i e2 xs hS
    rw [hS] at h1
    have hlv : live q.1 id := by unfold live; rw [hS]; simp
    cases hr with
    | r g1 g2 g3 g4 =>
     rw [g1] at h1
     obtain ⟨rfl, rfl, hA⟩ := h1
     exact .one (by simp) (hA.open_ (fun _ h => h) (h2 _ hlv (by rw [g1]; rfl)) off len _ g2 g3)
    | r0 => simp only [List.take_zero]; exact .one (by simp) .l0
   ·exact .u
  ·exact hv
 case p id path =>
  split
  ·exact .u
  ·exact hv
 case q id idx path =>
  split
  ·exact .u
  ·exact hv
theorem OpenOk.all : ∀ {op : List (List Blk × List Nat)} (h : OpenOk C F σ w op) {x : AV} {v : Value} (hv : VR C w F σ x v), VR C w F σ (openL op x) v
 | [], _, _, _, hv => hv
 | q :: op, h, x, v, hv => OpenOk.all (op := op) (fun p hp => h p (by simp [hp])) (OpenOk.one (q := q) (fun p hp => h p (by simp_all)) hv)
theorem openL_u : ∀ op : List (List Blk × List Nat), openL op .u = .u
 | [] => rfl
 | q :: op => by simp only [openL, openAV]; exact openL_u op
theorem OpenOk.envs {op : List (List Blk × List Nat)} {tmps : Array Value} (h : OpenOk C F σ w op) (he : EnvR C w F σ env tmps) : EnvR C w F σ (env.map (openL op)) tmps := by
 refine ⟨by simp [he.n], fun t => ?_⟩
 have := h.all (he.at_ t)
 rw [List.getD_eq_getElem?_getD] at this ⊢
 rw [List.getElem?_map]
 cases hq : env[t]? with
 | none => exact .u
 | some x => rw [hq] at this; exact this
def RegEnd (C : Cfg) (K : X → Option α) (out : α) (F : Nat → Prop) (σ : Sig) (S : List Blk) (w : World) (ds : List Deferred) (a' : Act) (w' : World) : Prop :=
 ∃ env' S' F' σ', K ⟨env', S'⟩ = some out ∧ a'.defers = ds ∧ Sim C F' σ' S' w' ∧ EnvR C w' F' σ' env' a'.tmps ∧ Stp C F σ S w F' σ' S' w' ∧ (∀ id, σ id ≠ .no → σ' id = σ id) ∧ S'.length = S.length
theorem put_defers (a : Act) (dst : Option Tmp) (v : Value) : (a.put dst v).defers = a.defers := by cases dst <;> rfl
theorem opened (hs : Sim C F σ S w) {ks : List Nat} (h : ∀ id ∈ ks, ∀ b, live S id → (σ id).blk = some b → F' b ∧ w'.heap[b]? = w.heap[b]?) (hst : Stp C F σ S w F' σ' S' w') (hσ : ∀ id, σ id ≠ .no → σ' id = σ id) : OpenOk C F' σ' w' [(S, ks)] := fun q hq id hid => by
 simp only [List.mem_singleton] at hq
 subst hq
 by_cases hd : live S id
 ·have e := hσ id (hs.place hd)
  rw [e]
  exact ⟨(hs.blk id).mono (hst.dat hs) hst.grow hσ fun b hb => (h id hid b hd hb).2, fun b l hb => (h id hid b l hb).1⟩
 ·rw [not_live hd]
  exact ⟨trivial, fun b l => absurd l hd⟩
theorem opsD_seqT {ops : Array Oper} {Q : Exit → Act → World → Prop} {call : CallF} {K : X → Option α} (hl : layB C = true) (hnm : namesB C = true) (hcall : Called C call) {F0 : Nat → Prop} {σ0 : Sig} {S0 : List Blk} {w0 : World} {ds : List Deferred} (tl : List Oper) (hQ : ∀ a' w', RegEnd C K out F0 σ0 S0 w0 ds a' w' → wpOps C.P ops Q (List.range' (ops.size - tl.length) tl.length) a' w') :
  ∀ (rest : List Oper) (i slot : Nat) (env : List AV) (S : List Blk) (op : List (List Blk × List Nat)) (a : Act) (w : World) (F : Nat → Prop) (σ : Sig), ops.toList.drop i = rest ++ tl → Sim C F σ S w → EnvR C w F σ env a.tmps → (∀ j, slot ≤ j → j < slot + (rest.map fun o => slotsOf o.op).sum → Slot σ S j) → OpenOk C F σ w op → a.defers = ds →
   Stp C F0 σ0 S0 w0 F σ S w → (∀ id, σ0 id ≠ .no → σ id = σ0 id) → S.length = S0.length → opsD C call ops.toList K rest [] slot env S op = some out → wpOps C.P ops Q (List.range' i (rest.length + tl.length)) a w
 | [], i, slot, env, S, op, a, w, F, σ, hd, hs, he, _, ho, hds, hst, hσ, hlen, h => by
  have hi : List.range' i (([] : List Oper).length + tl.length) = List.range' (ops.size - tl.length) tl.length := by
   simp only [List.length_nil, Nat.zero_add]
   cases htl : tl with
   | nil => rfl
   | cons t ts =>
    have := congrArg List.length hd
    rw [htl] at this
    simp only [List.length_drop, Array.length_toList, List.nil_append, List.length_cons] at this
    rw [show i = ops.size - (t :: ts).length by simp only [List.length_cons]; omega]
  rw [hi]
  refine hQ a w ?_
  cases op with
  | nil => exact ⟨env, S, F, σ, h, hds, hs, he, hst, hσ, hlen⟩
  | cons q op => exact ⟨_, S, F, σ, h, hds, hs, OpenOk.envs ho he, hst, hσ, hlen⟩
 | o :: rest, i, slot, env, S, op, a, w, F, σ, hd, hs, he, hsl, ho, hds, hst, hσ, hlen, h => by
  have hi : ops[i]? = some o := by
   have := congrArg (·[0]?) hd
   simp only [List.getElem?_drop, Nat.add_zero, List.cons_append, List.getElem?_cons_zero] at this
   rw [← this, Array.getElem?_toList]
  have hd' : ops.toList.drop (i + 1) = rest ++ tl := by
   rw [← List.drop_drop, hd]
   rfl
  simp only [List.map_cons, List.sum_cons] at hsl
  unfold opsD at h
  obtain ⟨v, S', ks, hK, _, hwp⟩ := stepD_ok (Q := Q) (i := i) hl hnm hcall hi hs he (fun j h1 h2 => hsl j h1 (by omega)) h
  rw [List.length_cons, show rest.length + 1 + tl.length = (rest.length + tl.length) + 1 by omega, List.range'_succ, wpOps_cons]
  refine hwp _ fun val w' ⟨F', σ', p1, p2, p3, p4, p5, p6, p7⟩ => ?_
  have e2 := (he.mono (p2.dat hs) p2.grow p3).put (dst := o.dst) p5
  have sl2 : ∀ j, slot + slotsOf o.op ≤ j → j < slot + slotsOf o.op + (rest.map fun o => slotsOf o.op).sum → Slot σ' S' j := fun j h1 h2 => by
   obtain ⟨q1, q2, q3⟩ := hsl j (by omega) (by omega)
   obtain ⟨r1, r2⟩ := p7 j (.inr h1) q2 q3
   exact ⟨by omega, r1, r2⟩
  have σ2 : ∀ id, σ0 id ≠ .no → σ' id = σ0 id := fun id hid => by rw [p3 id (by rw [hσ id hid]; exact hid), hσ id hid]
  cases ks with
  | nil => exact opsD_seqT hl hnm hcall tl hQ rest (i + 1) _ _ _ op _ w' F' σ' hd' p1 e2 sl2 (ho.mono (p2.dat hs) p2.grow p3) (by rw [put_defers, hds]) (hst.trans p2) σ2 (by omega) hK
  | cons k ks =>
   refine opsD_seqT hl hnm hcall tl hQ rest (i + 1) _ _ _ (op ++ [(S, k :: ks)]) _ w' F' σ' hd' p1 e2 sl2 (fun q hq => ?_) (by rw [put_defers, hds]) (hst.trans p2) σ2 (by omega) hK
   rcases List.mem_append.mp hq with hq | hq
   ·exact ho.mono (p2.dat hs) p2.grow p3 q hq
   ·exact opened hs p4 p2 p3 q hq
theorem opsD_seq {ops : Array Oper} {Q : Exit → Act → World → Prop} {call : CallF} {K : X → Option α} (hl : layB C = true) (hnm : namesB C = true) (hcall : Called C call) {F0 : Nat → Prop} {σ0 : Sig} {S0 : List Blk} {w0 : World} {ds : List Deferred} (hQ : ∀ a' w', RegEnd C K out F0 σ0 S0 w0 ds a' w' → Q .normal a' w')
  (rest : List Oper) (i slot : Nat) (env : List AV) (S : List Blk) (op : List (List Blk × List Nat)) (a : Act) (w : World) (F : Nat → Prop) (σ : Sig) (hd : ops.toList.drop i = rest) (hs : Sim C F σ S w) (he : EnvR C w F σ env a.tmps) (hsl : ∀ j, slot ≤ j → j < slot + (rest.map fun o => slotsOf o.op).sum → Slot σ S j) (ho : OpenOk C F σ w op) (hds : a.defers = ds)
  (hst : Stp C F0 σ0 S0 w0 F σ S w) (hσ : ∀ id, σ0 id ≠ .no → σ id = σ0 id) (hlen : S.length = S0.length) (h : opsD C call ops.toList K rest [] slot env S op = some out) : wpOps C.P ops Q (List.range' i rest.length) a w :=
 opsD_seqT hl hnm hcall [] hQ rest i slot env S op a w F σ (by rw [hd, List.append_nil]) hs he hsl ho hds hst hσ hlen h
end
section
variable {C : Cfg} {S : List Blk} {env env' : List AV} {o : Oper} {slot : Nat} {α : Type} {out : α} {call : CallF}
theorem callD_nat (hu : SNat call) {n : FuncId} {args : List AV} {K : KV α} (h : callD C call S slot n args K = some out) : ∃ v S' ks, K v S' ks = some out ∧ ∀ {β : Type} (K' : KV β), callD C call S slot n args K' = K' v S' ks := by
 unfold callD at h
 split at h
 ·cases h
 ·rename_i f hf
  split at h
  ·rename_i g hg
   split at h
   ·cases h
   ·rename_i q hq
    obtain ⟨hc, h⟩ := ite_some h
    obtain ⟨hc2, h⟩ := ite_some h
    refine ⟨_, _, _, h, fun K' => ?_⟩
    unfold callD
    simp only [hf, hg, hq]
    rw [if_pos hc, if_pos hc2]
  rename_i hg
  split at h
  ·rename_i e he
   obtain ⟨q, hq, h⟩ := Option.bind_eq_some_iff.mp h
   obtain ⟨hc, h⟩ := ite_some h
   refine ⟨_, _, _, h, fun K' => ?_⟩
   unfold callD
   simp only [hf, hg, he, hq]
   simp only [Option.bind_some]
   rw [if_pos hc]
  rename_i he
  split at h
  ·rename_i hi
   obtain ⟨hb, h⟩ := ite_some h
   obtain ⟨v, S', ks, h1, h2⟩ := hu h
   obtain ⟨hlen, h1⟩ := ite_some h1
   refine ⟨v, S', ks, h1, fun K' => ?_⟩
   unfold callD
   simp only [hf, hg, he]
   rw [if_pos hi, if_pos hb, h2, if_pos hlen]
  rename_i hi
  split at h
  ·cases h
  ·rename_i x hx
   obtain ⟨hfr, h⟩ := ite_some h
   obtain ⟨r, hr, h⟩ := Option.bind_eq_some_iff.mp h
   obtain ⟨hc, h⟩ := ite_some h
   refine ⟨_, _, _, h, fun K' => ?_⟩
   unfold callD
   simp only [hf, hg, he, hx]
   rw [if_neg hi, if_pos hfr, hr]
   simp only [Option.bind_some]
   rw [if_pos hc]
theorem goD_nat (hu : SNat call) {K : KE α} (h : goD C call o slot env S K = some out) : ∃ v S' ks, K env v S' ks = some out ∧ ∀ {β : Type} (K' : KE β), goD C call o slot env S K' = K' env v S' ks := by
 have plain : (∀ {β : Type} (K' : KE β), goD C call o slot env S K' = opD C S env slot (K' env) o.op) → ∃ v S' ks, K env v S' ks = some out ∧ ∀ {β : Type} (K' : KE β), goD C call o slot env S K' = K' env v S' ks := by
  intro hg
  rw [hg, opD_nat] at h
  obtain ⟨⟨v, S', ks⟩, hq, hK⟩ := Option.bind_eq_some_iff.mp h
  refine ⟨_, _, _, hK, fun K' => ?_⟩
  rw [hg, opD_nat, hq]
  rfl
 cases hop : o.op
 case pick c x y =>
  have hg : ∀ {β : Type} (K' : KE β), goD C call o slot env S K' = match ev env c with
   | .b t => if t = true then K' (setO env c (.b true)) (ev env x) S [] else K' (setO env c (.b false)) (ev env y) S []
   | _ => none := fun K' => by unfold goD; rw [hop]; rfl
  rw [hg] at h
  split at h <;> try (cases h; done)
  rename_i t ec
  cases t with
  | true =>
   rw [if_pos rfl, setO_same ec] at h
   exact ⟨_, _, _, h, fun K' => by rw [hg, ec]; simp only [if_true]; rw [setO_same ec]⟩
  | false =>
   rw [if_neg (by simp), setO_same ec] at h
   exact ⟨_, _, _, h, fun K' => by rw [hg, ec]; simp only [Bool.false_eq_true, if_false]; rw [setO_same ec]⟩
 case call c =>
  obtain ⟨callee, args, tys⟩ := c
  cases callee
  case value f =>
   have hg : ∀ {β : Type} (K' : KE β), goD C call o slot env S K' = match ev env f with
    | .fn n first cap => if (first.all isOne && cap.all isOne) = true then callD C call S slot n (first ++ args.toList.map (ev env) ++ cap) (K' env) else none
    | _ => none := fun K' => by unfold goD; rw [hop]; rfl
   rw [hg] at h
   split at h <;> try (cases h; done)
   rename_i n first cap ef
   obtain ⟨hones, h⟩ := ite_some h
   obtain ⟨v, S', ks, h1, h2⟩ := callD_nat hu h
   exact ⟨v, S', ks, h1, fun K' => by rw [hg, ef]; dsimp only; rw [if_pos hones]; exact h2 (K' env)⟩
  all_goals exact plain fun K' => by unfold goD; rw [hop]
 all_goals exact plain fun K' => by unfold goD; rw [hop]
theorem stepD_nat (hu : SNat call) {all : List Oper} {K : KE α} (h : stepD C call all o slot env S K = some out) : ∃ v S' ks, K env v S' ks = some out ∧ ∀ {β : Type} (K' : KE β), stepD C call all o slot env S K' = K' env v S' ks := by
 cases hg : o.guard with
 | none =>
  have hst : ∀ {β : Type} (K' : KE β), stepD C call all o slot env S K' = goD C call o slot env S K' := fun K' => by unfold stepD; rw [hg]
  rw [hst] at h
  obtain ⟨v, S', ks, h1, h2⟩ := goD_nat hu h
  exact ⟨v, S', ks, h1, fun K' => by rw [hst]; exact h2 K'⟩
 | some gp =>
  obtain ⟨g, pol⟩ := gp
  have hst : ∀ {β : Type} (K' : KE β), stepD C call all o slot env S K' = match ev env (guardT all g) with
   | .b t => if t = pol then goD C call o slot (setO env (guardT all g) (.b pol)) S K' else K' (setO env (guardT all g) (.b (!pol))) (.t []) S []
   | .t [] => K' env (.t []) S []
   | _ => none := fun K' => by unfold stepD; rw [hg]; rfl
  rw [hst] at h
  split at h <;> try (cases h; done)
  rotate_left
  ·rename_i et
   exact ⟨_, _, _, h, fun K' => by rw [hst, et]⟩
  rename_i t et
  by_cases q : t = pol
  ·subst q
   rw [if_pos rfl, setO_same et] at h
   obtain ⟨v, S', ks, h1, h2⟩ := goD_nat hu h
   exact ⟨v, S', ks, h1, fun K' => by rw [hst, et]; simp only [if_true]; rw [setO_same et]; exact h2 K'⟩
  ·have e : (!pol) = t := by cases t <;> cases pol <;> simp_all
   rw [if_neg q, e, setO_same et] at h
   exact ⟨.t [], S, [], h, fun K' => by rw [hst, et]; simp only [if_neg q]; rw [e, setO_same et]⟩
theorem all_congr {β : Type} {l : List β} {f g : β → Bool} (h : ∀ q ∈ l, f q = g q) : l.all f = l.all g := by
 induction l with
 | nil => rfl
 | cons x l ih => simp only [List.all_cons]; rw [h x (by simp), ih fun q hq => h q (by simp [hq])]
theorem foldl_congr {β γ : Type} {l : List β} {f g : γ → β → γ} (h : ∀ q ∈ l, ∀ z, f z q = g z q) : ∀ z, l.foldl f z = l.foldl g z := by
 induction l with
 | nil => exact fun _ => rfl
 | cons x l ih => intro z; simp only [List.foldl_cons]; rw [h x (by simp), ih fun q hq => h q (by simp [hq])]
theorem opD_congr {op : Op} {K : KV α} (h : ∀ x ∈ op.operands, ev env x = ev env' x) : opD C S env slot K op = opD C S env' slot K op := by
 have pairs : ∀ ps : Array (Nat × Operand), (∀ x ∈ ps.map (·.2), ev env x = ev env' x) → ∀ q ∈ ps.toList, ev env q.2 = ev env' q.2 := fun ps hp q hq => hp q.2 (Array.mem_map.2 ⟨q, by simpa using hq, rfl⟩)
 have arr : ∀ ps : Array Operand, (∀ x ∈ ps, ev env x = ev env' x) → ps.toList.map (ev env) = ps.toList.map (ev env') := fun ps hp => List.map_congr_left fun x hx => hp x (by simpa using hx)
 cases op
 case build t ps =>
  have hp := pairs ps (by simpa [Op.operands] using h)
  simp only [opD]
  split
  ·split
   ·rename_i fs zs _ _
    rw [all_congr (l := ps.toList) (g := fun q => match fs[q.1]? with | some f => sh C C.P.depth f.type (ev env' q.2) | none => false) fun q hq => by rw [hp q hq]; rfl, foldl_congr (l := ps.toList) (g := fun zs q => zs.set q.1 (ev env' q.2)) fun q hq z => by rw [hp q hq]]
    rfl
   ·rename_i n e zs _ _
    rw [all_congr (l := ps.toList) (g := fun q => decide (q.1 < n) && sh C C.P.depth e (ev env' q.2)) fun q hq => by rw [hp q hq], foldl_congr (l := ps.toList) (g := fun zs q => zs.set q.1 (ev env' q.2)) fun q hq z => by rw [hp q hq]]
   ·rfl
  ·rfl
 case buildSlice t n ps =>
  have hp := pairs ps (by simpa [Op.operands] using h)
  simp only [opD]
  rw [List.map_congr_left (l := ps.toList) (g := fun q => ev env' q.2) fun q hq => hp q hq]
 case makeFunc f x y =>
  have hx := arr x fun z hz => h z (by simp [Op.operands, hz])
  have hy := arr y fun z hz => h z (by simp [Op.operands, hz])
  cases f <;> simp only [opD]
  rw [hx, hy]
 case slice T x lo hi mx =>
  have hx := h x (by simp [Op.operands])
  have hlo : lo.map (ev env) = lo.map (ev env') := by
   cases lo with
   | none => rfl
   | some z => simp only [Option.map_some]; rw [h z (by simp [Op.operands])]
  have hhi : hi.map (ev env) = hi.map (ev env') := by
   cases hi with
   | none => rfl
   | some z => simp only [Option.map_some]; rw [h z (by simp [Op.operands])]
  cases mx with
  | none => simp only [opD, hx, hlo, hhi]
  | some m =>
   have hm := h m (by simp [Op.operands])
   cases lo <;> cases hi <;> simp only [opD]
   rename_i z
   rw [h z (by simp [Op.operands]), hx, hm]
 case call c =>
  obtain ⟨callee, args, tys⟩ := c
  have hx := arr args fun z hz => h z (by simp [Op.operands, Call.operands, hz])
  cases callee
  case builtin b =>
   cases b <;> simp only [opD]
   case max => rw [hx]
   case min => rw [hx]
   case len =>
    generalize C.und ((tys[0]?).getD C.P.types.size) = d
    generalize args.toList = l at hx
    cases l with
    | nil => cases d with
     | none => rfl
     | some d => cases d <;> rfl
    | cons x l =>
     cases l with
     | nil =>
      simp only [List.map_cons, List.map_nil, List.cons.injEq, and_true] at hx
      cases d with
      | none => rfl
      | some d => cases d <;> dsimp only <;> first | rfl | simp only [hx]
     | cons y l => cases d with
      | none => rfl
      | some d => cases d <;> rfl
   case append => rw [hx]
   case clear => rw [hx]
  all_goals simp only [opD]
 case move x => simp only [opD, h x (by simp [Op.operands])]
 case assign x => simp only [opD, h x (by simp [Op.operands])]
 case box T x => simp only [opD, h x (by simp [Op.operands])]
 case load T x => simp only [opD, h x (by simp [Op.operands])]
 case store T x y => simp only [opD, h x (by simp [Op.operands]), h y (by simp [Op.operands])]
 case nilCheck x => simp only [opD, h x (by simp [Op.operands])]
 case binOp op T x y yT => simp only [opD, h x (by simp [Op.operands]), h y (by simp [Op.operands])]
 case unOp op T x => simp only [opD, h x (by simp [Op.operands])]
 case convert s d x => simp only [opD, h x (by simp [Op.operands])]
 case makeMap T r => cases r <;> simp only [opD]
 case lookup T x ix ok => simp only [opD, h x (by simp [Op.operands]), h ix (by simp [Op.operands])]
 case mapUpdate T x k y => simp only [opD, h x (by simp [Op.operands]), h k (by simp [Op.operands]), h y (by simp [Op.operands])]
 case insert T x k y => simp only [opD, h x (by simp [Op.operands]), h k (by simp [Op.operands]), h y (by simp [Op.operands])]
 case makeSlice T x y => simp only [opD, h x (by simp [Op.operands]), h y (by simp [Op.operands])]
 case fieldAddr s x f => simp only [opD, h x (by simp [Op.operands])]
 case field s x f => simp only [opD, h x (by simp [Op.operands])]
 case indexAddr T x ix => simp only [opD, h x (by simp [Op.operands]), h ix (by simp [Op.operands])]
 case index T x ix => simp only [opD, h x (by simp [Op.operands]), h ix (by simp [Op.operands])]
 case extract x j => simp only [opD, h x (by simp [Op.operands])]
 all_goals simp only [opD]
end
section
variable {C : Cfg} {S : List Blk} {env env' : List AV} {o : Oper} {slot : Nat} {α : Type} {out : α} {call : CallF}
theorem goD_congr {K : KV α} (h : ∀ x ∈ o.op.operands, ev env x = ev env' x) : goD C call o slot env S (fun _ => K) = goD C call o slot env' S (fun _ => K) := by
 unfold goD
 cases hop : o.op
 case pick c x y =>
  rw [hop] at h
  dsimp only
  rw [h c (by simp [Op.operands]), h x (by simp [Op.operands]), h y (by simp [Op.operands])]
 case call c =>
  rw [hop] at h
  obtain ⟨callee, args, tys⟩ := c
  have hx : args.toList.map (ev env) = args.toList.map (ev env') := List.map_congr_left fun x hx => h x (by simp [Op.operands, Call.operands]; exact .inr (by simpa using hx))
  cases callee
  case value f =>
   dsimp only
   rw [h f (by simp [Op.operands, Call.operands]), hx]
  all_goals exact opD_congr h
 all_goals (rw [hop] at h; exact opD_congr h)
theorem stepD_congr {ops : Array Oper} {K : KV α} (h : ∀ t ∈ o.looksAt ops, env.getD t .u = env'.getD t .u) : stepD C call ops.toList o slot env S (fun _ => K) = stepD C call ops.toList o slot env' S (fun _ => K) := by
 have hop : ∀ x ∈ o.op.operands, ev env x = ev env' x := fun x hx => by
  cases x with
  | tmp t => exact h t (List.mem_append_left _ (List.mem_filterMap.2 ⟨.tmp t, by simpa using hx, rfl⟩))
  | _ => rfl
 unfold stepD
 cases hg : o.guard with
 | none => exact goD_congr hop
 | some gp =>
  obtain ⟨g, pol⟩ := gp
  dsimp only
  have he : ev env (guardT ops.toList g) = ev env' (guardT ops.toList g) := by
   unfold guardT
   rw [Array.getElem?_toList]
   cases hog : ops[g]? with
   | none => rfl
   | some og =>
    dsimp only
    cases hd : og.dst with
    | none => rfl
    | some d => exact h d (List.mem_append_right _ (by simp [hg, hog, hd]))
  rw [← he]
  cases ht : ev env (guardT ops.toList g) with
  | b t =>
   dsimp only
   by_cases q : t = pol
   ·subst q
    rw [if_pos rfl, if_pos rfl, setO_same ht, setO_same (he ▸ ht)]
    exact goD_congr hop
   ·rw [if_neg q, if_neg q]
  | t vs => cases vs <;> rfl
  | _ => rfl
theorem passL_lent {C : Cfg} {S : List Blk} : ∀ {ms : List Nat} {Ts : List TypeId} {as : List AV} {x : List AV × List Nat × List Nat}, (ms.all fun m => m == 0 || m == 3) = true → passL C S ms Ts as = some x → x.2.2 = []
 | ms, Ts, [], x, _, h => by
  simp only [passL, Option.some.injEq] at h
  rw [← h]
 | ms, Ts, a :: as, x, hm, h => by
  simp only [passL] at h
  obtain ⟨y, hy, h⟩ := Option.bind_eq_some_iff.mp h
  obtain ⟨z, hz, h⟩ := Option.bind_eq_some_iff.mp h
  simp only [Option.some.injEq] at h
  have h1 := passL_lent (ms := ms.tail) (by
   cases ms with
   | nil => rfl
   | cons m ms => simp only [List.all_cons, Bool.and_eq_true] at hm; exact hm.2) hz
  have hm0 : ms.headD 0 = 0 ∨ ms.headD 0 = 3 := by
   cases ms with
   | nil => exact .inl rfl
   | cons m ms => simp only [List.all_cons, Bool.and_eq_true, Bool.or_eq_true, beq_iff_eq] at hm; exact hm.1
  have h2 : y.2.2 = [] := by
   rcases hm0 with e | e <;> rw [e] at hy <;> simp only [passD] at hy
   ·split at hy <;> try (simp only [Option.some.injEq] at hy; rw [← hy]; done)
    all_goals
     obtain ⟨q, _, hq⟩ := Option.bind_eq_some_iff.mp hy
     simp only [Option.some.injEq] at hq
     rw [← hq]
   ·split at hy <;> try (cases hy; done)
    ·simp only [Option.some.injEq] at hy; rw [← hy]
    ·split at hy <;> try (cases hy; done)
     split at hy <;> try (cases hy; done)
     obtain ⟨_, hy⟩ := ite_some hy
     obtain ⟨q, _, hq⟩ := Option.bind_eq_some_iff.mp hy
     simp only [Option.some.injEq] at hq
     rw [← hq]
    ·split at hy <;> try (cases hy; done)
     split at hy <;> try (cases hy; done)
     obtain ⟨_, hy⟩ := ite_some hy
     simp only [Option.some.injEq] at hy
     rw [← hy]
  rw [← h]
  simp [h1, h2]
theorem tgtL_lent : ∀ {ms : List Nat} {Ts : List TypeId} {as : List AV}, (ms.all fun m => m == 0 || m == 3) = true → tgtL ms Ts as = []
 | ms, Ts, [], _ => rfl
 | ms, Ts, a :: as, hm => by
  have hm0 : ¬ ms.headD 0 = 1 := by
   cases ms with
   | nil => simp
   | cons m ms =>
    simp only [List.all_cons, Bool.and_eq_true, Bool.or_eq_true, beq_iff_eq] at hm
    simp only [List.headD_cons]
    omega
  unfold tgtL
  rw [if_neg hm0]
  exact tgtL_lent (by
   cases ms with
   | nil => rfl
   | cons m ms => simp only [List.all_cons, Bool.and_eq_true] at hm; exact hm.2)
theorem setL_slots : ∀ {Bs : List Blk} {S : List Blk} {slot : Nat}, (setL S slot Bs).length = S.length ∧ ∀ id, (id < slot ∨ slot + Bs.length ≤ id) → (setL S slot Bs).getD id .dead = S.getD id .dead
 | [], S, slot => ⟨rfl, fun _ _ => rfl⟩
 | B :: Bs, S, slot => by
  obtain ⟨h1, h2⟩ := setL_slots (Bs := Bs) (S := S.set slot B) (slot := slot + 1)
  refine ⟨by simpa [setL] using h1, fun id hid => ?_⟩
  simp only [List.length_cons] at hid
  show (setL (S.set slot B) (slot + 1) Bs).getD id .dead = _
  rw [h2 id (by omega), getD_set_ne (by omega)]
theorem putAll_slots {C : Cfg} : ∀ {ps : List (Nat × TypeId × Option Nat)} {o : List AV} {S : List Blk} {slot : Nat}, (∀ q ∈ ps, q.2.2 = none) →
  (putAll C ps o S slot).2.1.length = S.length ∧ slot ≤ (putAll C ps o S slot).2.2 ∧ ∀ id, (id < slot ∨ (putAll C ps o S slot).2.2 ≤ id) → (putAll C ps o S slot).2.1.getD id .dead = S.getD id .dead
 | [], o, S, slot, _ => ⟨rfl, Nat.le_refl _, fun _ _ => rfl⟩
 | (m, T, some id) :: ps, o, S, slot, h => by
  have := h (m, T, some id) (by simp)
  simp at this
 | (m, T, none) :: ps, o, S, slot, h => by
  obtain ⟨h1, h2, h3⟩ := putAll_slots (C := C) (ps := ps) (o := o.tail) (S := setL S slot (lay C m T slot (slot + 1) (o.headD .u)).2) (slot := slot + (lay C m T slot (slot + 1) (o.headD .u)).2.length) fun q hq => h q (by simp [hq])
  simp only [putAll]
  refine ⟨by rw [h1, setL_slots.1], by omega, fun id hid => ?_⟩
  rw [h3 id (by omega), setL_slots.2 id (by omega)]
theorem rmL_none {ms : List Nat} {Ts : List TypeId} : ∀ q ∈ rmL ms Ts, q.2.2 = none := fun q hq => by
 unfold rmL at hq
 obtain ⟨x, _, rfl⟩ := List.mem_map.mp hq
 rfl
theorem clsO_le {o : Oper} (hc : clsO C o ≤ 2) (h : ∀ n args tys, o.op ≠ .call { callee := .value (.func n), args := args, argTypes := tys }) : clsO C o = cls o.op := by
 unfold clsO at hc ⊢
 split
 ·rename_i n args tys hop
  exact absurd hop (h _ _ _)
 ·rename_i T n ps hop
  rw [hop] at hc
  dsimp only at hc
  split at hc
  ·omega
  ·rename_i hr
   rw [if_neg hr, hop]
   rfl
 ·rfl
theorem goD_eff {v : AV} {S' : List Blk} (hc : clsO C o ≤ 2) (h : goD C call o slot env S (fun _ => keepK) = some (v, S', [])) : S'.length = S.length ∧ (clsO C o ≤ 1 → S' = S) ∧ ∀ id, (id < slot ∨ slot + slotsOf o.op ≤ id) → S'.getD id .dead = S.getD id .dead := by
 have plain : (∀ n args tys, o.op ≠ .call { callee := .value (.func n), args := args, argTypes := tys }) → goD C call o slot env S (fun _ => keepK) = opD C S env slot keepK o.op → S'.length = S.length ∧ (clsO C o ≤ 1 → S' = S) ∧ ∀ id, (id < slot ∨ slot + slotsOf o.op ≤ id) → S'.getD id .dead = S.getD id .dead := fun hn hg => by
  have hcl := clsO_le hc hn
  rw [hcl] at hc ⊢
  rw [hg] at h
  by_cases q : cls o.op ≤ 1
  ·have := (cls_still q _ h).1
   dsimp only at this
   rw [this]
   exact ⟨rfl, fun _ => rfl, fun _ _ => rfl⟩
  ·obtain ⟨h1, B, rfl⟩ := cls_slot (by omega) h
   exact ⟨List.length_set .., fun h => absurd h q, fun id hid => by rw [h1] at hid; exact getD_set_ne (by omega)⟩
 cases hop : o.op
 case pick c x y =>
  have hg : goD C call o slot env S (fun _ => keepK) = match ev env c with
   | .b t => if t = true then keepK (ev env x) S [] else keepK (ev env y) S []
   | _ => none := by unfold goD; rw [hop]; rfl
  rw [hg] at h
  split at h <;> try (cases h; done)
  split at h <;> (simp only [Option.some.injEq, Prod.mk.injEq] at h; obtain ⟨_, rfl, _⟩ := h; exact ⟨rfl, fun _ => rfl, fun _ _ => rfl⟩)
 case call c =>
  obtain ⟨callee, args, tys⟩ := c
  cases callee
  case value f =>
   cases f
   case func n =>
    have hg : goD C call o slot env S (fun _ => keepK) = callD C call S slot n ([] ++ args.toList.map (ev env) ++ []) keepK := by unfold goD; rw [hop]; rfl
    rw [hg] at h
    have hcl : clsO C o = match C.P.funcs[n]? with
     | some f => if (C.primS n).isNone = true ∧ (C.ext n).isNone = true ∧ (C.inl n).isNone = true ∧ lends C n f = true then 2 else 3
     | none => 3 := by unfold clsO; rw [hop]; rfl
    rw [hcl] at hc ⊢
    unfold callD at h
    cases hf : C.P.funcs[n]? with
    | none => rw [hf] at hc; simp at hc
    | some f =>
     rw [hf] at hc h
     dsimp only at hc h
     by_cases hlp : (C.primS n).isNone = true ∧ (C.ext n).isNone = true ∧ (C.inl n).isNone = true ∧ lends C n f = true
     ·obtain ⟨hpn, hxn, hin, hle⟩ := hlp
      have hpn' := Option.isNone_iff_eq_none.mp hpn
      have hxn' := Option.isNone_iff_eq_none.mp hxn
      have hin' : ∀ args, inlB C n args = false := fun args => by unfold inlB; rw [Option.isNone_iff_eq_none.mp hin]
      rw [hpn'] at h
      dsimp only at h
      rw [hxn'] at h
      dsimp only at h
      rw [hin', if_neg (by simp)] at h
      split at h <;> try (cases h; done)
      rename_i x hx
      obtain ⟨_, h⟩ := ite_some h
      obtain ⟨r, hr, h⟩ := Option.bind_eq_some_iff.mp h
      obtain ⟨hcc, h⟩ := ite_some h
      have hle' := hle
      unfold lends at hle'
      rw [Bool.and_eq_true] at hle'
      rw [if_pos hle, passL_lent hle'.1 hx, tgtL_lent hle'.1] at h
      rw [passL_lent hle'.1 hx, if_pos hle, tgtL_lent hle'.1] at hcc
      simp only [List.append_nil, kill_nil] at h hcc
      simp only [Option.some.injEq, Prod.mk.injEq] at h
      obtain ⟨_, rfl, _⟩ := h
      dsimp only at hcc ⊢
      obtain ⟨t1, t0, t2⟩ := putAll_slots (C := C) (ps := rmL (C.rm n) f.resultTypes.toList) (o := r) (S := S) (slot := slot) rmL_none
      refine ⟨t1, fun h => by rw [if_pos ⟨hpn, hxn, hin, hle⟩] at h; omega, fun id hid => t2 id ?_⟩
      have e : slotsOf (Op.call { callee := .value (.func n), args := args, argTypes := tys }) = 8 := rfl
      rw [e] at hid
      omega
     ·rw [if_neg hlp] at hc
      omega
   all_goals (unfold clsO at hc; rw [hop] at hc; simp [cls] at hc)
  case builtin b => exact hop ▸ plain (fun n args tys e => by rw [hop] at e; cases e) (by unfold goD; rw [hop])
  case invoke r m => exact hop ▸ plain (fun n args tys e => by rw [hop] at e; cases e) (by unfold goD; rw [hop])
 all_goals exact hop ▸ plain (fun n args tys e => by rw [hop] at e; cases e) (by unfold goD; rw [hop])
theorem stepD_eff {all : List Oper} {v : AV} {S' : List Blk} (hc : clsO C o ≤ 2) (h : stepD C call all o slot env S (fun _ => keepK) = some (v, S', [])) : S'.length = S.length ∧ (clsO C o ≤ 1 → S' = S) ∧ ∀ id, (id < slot ∨ slot + slotsOf o.op ≤ id) → S'.getD id .dead = S.getD id .dead := by
 unfold stepD at h
 split at h
 ·exact goD_eff hc h
 ·split at h <;> try (cases h; done)
  rotate_left
  ·simp only [Option.some.injEq, Prod.mk.injEq] at h
   obtain ⟨_, rfl, _⟩ := h
   exact ⟨rfl, fun _ => rfl, fun _ _ => rfl⟩
  split at h
  ·exact goD_eff hc h
  ·simp only [Option.some.injEq, Prod.mk.injEq] at h
   obtain ⟨_, rfl, _⟩ := h
   exact ⟨rfl, fun _ => rfl, fun _ _ => rfl⟩
end
section
variable {C : Cfg} {α : Type} {out : α} {call : CallF}
def slotAt (L : List Oper) (base i : Nat) : Nat := base + ((L.take i).map fun o => slotsOf o.op).sum
structure Chain (C : Cfg) (call : CallF) (all rest : List Oper) (pl : Plan) (base : Nat) (E : Nat → List AV) (St : Nat → List Blk) (V : Nat → AV) (KS : Nat → List Nat) : Prop where
 step : ∀ i o, rest[i]? = some o → ∃ S', stepD C call all o (slotAt rest base i) (E i) (hideS (pl.getD i (some [], true)).1 (St i)) (fun _ => keepK) = some (V i, S', KS i) ∧ E (i + 1) = putE (E i) o.dst (V i) ∧
  (KS i = [] → St (i + 1) = backS (pl.getD i (some [], true)).1 (St i) S') ∧ (KS i ≠ [] → (∃ l, pl.getD i (some [], true) = (some l, true)) ∧ St (i + 1) = backS (pl.getD i (some [], true)).1 (St i) S')
def openedL (pl : Plan) (St : Nat → List Blk) (KS : Nat → List Nat) (n : Nat) : List (List Blk × List Nat) := (List.range n).filterMap fun i => if KS i = [] then none else some (hideS (pl.getD i (some [], true)).1 (St i), KS i)
def endEnv (op : List (List Blk × List Nat)) (env : List AV) : List AV := match op with
 | [] => env
 | _ => env.map (openL op)
theorem getD_tail (pl : Plan) (i : Nat) (d) : pl.tail.getD i d = pl.getD (i + 1) d := by cases pl <;> rfl
theorem opsD_chain (hu : SNat call) {all : List Oper} {K : X → Option α} : ∀ (rest : List Oper) (pl : Plan) (slot : Nat) (env : List AV) (S : List Blk) (op : List (List Blk × List Nat)), opsD C call all K rest pl slot env S op = some out →
  ∃ E St V KS, E 0 = env ∧ St 0 = S ∧ Chain C call all rest pl slot E St V KS ∧ K ⟨endEnv (op ++ openedL pl St KS rest.length) (E rest.length), St rest.length⟩ = some out
 | [], pl, slot, env, S, op, h => by
  refine ⟨fun _ => env, fun _ => S, fun _ => .u, fun _ => [], rfl, rfl, ⟨fun i o hi => by simp at hi⟩, ?_⟩
  unfold opsD at h
  simp only [openedL, List.length_nil, List.range_zero, List.filterMap_nil, List.append_nil]
  cases op <;> exact h
 | o :: rest, pl, slot, env, S, op, h => by
  unfold opsD at h
  obtain ⟨v, S', ks, hK, hst⟩ := stepD_nat hu h
  have hkeep := hst (fun _ => keepK)
  have main : ∀ (S1 : List Blk) (op1 : List (List Blk × List Nat)), op1 = op ++ (if ks = [] then [] else [(hideS (pl.headD (some [], true)).1 S, ks)]) → (ks = [] → S1 = backS (pl.headD (some [], true)).1 S S') → (ks ≠ [] → (∃ l, pl.headD (some [], true) = (some l, true)) ∧ S1 = backS (pl.headD (some [], true)).1 S S') → opsD C call all K rest pl.tail (slot + slotsOf o.op) (putE env o.dst v) S1 op1 = some out →
    ∃ E St V KS, E 0 = env ∧ St 0 = S ∧ Chain C call all (o :: rest) pl slot E St V KS ∧ K ⟨endEnv (op ++ openedL pl St KS (o :: rest).length) (E (o :: rest).length), St (o :: rest).length⟩ = some out := by
   intro S1 op1 ho h1 h2 hr
   obtain ⟨E, St, V, KS, e1, e2, e3, e4⟩ := opsD_chain hu rest pl.tail _ _ S1 op1 hr
   refine ⟨fun | 0 => env | i + 1 => E i, fun | 0 => S | i + 1 => St i, fun | 0 => v | i + 1 => V i, fun | 0 => ks | i + 1 => KS i, rfl, rfl, ⟨fun i q hi => ?_⟩, ?_⟩
   ·cases i with
    | zero =>
     simp only [List.getElem?_cons_zero, Option.some.injEq] at hi
     subst hi
     have hd : pl.getD 0 (some [], true) = pl.headD (some [], true) := by cases pl <;> rfl
     rw [hd]
     refine ⟨S', by simpa [slotAt] using hkeep, e1, fun hk => e2.trans (h1 hk), fun hk => ⟨(h2 hk).1, e2.trans (h2 hk).2⟩⟩
    | succ i =>
     simp only [List.getElem?_cons_succ] at hi
     obtain ⟨S2, r1, r2, r3, r4⟩ := e3.step i q hi
     rw [getD_tail] at r1 r3 r4
     refine ⟨S2, ?_, r2, r3, r4⟩
     have : slotAt (o :: rest) slot (i + 1) = slotAt rest (slot + slotsOf o.op) i := by
      simp only [slotAt, List.take_succ_cons, List.map_cons, List.sum_cons]
      omega
     rw [this]
     exact r1
   ·have hd0 : pl.getD 0 (some [], true) = pl.headD (some [], true) := by cases pl <;> rfl
    have : openedL pl (fun | 0 => S | i + 1 => St i) (fun | 0 => ks | i + 1 => KS i) (rest.length + 1) = (if ks = [] then [] else [(hideS (pl.headD (some [], true)).1 S, ks)]) ++ openedL pl.tail St KS rest.length := by
     simp only [openedL, List.range_succ_eq_map, List.filterMap_cons, List.filterMap_map, getD_tail]
     by_cases hk : ks = []
     ·rw [if_pos hk, if_pos hk]; rfl
     ·rw [if_neg hk, if_neg hk, hd0]; rfl
    rw [List.length_cons, this, ← List.append_assoc, ← ho]
    exact e4
  cases ks with
  | nil => exact main _ op (by simp) (fun _ => rfl) (fun h => absurd rfl h) hK
  | cons k ks =>
   dsimp only at hK
   split at hK
   ·rename_i hp
    exact main _ _ (by rw [hp]; simp) (fun h => by cases h) (fun _ => ⟨⟨_, hp⟩, by rw [hp]⟩) hK
   ·cases hK
end
section
variable {C : Cfg}
theorem mem_addAll {x : Nat} : ∀ {b a : List Nat}, x ∈ addAll a b → x ∈ a ∨ x ∈ b
 | [], a, h => .inl h
 | y :: b, a, h => by
  unfold addAll at h
  split at h
  ·rcases mem_addAll h with h | h
   ·exact .inl h
   ·exact .inr (by simp [h])
  ·rcases mem_addAll h with h | h
   ·rcases List.mem_append.mp h with h | h
    ·exact .inl h
    ·exact .inr (by simp at h; simp [h])
   ·exact .inr (by simp [h])
def ancF (acc : List (List Nat)) (o : Oper) : List Nat := o.after.toList.foldl (fun s e => if Region.binds .any e = true then addAll (addAll s [e.on]) (acc.getD e.on []) else s) []
theorem mem_ancF {acc : List (List Nat)} {o : Oper} {x : Nat} (h : x ∈ ancF acc o) : ∃ e ∈ o.after.toList, Region.binds .any e = true ∧ (x = e.on ∨ x ∈ acc.getD e.on []) := by
 unfold ancF at h
 have key : ∀ (es : List Edge) (s : List Nat), x ∈ es.foldl (fun s e => if Region.binds .any e = true then addAll (addAll s [e.on]) (acc.getD e.on []) else s) s → x ∈ s ∨ ∃ e ∈ es, Region.binds .any e = true ∧ (x = e.on ∨ x ∈ acc.getD e.on []) := by
  intro es
  induction es with
  | nil => exact fun s h => .inl h
  | cons e es ih =>
   intro s h
   simp only [List.foldl_cons] at h
   rcases ih _ h with h | ⟨e', h1, h2⟩
   ·split at h
    ·rename_i hb
     rcases mem_addAll h with h | h
     ·rcases mem_addAll h with h | h
      ·exact .inl h
      ·exact .inr ⟨e, by simp, hb, .inl (by simpa using h)⟩
     ·exact .inr ⟨e, by simp, hb, .inr h⟩
    ·exact .inl h
   ·exact .inr ⟨e', by simp [h1], h2⟩
 rcases key _ _ h with h | h
 ·simp at h
 ·exact h
theorem ancs_pre : ∀ (rest : List Oper) (acc : List (List Nat)) (i : Nat), i < acc.length → (ancs rest acc).getD i [] = acc.getD i []
 | [], acc, i, _ => rfl
 | o :: rest, acc, i, h => by
  unfold ancs
  rw [ancs_pre rest _ i (by simp; omega)]
  simp only [List.getD_eq_getElem?_getD]
  rw [List.getElem?_append_left h]
theorem ancs_at : ∀ (rest : List Oper) (acc : List (List Nat)) (i : Nat) (o : Oper), rest[i]? = some o → ∃ acc', (ancs rest acc).getD (acc.length + i) [] = ancF acc' o ∧ ∀ k x, x ∈ acc'.getD k [] → x ∈ (ancs rest acc).getD k []
 | [], acc, i, o, h => by simp at h
 | q :: rest, acc, i, o, h => by
  unfold ancs
  cases i with
  | zero =>
   simp only [List.getElem?_cons_zero, Option.some.injEq] at h
   subst h
   refine ⟨acc, ?_, fun k x hx => ?_⟩
   ·rw [ancs_pre _ _ _ (by simp)]
    simp only [Nat.add_zero, List.getD_eq_getElem?_getD]
    rw [List.getElem?_append_right (Nat.le_refl _), Nat.sub_self]
    rfl
   ·by_cases hk : k < acc.length
    ·rw [ancs_pre _ _ _ (by simp; omega)]
     simp only [List.getD_eq_getElem?_getD] at hx ⊢
     rw [List.getElem?_append_left hk]
     exact hx
    ·rw [List.getD_eq_getElem?_getD, List.getElem?_eq_none (by omega)] at hx
     simp at hx
  | succ i =>
   simp only [List.getElem?_cons_succ] at h
   obtain ⟨acc', h1, h2⟩ := ancs_at rest (acc ++ [ancF acc q]) i o h
   simp only [List.length_append, List.length_cons, List.length_nil] at h1
   rw [show acc.length + (0 + 1) + i = acc.length + (i + 1) by omega] at h1
   exact ⟨acc', h1, h2⟩
def anc (L : List Oper) (i : Nat) : List Nat := (ancs L []).getD i []
theorem anc_mem {L : List Oper} {i : Nat} {o : Oper} (hi : L[i]? = some o) {x : Nat} (h : x ∈ anc L i) : ∃ e ∈ o.after.toList, Region.binds .any e = true ∧ (x = e.on ∨ x ∈ anc L e.on) := by
 obtain ⟨acc', h1, h2⟩ := ancs_at L [] i o hi
 simp only [List.length_nil, Nat.zero_add] at h1
 unfold anc at h
 rw [h1] at h
 obtain ⟨e, h3, h4, h5⟩ := mem_ancF h
 exact ⟨e, h3, h4, h5.imp id (h2 _ _)⟩
structure Draw (C : Cfg) (L : List Oper) : Prop where
 back : ∀ i o e, L[i]? = some o → e ∈ o.after.toList → Region.binds .any e = true → e.on < i
 pair : ∀ i j oi oj, j < i → L[i]? = some oi → L[j]? = some oj → j ∈ anc L i ∨ ((clsO C oi ≠ 3 ∨ clsO C oj ≤ 2) ∧ (clsO C oj ≠ 3 ∨ clsO C oi ≤ 2) ∧ oi.apart L.toArray oj = true)
theorem draw_of {L : List Oper} (h : drawOk C L = true) : Draw C L := by
 unfold drawOk at h
 dsimp only at h
 rw [List.all_eq_true] at h
 have at_ : ∀ i o, L[i]? = some o → _ := fun i o hi => h (o, i) (by
  rw [List.mem_iff_getElem?]
  exact ⟨i, by rw [List.getElem?_zipIdx, hi]; simp⟩)
 refine ⟨fun i o e hi he hb => ?_, fun i j oi oj hj hi hoj => ?_⟩
 ·have := at_ i o hi
  rw [Bool.and_eq_true, List.all_eq_true] at this
  have := this.1 e he
  simpa [hb] using this
 ·have := at_ i oi hi
  rw [Bool.and_eq_true] at this
  have := List.all_eq_true.mp this.2 (oj, j) (by
   rw [List.mem_iff_getElem?]
   refine ⟨j, ?_⟩
   rw [List.getElem?_zipIdx, List.getElem?_take, if_pos hj, hoj]
   simp)
  simp only [Bool.or_eq_true, Bool.and_eq_true, bne_iff_ne, ne_eq, beq_iff_eq, List.contains_iff_mem, decide_eq_true_eq] at this
  rcases this with this | ⟨⟨h1, h2⟩, h3⟩
  ·exact .inl this
  ·exact .inr ⟨h1, h2, h3⟩
theorem anc_lt {L : List Oper} (hd : Draw C L) : ∀ (i : Nat) (o : Oper), L[i]? = some o → ∀ x ∈ anc L i, x < i := by
 intro i
 induction i using Nat.strongRecOn with
 | ind i ih =>
  intro o hi x hx
  obtain ⟨e, h1, h2, h3⟩ := anc_mem hi hx
  have hlt := hd.back i o e hi h1 h2
  rcases h3 with rfl | h3
  ·exact hlt
  ·obtain ⟨oe, hoe⟩ := getElem?_of_lt (l := L) (j := e.on) (by have := getElem?_lt hi; omega)
   have := ih e.on hlt oe hoe x h3
   omega
theorem anc_in {L : List Oper} (hd : Draw C L) {D : Nat → Prop} (hD : ∀ i o, D i → L[i]? = some o → ∀ e ∈ o.after.toList, Region.binds .any e = true → D e.on) : ∀ (i : Nat) (o : Oper), L[i]? = some o → (∀ e ∈ o.after.toList, Region.binds .any e = true → D e.on) → ∀ x ∈ anc L i, D x := by
 intro i
 induction i using Nat.strongRecOn with
 | ind i ih =>
  intro o hi he x hx
  obtain ⟨e, h1, h2, h3⟩ := anc_mem hi hx
  have hDe := he e h1 h2
  rcases h3 with rfl | h3
  ·exact hDe
  ·have hlt := hd.back i o e hi h1 h2
   obtain ⟨oe, hoe⟩ := getElem?_of_lt (l := L) (j := e.on) (by have := getElem?_lt hi; omega)
   exact ih e.on hlt oe hoe (hD e.on oe hDe hoe) x h3
theorem cls0_slots {o : Oper} (h : clsO C o ≤ 1) : slotsOf o.op = 0 := by
 unfold clsO at h
 split at h
 ·split at h
  ·split at h <;> omega
  ·omega
 ·split at h <;> omega
 ·revert h
  generalize o.op = op
  intro h
  cases op <;> try rfl
  all_goals try (simp [cls] at h; done)
  rename_i c
  obtain ⟨callee, args, tys⟩ := c
  cases callee <;> try (simp [cls] at h; done)
  rename_i b
  cases b <;> first | rfl | (simp [cls] at h; done)
end
end Go.Proofs.YteklakapimggeaaGreatDoor.Den
