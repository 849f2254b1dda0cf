/- Proved here: a part of the evaluator for the model's functions, and that a call does what it says; the parts are told one by one. No condition. -/
import Derived.Test.YtfnepeilccainaaKb
/- Proved here: values built of parts, new slices do what the evaluator says. Its condition: the program's type table is laid as the check 'layB' tells. -/
namespace Go.Proofs.Ytfnepeilccainaa.Den
open Go
set_option linter.unusedVariables false
set_option linter.unusedSimpArgs false
section
variable {C : Cfg}
variable {F : Nat → Prop} {σ : Sig} {S : List Blk} {w : World} {env : List AV} {a : Act} {o : Oper} {slot : Nat} {α : Type} {K : KV α} {out : α}
/-- A new row, of the frame's own. -/
theorem ok_newRow (hl : layB C = true) (hs : Sim C F σ S w) (hsl : Slot σ S slot) (hn : slotsOf o.op = 1) (ks : List Nat) {e : TypeId} {xs : List AV} {css : List (List Value)} (hcn : css.length = xs.length) (hx : ∀ (j : Nat) y c, xs[j]? = some y → css[j]? = some c → Wt C e y ∧ R C w (more F σ S ks) noSig y c ∧ c.length = C.sz e) {nc : Nat} {cur : Array Value} (hsz : cur.size = nc * C.sz e) (hnc : xs.length ≤ nc) (hcur : ∃ rest, cur.toList = css.flatten ++ rest)
    (hrun : (execOp a.eval o).run C.P w = .ok (.value (.slice (some ⟨w.heap.size, 0, none⟩) xs.length nc)) (w.alloc (.cells cur e))) :
    OpOk C o F σ S w a slot (.w e slot) ((kill ks S).set slot (.arr e xs)) ks := by
  obtain ⟨s1, t1⟩ := hs.open_ ks
  have hdead : (kill ks S).getD slot .dead = .dead := by rw [getD_kill, hsl.dead]; split <;> rfl
  have hF : ∀ b, more F σ S ks b → (w.alloc (.cells cur e)).heap[b]? = w.heap[b]? := fun b hb => alloc_keep w _ (s1.fin b hb)
  have hA := rows_arr hcn hx hl hF (alloc_heap w (.cells cur e)) hsz hnc hcur
  obtain ⟨s2, t2⟩ := s1.alloc (by rw [kill_length]; exact hsl.lt) hdead hsl.no (.cells cur e) (.arr e xs) (.arr w.heap.size 0 xs.length nc e) rfl ⟨rfl, rfl, hA⟩
  refine ⟨_, _, more F σ S ks, _, .inl hrun, s2, t1.trans t2, put_ext hsl.no, fun id hid b hlv hb => ⟨.inr ⟨id, hid, hlv, hb⟩, alloc_keep w _ (hs.lt hlv hb)⟩, .one (by simp) (.w put_self hnc (Nat.le_refl _)), by rw [List.length_set, kill_length], fun j hj q1 q2 => ?_⟩
  rw [hn] at hj
  rw [getD_set_ne (by omega), put_ne (by omega), getD_kill, q1]
  exact ⟨by split <;> rfl, q2⟩
theorem ok_makeSlice (hl : layB C = true) {T : TypeId} {len cap : Operand} (hs : Sim C F σ S w) (he : EnvR C w F σ env a.tmps) (hsl : Slot σ S slot) (ho : o.op = .makeSlice T len cap) (h : opD C S env slot K o.op = some out) : ∃ v S' ks, K v S' ks = some out ∧ OpOk C o F σ S w a slot v S' ks := by
  have hn : slotsOf o.op = 1 := by rw [ho]; rfl
  rw [ho] at h
  simp only [opD] at h
  have hlen := ev_ok he len
  have hcap := ev_ok he cap
  split at h <;> try (cases h; done)
  rename_i e k1 n k2 c hu e1 e2
  rw [e1] at hlen
  rw [e2] at hcap
  obtain ⟨⟨hz, hby⟩, h1⟩ := ite_some h
  split at h1 <;> try (cases h1; done)
  rename_i z hf
  obtain ⟨⟨h0, hnc, hc⟩, hK⟩ := ite_some h1
  obtain ⟨i, zv, hi, hz0, hz1, hz2, hz3⟩ := zck_info hz
  have hr0 := (hz2 w F σ).cells hz1
  obtain ⟨f1, f2⟩ := fz_more hl hs hf hr0
  have hsi : i.size = C.sz e := by
    obtain ⟨d, hd⟩ := sh_und hz1
    have := sz_info hd
    rw [hi] at this
    simpa using this
  have hzl : zv.cells.size = C.sz e := by
    have := sh_len hl hz1 hr0
    simpa using this
  have hbi : i.bytes ≤ 65536 := by
    unfold Program.bytesOf at hby
    rw [hi] at hby
    exact hby
  have hb2 : (i.bytes : Int) * c ≤ 281474976710656 := by
    have : (i.bytes : Int) * c ≤ 65536 * 16777216 := Int.mul_le_mul (by omega) hc (by omega) (by omega)
    omega
  have hrun := run_make (P := C.P) w T e i zv (und_P hu) hi hz0 k1 k2 n c h0 hnc hb2 (by omega)
  rw [hsi, ← hzl, made_flat] at hrun
  have hK' : K (.w e slot) ((kill [] S).set slot (.arr e (List.replicate n.toNat z))) [] = some out := by rw [kill_nil]; exact hK
  refine ⟨_, _, _, hK', ok_newRow hl hs hsl hn [] (css := List.replicate n.toNat zv.cells.toList) (by simp) (fun j y c' hy hc' => ?_) (nc := c.toNat) (cur := (List.replicate c.toNat zv.cells.toList).flatten.toArray) ?_ (by simp; omega) ⟨(List.replicate (c.toNat - n.toNat) zv.cells.toList).flatten, ?_⟩ ?_⟩
  · rw [List.getElem?_replicate] at hy hc'
    split at hy <;> try (cases hy; done)
    rename_i hj
    rw [if_pos hj] at hc'
    obtain rfl := Option.some.inj hy
    obtain rfl := Option.some.inj hc'
    exact ⟨f1, f2, by simpa using hzl⟩
  · simp [hzl]
  · rw [← List.flatten_append, List.replicate_append_replicate, show n.toNat + (c.toNat - n.toNat) = c.toNat by omega]
  · simp [execOp, ho, hlen.i_inv, hcap.i_inv, Sem.run_bind, hrun, pure, Sem.run]
theorem VR.data {d : Nat} {T : TypeId} {x y : AV} {ks : List Nat} {v : Value} (h : VR C w F σ x v) (hf : fz C S d T x = some (y, ks)) : R C w F σ x v.cells.toList := by
  cases h with
  | u => cases d <;> simp [fz] at hf
  | t => cases d <;> simp [fz] at hf
  | agg h => exact h
  | one h1 h2 =>
    have := h2.plain v (by simp)
    have e : v.cells = #[v] := by cases v <;> simp_all [Value.cells, Value.oneCell']
    rw [e]
    exact h2
theorem fzL_at {f : TypeId → AV → Option (AV × List Nat)} {Ts : List TypeId} {as xs : List AV} {ks : List Nat} (h : fzL f Ts as = some (xs, ks)) : as.length = Ts.length ∧ xs.length = Ts.length ∧ ∀ (j : Nat) T a x, Ts[j]? = some T → as[j]? = some a → xs[j]? = some x → ∃ ks', (∀ id ∈ ks', id ∈ ks) ∧ f T a = some (x, ks') :=
  fzL_sound (Q := fun T a x ks => f T a = some (x, ks)) (fun _ _ _ _ h => h) Ts as xs ks h
theorem ok_buildSlice (hl : layB C = true) {T : TypeId} {len : Nat} {parts : Array (Nat × Operand)} (hs : Sim C F σ S w) (he : EnvR C w F σ env a.tmps) (hsl : Slot σ S slot) (ho : o.op = .buildSlice T len parts) (h : opD C S env slot K o.op = some out) : ∃ v S' ks, K v S' ks = some out ∧ OpOk C o F σ S w a slot v S' ks := by
  have hn : slotsOf o.op = 1 := by rw [ho]; rfl
  rw [ho] at h
  simp only [opD] at h
  split at h <;> try (cases h; done)
  rename_i e hu
  obtain ⟨⟨hz, hsm, hix⟩, h1⟩ := ite_some h
  split at h1 <;> try (cases h1; done)
  rename_i z x hf hx
  obtain ⟨xs, ks⟩ := x
  dsimp only at h1
  obtain ⟨i, zv, hi, hz0, hz1, hz2, hz3⟩ := zck_info hz
  have hr0 := (hz2 w F σ).cells hz1
  obtain ⟨f1, f2⟩ := fz_more hl hs hf hr0
  rw [more_nil] at f2
  have hsi : i.size = C.sz e := by
    obtain ⟨d, hd⟩ := sh_und hz1
    have := sz_info hd
    rw [hi] at this
    simpa using this
  have hzl : zv.cells.size = C.sz e := by
    have := sh_len hl hz1 hr0
    simpa using this
  obtain ⟨g1, g2, g3⟩ := fzL_at hx
  simp only [List.length_map] at g1 g2
  have hxs : ∀ (j : Nat) q y, parts.toList[j]? = some q → xs[j]? = some y → Wt C e y ∧ R C w (more F σ S ks) noSig y (a.eval q.2).cells.toList ∧ (a.eval q.2).cells.size = C.sz e := by
    intro j q y hq hy
    obtain ⟨ks', k1, k2⟩ := g3 j e (ev env q.2) y (by rw [List.getElem?_map, hq]; rfl) (by rw [List.getElem?_map, hq]; rfl) hy
    have hlv := fz_live _ _ _ _ _ k2
    have hv := ev_ok he q.2
    have hvr : R C w F σ (ev env q.2) (a.eval q.2).cells.toList := hv.data k2
    obtain ⟨q1, q2, q3⟩ := fz_sound hl hs (F' := more F σ S ks) (fun _ h => .inl h) _ e _ y ks' k2 _ (fun id hid b hb => .inr ⟨id, k1 id hid, hlv id hid, hb⟩) hvr
    exact ⟨⟨q1, q2⟩, q3, by have := sh_len hl q1 q3; simpa using this⟩
  have hfill := fill_R (szs := List.replicate len (C.sz e)) (place := fun i => some (i * C.sz e, C.sz e)) (fun i n hin => by
      rw [List.getElem?_replicate] at hin
      split at hin <;> try (cases hin; done)
      rename_i hlt
      obtain rfl := Option.some.inj hin
      rw [List.take_replicate, Nat.min_eq_left (by omega), List.sum_replicate_nat])
    (Q := fun y c => Wt C e y ∧ R C w (more F σ S ks) noSig y c) ((parts.toList.zip xs).map fun q => (q.1.1, q.2, a.eval q.1.2)) (List.replicate len z) (List.replicate len zv.cells.toList) (by simp) (by simp) (fun j c n hc hn => by
      rw [List.getElem?_replicate] at hc hn
      split at hc <;> try (cases hc; done)
      rename_i hlt
      rw [if_pos hlt] at hn
      obtain rfl := Option.some.inj hc
      obtain rfl := Option.some.inj hn
      simpa using hzl) (fun j y c hy hc => by
      rw [List.getElem?_replicate] at hc hy
      split at hc <;> try (cases hc; done)
      rename_i hlt
      rw [if_pos hlt] at hy
      obtain rfl := Option.some.inj hc
      obtain rfl := Option.some.inj hy
      exact ⟨f1, f2.keepF fun _ h => .inl h⟩) (fun q hq => by
      obtain ⟨p, hp, rfl⟩ := List.mem_map.mp hq
      obtain ⟨j, hj⟩ := List.getElem?_of_mem hp
      rw [List.getElem?_zip_eq_some] at hj
      obtain ⟨r1, r2, r3⟩ := hxs j p.1 p.2 hj.1 hj.2
      have := List.all_eq_true.mp hix p.1 (List.mem_of_getElem? hj.1)
      refine ⟨C.sz e, ?_, r3, r1, r2⟩
      rw [List.getElem?_replicate, if_pos (by simpa using this)])
  obtain ⟨css', r1, r2, r3, r4, r5⟩ := hfill
  have hparts : ((parts.toList.zip xs).map fun q => (q.1.1, q.2, a.eval q.1.2)).map (fun q => (q.1, q.2.2)) = (parts.map fun (i, x) => (i, a.eval x)).toList := by
    rw [List.map_map, Array.toList_map]
    apply List.ext_getElem?
    intro j
    rw [List.getElem?_map, List.getElem?_map]
    cases hq : parts.toList[j]? with
    | none =>
      have : (parts.toList.zip xs)[j]? = none := by
        rw [List.getElem?_eq_none_iff] at hq ⊢
        rw [List.length_zip]
        omega
      rw [this]; rfl
    | some q =>
      obtain ⟨y, hy⟩ := getElem?_of_lt (l := xs) (j := j) (by have := getElem?_lt hq; simp at g2 g1; simp at this; omega)
      have : (parts.toList.zip xs)[j]? = some (q, y) := by rw [List.getElem?_zip_eq_some]; exact ⟨hq, hy⟩
      rw [this]; rfl
  rw [hparts] at r1
  rw [List.foldl_map] at r3 r5
  dsimp only at r3 r5
  simp only [List.length_replicate] at r2 r3
  have hclen : css'.flatten.length = len * C.sz e := by
    rw [(flat_at css' (List.replicate len (C.sz e)) (by simpa using r2) r4).1, List.sum_replicate_nat]
  have hrun : (Instr.buildSlice T len (parts.map fun (i, x) => (i, a.eval x))).run C.P w = .ok (.slice (some ⟨w.heap.size, 0, none⟩) len len) (w.alloc (.cells css'.flatten.toArray e)) := by
    have hmk : (Array.range (len * C.sz e)).map (zv.cells[· % zv.cells.size]!) = (List.replicate len zv.cells.toList).flatten.toArray := by
      rw [← made_flat, hzl, madeCells, hzl]
    by_cases h0 : len * C.sz e = 0
    · rw [h0] at hmk
      have hmk0 : (List.replicate len zv.cells.toList).flatten.toArray = #[] := by rw [← hmk]; simp
      rw [hmk0] at r1
      rw [Array.toList_map] at r1
      simp [Instr.buildSlice, run_underlying (und_P hu), sizeOf, typeInfo, hi, hsi, h0, newRow]
      rw [show (Array.range 0) = #[] from rfl]
      simp [r1]
    · exact run_buildSlice w T e len _ _ i zv (und_P hu) hi hz0 (by rw [hsi]; show ¬ len * C.P.cellsOf e > 2 ^ 24; omega) (by rw [hsi]; exact h0) (by rw [hsi, hmk]; exact r1)
  refine ⟨_, _, _, h1, ok_newRow hl hs hsl hn ks (css := css') (by rw [r2, r3]) (fun j y c hy hc => ?_) (nc := len) (cur := css'.flatten.toArray) (by simpa using hclen) (by omega) ⟨[], by simp⟩ ?_⟩
  · obtain ⟨q1, q2⟩ := r5 j y c hy hc
    refine ⟨q1, q2, r4 j c (C.sz e) hc ?_⟩
    have := getElem?_lt hc
    rw [List.getElem?_replicate, if_pos (by omega)]
  · rw [r3]
    simp [execOp, ho, Sem.run_bind, hrun, pure, Sem.run]
end
end Go.Proofs.Ytfnepeilccainaa.Den

/- Proved here: structs and arrays built of parts; every operation of the evaluator, in one. Its condition: the program's type table is laid as the check 'layB' tells. -/
namespace Go.Proofs.Ytfnepeilccainaa.Den
open Go
set_option linter.unusedVariables false
set_option linter.unusedSimpArgs false
section
variable {C : Cfg}
variable {F : Nat → Prop} {σ : Sig} {S : List Blk} {w : World} {env : List AV} {a : Act} {o : Oper} {slot : Nat} {α : Type} {K : KV α} {out : α}
theorem mapM_places : ∀ fs : List Field, (∀ f ∈ fs, ∃ d, C.und f.type = some d) → fs.mapM (fun f => (C.P.info? f.type).map fun i => (f.offset, i.size)) = some (fs.map fun f => (f.offset, C.sz f.type))
  | [], _ => by simp
  | f :: fs, h => by
    obtain ⟨d, hd⟩ := h f (by simp)
    have hi := sz_info hd
    obtain ⟨i, hq⟩ : ∃ i, C.P.info? f.type = some i := by
      cases hq : C.P.info? f.type with
      | none => rw [hq] at hi; cases hi
      | some i => exact ⟨i, rfl⟩
    rw [hq] at hi
    simp only [Option.map_some, Option.some.injEq] at hi
    simp [List.mapM_cons, mapM_places fs fun g hg => h g (by simp [hg]), hq, hi]
theorem parts_map (parts : Array (Nat × Operand)) (env : List AV) (a : Act) : (parts.toList.map fun q => (q.1, ev env q.2, a.eval q.2)).map (fun q : Nat × AV × Value => (q.1, q.2.2)) = (parts.map fun (i, x) => (i, a.eval x)).toList := by
  rw [List.map_map, Array.toList_map]
  rfl
theorem ok_build (hl : layB C = true) {T : TypeId} {parts : Array (Nat × Operand)} (hs : Sim C F σ S w) (he : EnvR C w F σ env a.tmps) (ho : o.op = .build T parts) (h : opD C S env slot K o.op = some out) : ∃ v S' ks, K v S' ks = some out ∧ OpOk C o F σ S w a slot v S' ks := by
  rw [ho] at h
  simp only [opD] at h
  obtain ⟨hz, h1⟩ := ite_some h
  obtain ⟨i, zv, hi, hz0, hz1, hz2, hz3⟩ := zck_info hz
  have hr0 := (hz2 w F σ).cells hz1
  have part : ∀ {f : TypeId} (q : Nat × Operand), sh C C.P.depth f (ev env q.2) = true → R C w F σ (ev env q.2) (a.eval q.2).cells.toList ∧ (a.eval q.2).cells.size = C.sz f := fun q hq => by
    have hsh := sh_of hq
    have := (ev_ok he q.2).cells hsh
    exact ⟨this, by have := sh_len hl hsh this; simpa using this⟩
  split at h1 <;> try (cases h1; done)
  · rename_i fs zs hu hzz
    obtain ⟨hall, hK⟩ := ite_some h1
    rw [hzz] at hr0 hz1
    cases hz1 with
    | ga hu' => rw [hu] at hu'; simp at hu'
    | g hu' hn hf =>
      rw [hu] at hu'
      obtain rfl := TypeDesc.struct.inj (Option.some.inj hu')
      obtain ⟨l1, l2⟩ := lay_struct hl hu
      generalize hzc : zv.cells.toList = zc at hr0
      cases hr0 with
      | g css c1 c2 =>
        have hszs : (fs.toList.map fun f => C.sz f.type).length = fs.size := by simp
        have hfill := fill_R (szs := fs.toList.map fun f => C.sz f.type) (place := ((fs.toList.map fun f => (f.offset, C.sz f.type)).toArray[·]?)) (fun j n hj => by
            rw [List.getElem?_map] at hj
            obtain ⟨f, hf', rfl⟩ := Option.map_eq_some_iff.mp hj
            have := l2 j f (by rw [← Array.getElem?_toList]; exact hf')
            simp only [List.getElem?_toArray, List.getElem?_map, hf', Option.map_some]
            rw [this, List.map_take])
          (Q := fun y c => R C w F σ y c) (parts.toList.map fun q => (q.1, ev env q.2, a.eval q.2)) zs css (by rw [c1, hszs, hn]) (by rw [hszs, hn]) (fun j c n hc hj => by
            rw [List.getElem?_map] at hj
            obtain ⟨f, hf', rfl⟩ := Option.map_eq_some_iff.mp hj
            obtain ⟨z, hz⟩ := getElem?_of_lt (l := zs) (j := j) (by have := getElem?_lt hc; omega)
            exact sh_len hl (hf j f z (by rw [← Array.getElem?_toList]; exact hf') hz) (c2 j z c hz hc)) c2 (fun q hq => by
            obtain ⟨p, hp, rfl⟩ := List.mem_map.mp hq
            have := List.all_eq_true.mp hall p hp
            split at this
            · rename_i f hf'
              obtain ⟨r1, r2⟩ := part p this
              exact ⟨C.sz f.type, by rw [List.getElem?_map, Array.getElem?_toList, hf']; rfl, r2, r1⟩
            · cases this)
        obtain ⟨css', r1, r2, r3, r4, r5⟩ := hfill
        rw [parts_map] at r1
        rw [List.foldl_map] at r3 r5
        dsimp only at r3 r5
        have hb : C.P.built T (parts.map fun (i, x) => (i, a.eval x)).toList = some css'.flatten.toArray := by
          unfold Program.built
          rw [hi, und_P hu]
          dsimp only
          rw [hz0, mapM_places fs.toList fun f hf' => by
            obtain ⟨j, hj⟩ := List.getElem?_of_mem hf'
            obtain ⟨z, hz⟩ := getElem?_of_lt (l := zs) (j := j) (by have := getElem?_lt hj; simp at this; omega)
            exact sh_und (hf j f z (by rw [← Array.getElem?_toList]; exact hj) hz)]
          dsimp only
          rw [show zv.cells = css.flatten.toArray by rw [← hzc]]
          exact r1
        have hrun := run_build w T _ _ hb
        refine ⟨_, _, _, hK, OpOk.still hs (val := .agg css'.flatten.toArray) (by simp [execOp, ho, Sem.run_bind, hrun, pure, Sem.run]) (.agg (.g css' (by rw [r2, r3]) r5))⟩
  · rename_i n e zs hu hzz
    obtain ⟨⟨hde, hall⟩, hK⟩ := ite_some h1
    obtain ⟨d, hd⟩ := Option.isSome_iff_exists.mp hde
    rw [hzz] at hr0 hz1
    cases hz1 with
    | g hu' => rw [hu] at hu'; simp at hu'
    | ga hu' hn hf =>
      rw [hu] at hu'
      simp only [Option.some.injEq, TypeDesc.array.injEq] at hu'
      obtain ⟨rfl, rfl⟩ := hu'
      generalize hzc : zv.cells.toList = zc at hr0
      cases hr0 with
      | g css c1 c2 =>
        have hze : ∃ ie, C.P.info? e = some ie ∧ ie.size = C.sz e := by
          have hi := sz_info hd
          cases hq : C.P.info? e with
          | none => rw [hq] at hi; cases hi
          | some i => rw [hq] at hi; exact ⟨i, rfl, by simpa using hi⟩
        obtain ⟨ie, hie, hise⟩ := hze
        have hfill := fill_R (szs := List.replicate n (C.sz e)) (place := fun i => some (i * C.sz e, C.sz e)) (fun i m hin => by
            rw [List.getElem?_replicate] at hin
            split at hin <;> try (cases hin; done)
            rename_i hlt
            obtain rfl := Option.some.inj hin
            rw [List.take_replicate, Nat.min_eq_left (by omega), List.sum_replicate_nat])
          (Q := fun y c => R C w F σ y c) (parts.toList.map fun q => (q.1, ev env q.2, a.eval q.2)) zs css (by simp [c1, hn]) (by simp [hn]) (fun j c m hc hj => by
            rw [List.getElem?_replicate] at hj
            split at hj <;> try (cases hj; done)
            obtain rfl := Option.some.inj hj
            obtain ⟨z, hz⟩ := getElem?_of_lt (l := zs) (j := j) (by omega)
            exact sh_len hl (hf j z hz) (c2 j z c hz hc)) c2 (fun q hq => by
            obtain ⟨p, hp, rfl⟩ := List.mem_map.mp hq
            have := List.all_eq_true.mp hall p hp
            simp only [Bool.and_eq_true, decide_eq_true_eq] at this
            obtain ⟨r1, r2⟩ := part p this.2
            exact ⟨C.sz e, by rw [List.getElem?_replicate, if_pos this.1], r2, r1⟩)
        obtain ⟨css', r1, r2, r3, r4, r5⟩ := hfill
        rw [parts_map] at r1
        rw [List.foldl_map] at r3 r5
        dsimp only at r3 r5
        have hb : C.P.built T (parts.map fun (i, x) => (i, a.eval x)).toList = some css'.flatten.toArray := by
          unfold Program.built
          rw [hi, und_P hu]
          dsimp only
          rw [hz0, hie]
          dsimp only
          rw [show zv.cells = css.flatten.toArray by rw [← hzc], hise]
          exact r1
        have hrun := run_build w T _ _ hb
        refine ⟨_, _, _, hK, OpOk.still hs (val := .agg css'.flatten.toArray) (by simp [execOp, ho, Sem.run_bind, hrun, pure, Sem.run]) (.agg (.g css' (by rw [r2, r3]) r5))⟩
/-- Every operation that the evaluator knows. -/
theorem opD_ok (hl : layB C = true) (hs : Sim C F σ S w) (he : EnvR C w F σ env a.tmps) (hsl : ∀ j, slot ≤ j → j < slot + slotsOf o.op → Slot σ S j) (h : opD C S env slot K o.op = some out) : ∃ v S' ks, K v S' ks = some out ∧ OpOk C o F σ S w a slot v S' ks := by
  have sl : slotsOf o.op = 1 → Slot σ S slot := fun q => hsl slot (Nat.le_refl _) (by omega)
  generalize ho : o.op = op at h sl
  cases op
  case move x => exact ok_move hs he (.inl ho) h
  case assign x => exact ok_move hs he (.inr ho) h
  case alloc T => exact ok_alloc hl hs (sl rfl) ho (ho ▸ h)
  case box T x => exact ok_box hl hs he (sl rfl) ho (ho ▸ h)
  case build T parts => exact ok_build hl hs he ho (ho ▸ h)
  case buildSlice T n parts => exact ok_buildSlice hl hs he (sl rfl) ho (ho ▸ h)
  case load T x => exact ok_load hl hs he ho (ho ▸ h)
  case store T x y => exact ok_store hl hs he ho (ho ▸ h)
  case nilCheck x => exact ok_nilCheck hs he ho (ho ▸ h)
  case binOp op T x y yT => exact ok_bin hl hs he ho (ho ▸ h)
  case unOp op T x => exact ok_un hs he ho (ho ▸ h)
  case convert s d x => exact ok_convert hl hs he ho (ho ▸ h)
  case makeFunc f x y =>
    cases f
    case func f => exact ok_makeFunc hs he ho (ho ▸ h)
    all_goals simp [opD] at h
  case makeSlice T x y => exact ok_makeSlice hl hs he (sl rfl) ho (ho ▸ h)
  case slice T x lo hi mx => exact ok_slice hl hs he ho (ho ▸ h)
  case fieldAddr s x f => exact ok_fieldAddr hl hs he ho (ho ▸ h)
  case field s x f => exact ok_field hl hs he ho (ho ▸ h)
  case indexAddr T x ix => exact ok_indexAddr hl hs he ho (ho ▸ h)
  case index T x ix => exact ok_index hl hs he ho (ho ▸ h)
  case extract x j => exact ok_extract hs he ho (ho ▸ h)
  case call c =>
    obtain ⟨callee, args, tys⟩ := c
    cases callee
    case builtin b =>
      cases b
      case len => exact ok_len hs he ho (ho ▸ h)
      case max => exact ok_max hs he ho (ho ▸ h)
      case min => exact ok_min hs he ho (ho ▸ h)
      case append => exact ok_append hl hs he (sl rfl) ho (ho ▸ h)
      all_goals simp [opD] at h
    all_goals simp [opD] at h
  all_goals simp [opD] at h
end
end Go.Proofs.Ytfnepeilccainaa.Den

/- Proved here: an operation's steps told without what follows them; what of the store it may turn. No condition. -/
namespace Go.Proofs.Ytfnepeilccainaa.Den
open Go
set_option linter.unusedVariables false
set_option linter.unusedSimpArgs false
section
variable {C : Cfg} {α : Type}
abbrev keepK : KV (AV × List Blk × List Nat) := fun v S ks => some (v, S, ks)
theorem ite_bind {β : Type} {c : Prop} [Decidable c] {x : Option α} {y : Option β} {k : β → Option α} (h : x = y.bind k) : (if c then x else none) = (if c then y else none).bind k := by
  split
  · exact h
  · rfl
theorem binD_nat (op : BinOp) (T : TypeId) (x y : AV) (K : AV → Option α) : binD C op T x y K = (binD C op T x y some).bind K := by
  unfold binD
  split
  · cases op <;> dsimp only <;> first | exact ite_bind rfl | exact ite_bind (ite_bind rfl) | skip
    all_goals (refine ite_bind ?_; cases cmpI _ _ _ <;> rfl)
  · cases op <;> dsimp only <;> first | exact ite_bind rfl | (split <;> rfl)
  · split <;> rfl
  · refine ite_bind ?_
    split <;> rfl
  · refine ite_bind ?_
    split <;> first | exact ite_bind rfl | rfl
  · split <;> rfl
  · rfl
theorem unD_nat (op : UnOp) (x : AV) (K : AV → Option α) : unD op x K = (unD op x some).bind K := by
  unfold unD
  cases op <;> cases x <;> rfl
theorem cut3_nat (len : Nat) (lo hi : Option AV) (K : Nat → Nat → Option α) : cut3 len lo hi K = (cut3 len lo hi fun l h => some (l, h)).bind fun q => K q.1 q.2 := by
  unfold cut3
  split <;> first | rfl | exact ite_bind rfl | exact ite_bind (ite_bind rfl)
theorem opD_nat {S : List Blk} {env : List AV} {slot : Nat} (K : KV α) (op : Op) : opD C S env slot K op = (opD C S env slot keepK op).bind fun q => K q.1 q.2.1 q.2.2 := by
  cases op
  case alloc T =>
    simp only [opD]
    refine ite_bind ?_
    split
    · split <;> rfl
    · rfl
  case box T x =>
    simp only [opD]
    split
    · split <;> rfl
    · exact ite_bind rfl
  case build T parts =>
    simp only [opD]
    refine ite_bind ?_
    split <;> first | exact ite_bind rfl | rfl
  case buildSlice T n parts =>
    simp only [opD]
    split
    · refine ite_bind ?_
      split <;> rfl
    · rfl
  case load T x =>
    simp only [opD]
    split
    · exact ite_bind rfl
    · split
      · exact ite_bind rfl
      · split <;> first | exact ite_bind rfl | rfl
      · rfl
    · split
      · exact ite_bind rfl
      · rfl
    · rfl
  case store T x y =>
    simp only [opD]
    split
    · split
      · exact ite_bind rfl
      · split <;> first | exact ite_bind rfl | rfl
      · rfl
    · split
      · refine ite_bind ?_
        split
        · exact ite_bind rfl
        · rfl
      · rfl
    · rfl
  case nilCheck x =>
    simp only [opD]
    split <;> rfl
  case binOp => simp only [opD]; rw [binD_nat]; rw [binD_nat (K := fun v => keepK v S [])]; simp [Option.bind_assoc]
  case unOp => simp only [opD]; rw [unD_nat]; rw [unD_nat (K := fun v => keepK v S [])]; simp [Option.bind_assoc]
  case convert =>
    simp only [opD]
    split
    · rfl
    · rfl
    · refine ite_bind ?_
      split <;> rfl
    · split <;> first | exact ite_bind rfl | rfl
    · split <;> first | exact ite_bind rfl | rfl
    · rfl
  case makeFunc f x y =>
    cases f <;> simp only [opD] <;> first | exact ite_bind rfl | rfl
  case makeSlice =>
    simp only [opD]
    split
    · refine ite_bind ?_
      split
      · exact ite_bind rfl
      · rfl
    · rfl
  case slice T x lo hi mx =>
    have cut : ∀ (len : Nat) (lo hi : Option AV) (G : Nat → Nat → AV), (cut3 len lo hi fun l h => K (G l h) S []) = (cut3 len lo hi fun l h => keepK (G l h) S []).bind fun q => K q.1 q.2.1 q.2.2 := fun len lo hi G => by
      rw [cut3_nat, cut3_nat (K := fun l h => keepK (G l h) S [])]
      simp [Option.bind_assoc]
    cases mx with
    | none =>
      simp only [opD]
      split
      · exact cut _ _ _ _
      · exact ite_bind (cut _ _ _ _)
      · exact ite_bind (cut _ _ _ fun _ _ => .z 1)
      · refine ite_bind ?_
        split
        · exact cut _ _ _ _
        · rfl
      · refine ite_bind ?_
        split
        · exact cut _ _ _ _
        · rfl
      · split
        · exact ite_bind (cut _ _ _ _)
        · rfl
      · rfl
    | some m =>
      cases lo <;> cases hi <;> simp only [opD] <;> try rfl
      split
      · exact ite_bind rfl
      · rfl
  case fieldAddr =>
    simp only [opD]
    split
    · split
      · exact ite_bind rfl
      · rfl
    · split
      · exact ite_bind rfl
      · rfl
    · refine ite_bind ?_
      split <;> rfl
    · rfl
  case field => simp only [opD]; exact ite_bind rfl
  case indexAddr =>
    simp only [opD]
    split
    · split
      · exact ite_bind (ite_bind rfl)
      · refine ite_bind ?_
        split
        · exact ite_bind rfl
        · rfl
      · refine ite_bind ?_
        split
        · exact ite_bind rfl
        · rfl
      · split
        · exact ite_bind (ite_bind rfl)
        · rfl
      · rfl
    · rfl
  case index =>
    simp only [opD]
    split
    · split
      · exact ite_bind rfl
      · split
        · exact ite_bind rfl
        · rfl
      · rfl
    · rfl
  case extract =>
    simp only [opD]
    split
    · split <;> rfl
    · rfl
  case call c =>
    obtain ⟨callee, args, tys⟩ := c
    cases callee
    case builtin b =>
      cases b <;> simp only [opD] <;> try rfl
      case len =>
        split
        · split <;> rfl
        · split
          · rfl
          · split <;> rfl
        · rfl
        · rfl
      case max => split <;> rfl
      case min => split <;> rfl
      case append =>
        split
        · refine ite_bind (ite_bind ?_)
          split
          · split
            · rfl
            · exact ite_bind rfl
          · rfl
        · rfl
    all_goals simp only [opD]; rfl
  all_goals simp only [opD]; rfl
/-- A step that leaves the store alone. -/
def Still (S : List Blk) (r : Option (AV × List Blk × List Nat)) : Prop := ∀ q, r = some q → q.2.1 = S ∧ q.2.2 = []
theorem Still.none {S : List Blk} : Still S none := fun q h => by cases h
theorem Still.some {S : List Blk} {v : AV} : Still S (some (v, S, [])) := fun q h => by cases h; exact ⟨rfl, rfl⟩
theorem Still.ite {S : List Blk} {c : Prop} [Decidable c] {r : Option (AV × List Blk × List Nat)} (h : Still S r) : Still S (if c then r else Option.none) := by
  split
  · exact h
  · exact .none
theorem Still.bind {β : Type} {S : List Blk} {r : Option β} {k : β → Option (AV × List Blk × List Nat)} (h : ∀ b, Still S (k b)) : Still S (r.bind k) := by
  cases r
  · exact .none
  · exact h _
theorem cls_still {S : List Blk} {env : List AV} {slot : Nat} {op : Op} (hc : cls op ≤ 1) : Still S (opD C S env slot keepK op) := by
  cases op <;> try (simp [cls] at hc; done)
  case binOp => simp only [opD]; rw [binD_nat]; exact .bind fun _ => .some
  case unOp => simp only [opD]; rw [unD_nat]; exact .bind fun _ => .some
  case call c =>
    obtain ⟨callee, args, tys⟩ := c
    cases callee
    case builtin b =>
      cases b <;> try (simp [cls] at hc; done)
      all_goals
        simp only [opD]
        repeat' split
        all_goals first | exact .some | exact .none
    all_goals (simp [cls] at hc)
  case slice T x lo hi mx =>
    have cut : ∀ (len : Nat) (lo hi : Option AV) (G : Nat → Nat → AV), Still S (cut3 len lo hi fun l h => keepK (G l h) S []) := fun len lo hi G => by
      rw [cut3_nat]
      exact .bind fun _ => .some
    cases mx with
    | none =>
      simp only [opD]
      repeat' split
      all_goals first | exact cut _ _ _ _ | exact cut _ _ _ (fun _ _ => .z 1) | exact .none | exact .some
    | some m =>
      cases lo <;> cases hi <;> simp only [opD] <;> try exact .none
      repeat' split
      all_goals first | exact .some | exact .none
  case makeFunc f x y =>
    cases f <;> simp only [opD]
    all_goals first | exact .none | exact Still.ite .some
  all_goals
    simp only [opD]
    (repeat' split)
    all_goals first | exact .some | exact .none
/-- One that sets its slot alone. -/
theorem cls_slot {S : List Blk} {env : List AV} {slot : Nat} {op : Op} (hc : cls op = 2) {v : AV} {S' : List Blk} (h : opD C S env slot keepK op = some (v, S', [])) : slotsOf op = 1 ∧ ∃ B, S' = S.set slot B := by
  cases op <;> try (simp [cls] at hc; done)
  case call c =>
    obtain ⟨callee, args, tys⟩ := c
    cases callee
    case builtin b => cases b <;> simp [cls] at hc
    all_goals (simp [cls] at hc)
  all_goals refine ⟨rfl, ?_⟩
  all_goals simp only [opD] at h
  case buildSlice =>
    split at h <;> try (cases h; done)
    replace h := (ite_some h).2
    split at h <;> try (cases h; done)
    simp only [Option.some.injEq, Prod.mk.injEq] at h
    obtain ⟨_, h, hk⟩ := h
    rw [hk, kill_nil] at h
    exact ⟨_, h.symm⟩
  all_goals
    (repeat' split at h)
    all_goals first | (cases h; done) | (simp only [Option.some.injEq, Prod.mk.injEq] at h; exact ⟨_, h.2.1.symm⟩)
end
end Go.Proofs.Ytfnepeilccainaa.Den

/- Proved here: what a step does on a part of the store it does on the whole, and the rest stays. No condition. -/
namespace Go.Proofs.Ytfnepeilccainaa.Den
open Go
set_option linter.unusedVariables false
set_option linter.unusedSimpArgs false
section
variable {C : Cfg} {F F' : Nat → Prop} {σ σ' : Sig} {S S2 S' S'' : List Blk} {w w' : World}
/-- A part of a store. -/
def Sub (S S2 : List Blk) : Prop := S.length = S2.length ∧ ∀ id, live S id → S2.getD id .dead = S.getD id .dead
theorem Sub.refl (S : List Blk) : Sub S S := ⟨rfl, fun _ _ => rfl⟩
theorem Sub.live {id : Nat} (h : Sub S S2) (hl : live S id) : live S2 id := by
  unfold Den.live at *
  rw [h.2 id hl]
  exact hl
theorem not_live {id : Nat} (h : ¬ live S id) : S.getD id .dead = .dead := Classical.byContradiction h
theorem Sim.sub (hs : Sim C F σ S2 w) (h : Sub S S2) : Sim C F σ S w where
  blk := fun id => by
    by_cases q : live S id
    · have := hs.blk id
      rw [h.2 id q] at this
      exact this
    · rw [not_live q]; exact trivial
  inj := fun id id' b h1 h2 => hs.inj id id' b (h.live h1) (h.live h2)
  out := fun id b h1 => hs.out id b (h.live h1)
  top := fun id hid => hs.top id (h.1 ▸ hid)
  fin := hs.fin
theorem Sim.place (hs : Sim C F σ S w) {id : Nat} (h : live S id) : σ id ≠ .no := fun e => by
  have := hs.blk id
  rw [e] at this
  unfold Den.live at h
  cases hB : S.getD id .dead with
  | dead => exact h hB
  | obj T a => rw [hB] at this; exact this
  | arr e xs => rw [hB] at this; exact this
theorem frame (hs2 : Sim C F σ S2 w) (hsub : Sub S S2) (hs' : Sim C F' σ' S' w') (hst : Stp F σ S w F' σ' S' w') (hσ : ∀ id, σ id ≠ .no → σ' id = σ id)
    (hlen : S'.length = S.length) (hlen2 : S''.length = S.length) (h1 : ∀ id, live S2 id → ¬ live S id → S''.getD id .dead = S2.getD id .dead) (h2 : ∀ id, (live S id ∨ ¬ live S2 id) → S''.getD id .dead = S'.getD id .dead) :
    Sim C F' σ' S'' w' ∧ Stp F σ S2 w F' σ' S'' w' := by
  have hs := hs2.sub hsub
  have split : ∀ id, (live S2 id ∧ ¬ live S id) ∨ (live S id ∨ ¬ live S2 id) := fun id => by
    by_cases q1 : live S id
    · exact .inr (.inl q1)
    · by_cases q2 : live S2 id
      · exact .inl ⟨q2, q1⟩
      · exact .inr (.inr q2)
  have fr : ∀ id, live S2 id → ¬ live S id → ∀ b, (σ' id).blk = some b → (σ id).blk = some b ∧ b < w.heap.size ∧ ∀ id', live S id' → (σ id').blk ≠ some b := fun id l2 l1 b hb => by
    rw [hσ id (hs2.place l2)] at hb
    exact ⟨hb, hs2.lt l2 hb, fun id' hl' he => l1 (hs2.inj id' id b (hsub.live hl') l2 he hb ▸ hl')⟩
  have rest : ∀ id, (live S id ∨ ¬ live S2 id) → live S'' id → live S' id := fun id h hl => by
    unfold Den.live at *
    rwa [h2 id h] at hl
  refine ⟨⟨fun id => ?_, fun id id' b l1 l2 e1 e2 => ?_, fun id b l1 e1 hF => ?_, fun id hid => hs'.top id (by omega), hs'.fin⟩, ⟨hst.os, hst.tape, hst.output, hst.heap, fun b hb hn => hst.keep b hb fun id hl => hn id (hsub.live hl), hst.grow, fun b hb => ?_, fun id b hl e => ?_⟩⟩
  · rcases split id with ⟨q1, q2⟩ | q
    · rw [h1 id q1 q2, hσ id (hs2.place q1)]
      exact (hs2.blk id).mono (hst.dat hs) hst.grow hσ fun b hb => by
        obtain ⟨_, hlt, hno⟩ := fr id q1 q2 b (by rw [hσ id (hs2.place q1)]; exact hb)
        exact hst.keep b hlt hno
    · rw [h2 id q]
      exact hs'.blk id
  · rcases split id with ⟨q1, q2⟩ | q
    · rcases split id' with ⟨r1, r2⟩ | r
      · exact hs2.inj id id' b q1 r1 (fr id q1 q2 b e1).1 (fr id' r1 r2 b e2).1
      · obtain ⟨g1, g2, g3⟩ := fr id q1 q2 b e1
        rcases hst.own id' b (rest id' r l2) e2 with h | ⟨j, hj, hb⟩
        · omega
        · exact absurd hb (g3 j hj)
    · rcases split id' with ⟨r1, r2⟩ | r
      · obtain ⟨g1, g2, g3⟩ := fr id' r1 r2 b e2
        rcases hst.own id b (rest id q l1) e1 with h | ⟨j, hj, hb⟩
        · omega
        · exact absurd hb (g3 j hj)
      · exact hs'.inj id id' b (rest id q l1) (rest id' r l2) e1 e2
  · rcases split id with ⟨q1, q2⟩ | q
    · obtain ⟨g1, g2, g3⟩ := fr id q1 q2 b e1
      rcases hst.new b hF with h | h | ⟨j, hj, hb⟩
      · exact hs2.out id b q1 g1 h
      · omega
      · exact g3 j hj hb
    · exact hs'.out id b (rest id q l1) e1 hF
  · rcases hst.new b hb with h | h | ⟨j, hj, hb'⟩
    · exact .inl h
    · exact .inr (.inl h)
    · exact .inr (.inr ⟨j, hsub.live hj, hb'⟩)
  · rcases split id with ⟨q1, q2⟩ | q
    · exact .inr ⟨id, q1, (fr id q1 q2 b e).1⟩
    · rcases hst.own id b (rest id q hl) e with h | ⟨j, hj, hb⟩
      · exact .inl h
      · exact .inr ⟨j, hsub.live hj, hb⟩
end
end Go.Proofs.Ytfnepeilccainaa.Den

/- Proved here: what a region's operation does, its guard and its choice among them. Its condition: the program's type table is laid as the check 'layB' tells. -/
namespace Go.Proofs.Ytfnepeilccainaa.Den
open Go
set_option linter.unusedVariables false
set_option linter.unusedSimpArgs false
section
variable {C : Cfg} {F : Nat → Prop} {σ : Sig} {S : List Blk} {w : World} {env : List AV} {a : Act} {o : Oper} {slot : Nat} {α : Type} {out : α}
/-- What is so behind an operation. -/
def Post (C : Cfg) (o : Oper) (F : Nat → Prop) (σ : Sig) (S : List Blk) (w : World) (slot : Nat) (v : AV) (S' : List Blk) (ks : List Nat) (val : Value) (w' : World) : Prop :=
  ∃ F' σ', Sim C F' σ' S' w' ∧ Stp F σ S w F' σ' S' w' ∧ (∀ id, σ id ≠ .no → σ' id = σ id) ∧
    (∀ id ∈ ks, ∀ b, live S id → (σ id).blk = some b → F' b ∧ w'.heap[b]? = w.heap[b]?) ∧ VR C w' F' σ' v val ∧ S'.length = S.length ∧ (∀ j, (j < slot ∨ slot + slotsOf o.op ≤ j) → S.getD j .dead = .dead → σ j = .no → S'.getD j .dead = .dead ∧ σ' j = .no)
theorem OpOk.post {v : AV} {S' : List Blk} {ks : List Nat} (h : OpOk C o F σ S w a slot v S' ks) : ∃ val w', ((execOp a.eval o).run C.P w = .ok (.value val) w' ∨ ((execOp a.eval o).run C.P w = .ok .skip w' ∧ val = undef)) ∧ Post C o F σ S w slot v S' ks val w' := by
  obtain ⟨val, w', F', σ', h1, h2⟩ := h
  exact ⟨val, w', h1, F', σ', h2⟩
theorem Post.still {val : Value} {v : AV} (hs : Sim C F σ S w) (hv : VR C w F σ v val) : Post C o F σ S w slot v S [] val w :=
  ⟨F, σ, hs, .refl, fun _ _ => rfl, fun id h => by simp at h, hv, rfl, fun j _ h1 h2 => ⟨h1, h2⟩⟩
/-- A body that is run on the caller's store is told without what follows it. -/
def SNat (call : CallF) : Prop := ∀ {α : Type} {n : FuncId} {f : Func} {S : List Blk} {slot : Nat} {args : List AV} {K : KV α} {out : α}, call.s n f S slot args K = some out → ∃ v S' ks, K v S' ks = some out ∧ ∀ {β : Type} (K' : KV β), call.s n f S slot args K' = K' v S' ks
/-- A function is entered and returns, or the model answers by itself. -/
def Met (C : Cfg) (n : FuncId) (vals : Array Value) (w : World) (Q : Value → World → Prop) : Prop :=
  (∃ f, C.P.funcs[n]? = some f ∧ f.body.isSome = true ∧ Calls C.P n vals w fun e w' => ∃ val, e = .returned val ∧ Q val w') ∨ ∃ val w', (callFunc n vals).run C.P w = .ok (.value val) w' ∧ Q val w'
/-- What is known of calls. -/
structure Called (C : Cfg) (call : CallF) : Prop where
  nat : SNat call
  ok : ∀ {F : Nat → Prop} {σ : Sig} {S : List Blk} {w : World} {slot : Nat} {n : FuncId} {args : List AV} {vals : Array Value} {α : Type} {K : KV α} {out : α} {o : Oper}, slotsOf o.op = 8 → Sim C F σ S w → (∀ j, slot ≤ j → j < slot + 8 → Slot σ S j) →
    vals.size = args.length → (∀ (j : Nat) a v, args[j]? = some a → vals[j]? = some v → VR C w F σ a v) → callD C call S slot n args K = some out →
    ∃ v S' ks, K v S' ks = some out ∧ (∀ {β : Type} (K' : KV β), callD C call S slot n args K' = K' v S' ks) ∧ Met C n vals w fun val w' => Post C o F σ S w slot v S' ks val w'
theorem setO_same {env : List AV} {c : Operand} {b : Bool} (h : ev env c = .b b) : setO env c (.b b) = env := by
  cases c with
  | tmp t =>
    simp only [ev, setO] at *
    rw [List.getD_eq_getElem?_getD] at h
    apply List.ext_getElem?
    intro j
    rw [List.getElem?_set]
    by_cases e : t = j
    · subst e
      rw [if_pos rfl]
      split
      · rename_i hlt
        rw [List.getElem?_eq_getElem hlt] at h ⊢
        simp only [Option.getD_some] at h
        rw [h]
      · rename_i hlt
        rw [List.getElem?_eq_none (by omega)]
    · rw [if_neg e]
  | _ => rfl
theorem run_enter {n : FuncId} {f : Func} {vals : Array Value} {w : World} (hnm : namesB C = true) (hf : C.P.funcs[n]? = some f) (hb : f.body.isSome = true) : (callFunc n vals).run C.P w = .ok (.enter n vals) w := by
  have hname : ¬ f.name = "runtime.NumGoroutine" := by
    unfold namesB at hnm
    have := List.all_eq_true.mp hnm f (List.mem_of_getElem? (by rw [Array.getElem?_toList]; exact hf))
    simpa using this
  have hbn : ¬ f.body = none := by cases q : f.body <;> simp_all
  unfold callFunc
  simp [Sem.run_bind, hf, hname, hbn]
theorem goD_ok {ops : Array Oper} {Q : Exit → Act → World → Prop} {call : CallF} {i : Nat} (hl : layB C = true) (hnm : namesB C = true) (hcall : Called C call) (hi : ops[i]? = some o) (hw : Region.wanted o (yielded ops a.tmps) = true) (hs : Sim C F σ S w) (he : EnvR C w F σ env a.tmps) (hsl : ∀ j, slot ≤ j → j < slot + slotsOf o.op → Slot σ S j) {K : KE α} (h : goD C call o slot env S K = some out) :
    ∃ v S' ks, K env v S' ks = some out ∧ (∀ {β : Type} (K' : KE β), goD C call o slot env S K' = K' env v S' ks) ∧ ∀ Kc : Act → World → Prop, (∀ val w', Post C o F σ S w slot v S' ks val w' → Kc (a.put o.dst val) w') → wpOp C.P ops Q i Kc a w := by
  have wp : ∀ {Kc : Act → World → Prop}, o.wp C.P a w Kc Q → wpOp C.P ops Q i Kc a w := fun hh => by
    unfold wpOp
    rw [hi]
    dsimp only
    rw [if_pos hw]
    exact .inl hh
  have done : ∀ {v : AV} {S' : List Blk} {ks : List Nat} {val : Value} {w' : World} (hr : (execOp a.eval o).run C.P w = .ok (.value val) w' ∨ ((execOp a.eval o).run C.P w = .ok .skip w' ∧ val = undef)) (hp : Post C o F σ S w slot v S' ks val w') (Kc : Act → World → Prop), (∀ val w', Post C o F σ S w slot v S' ks val w' → Kc (a.put o.dst val) w') → wpOp C.P ops Q i Kc a w := by
    intro v S' ks val w' hr hp Kc hK
    refine wp ?_
    unfold Oper.wp
    rcases hr with hr | ⟨hr, rfl⟩ <;> rw [hr]
    · exact hK _ _ hp
    · exact hK _ _ hp
  have plain : (∀ {β : Type} (K' : KE β), goD C call o slot env S K' = opD C S env slot (K' env) o.op) → ∃ v S' ks, K env v S' ks = some out ∧ (∀ {β : Type} (K' : KE β), goD C call o slot env S K' = K' env v S' ks) ∧ ∀ Kc : Act → World → Prop, (∀ val w', Post C o F σ S w slot v S' ks val w' → Kc (a.put o.dst val) w') → wpOp C.P ops Q i Kc a w := by
    intro hg
    rw [hg, opD_nat] at h
    obtain ⟨⟨v, S', ks⟩, hq, hK⟩ := Option.bind_eq_some_iff.mp h
    obtain ⟨v', S1, ks', e1, e2⟩ := opD_ok (a := a) hl hs he hsl hq
    simp only [Option.some.injEq, Prod.mk.injEq] at e1
    obtain ⟨rfl, rfl, rfl⟩ := e1
    obtain ⟨val, w', hr, hp⟩ := e2.post
    refine ⟨_, _, _, hK, fun K' => ?_, done hr hp⟩
    rw [hg, opD_nat, hq]
    rfl
  cases hop : o.op
  case pick c x y =>
    have hg : ∀ {β : Type} (K' : KE β), goD C call o slot env S K' = match ev env c with
      | .b t => if t = true then K' (setO env c (.b true)) (ev env x) S [] else K' (setO env c (.b false)) (ev env y) S []
      | _ => none := fun K' => by unfold goD; rw [hop]; rfl
    rw [hg] at h
    have hc := he.at_
    have hcv := ev_ok he c
    split at h <;> try (cases h; done)
    rename_i t ec
    rw [ec] at hcv
    have hcv := hcv.b_inv
    cases t with
    | true =>
      rw [if_pos rfl, setO_same ec] at h
      refine ⟨_, _, _, h, fun K' => by rw [hg, ec]; simp only [if_true]; rw [setO_same ec], done (val := a.eval x) (.inl ?_) (.still hs (ev_ok he x))⟩
      simp [execOp, hop, hcv, asBool, Sem.run_bind, pure, Sem.run]
    | false =>
      rw [if_neg (by simp), setO_same ec] at h
      refine ⟨_, _, _, h, fun K' => by rw [hg, ec]; simp only [Bool.false_eq_true, if_false]; rw [setO_same ec], done (val := a.eval y) (.inl ?_) (.still hs (ev_ok he y))⟩
      simp [execOp, hop, hcv, asBool, Sem.run_bind, pure, Sem.run]
  case call c =>
    obtain ⟨callee, args, tys⟩ := c
    cases callee
    case value f =>
      have hg : ∀ {β : Type} (K' : KE β), goD C call o slot env S K' = match ev env f with
        | .fn n first cap => if (first.all isOne && cap.all isOne) = true then callD C call S slot n (first ++ args.toList.map (ev env) ++ cap) (K' env) else none
        | _ => none := fun K' => by unfold goD; rw [hop]; rfl
      rw [hg] at h
      have hf := ev_ok he f
      split at h <;> try (cases h; done)
      rename_i n first cap ef
      rw [ef] at hf
      obtain ⟨hones, h⟩ := ite_some h
      have hones' := hones
      rw [Bool.and_eq_true, List.all_eq_true, List.all_eq_true] at hones'
      have hr := hf.one_inv (by simp) (by simp) (by simp)
      generalize hv : a.eval f = fv at hr
      cases hr with
      | fn cs ds c1 c2 c3 c4 =>
        have hmap : ∀ (j : Nat) b v, (args.toList.map (ev env))[j]? = some b → (args.toList.map a.eval)[j]? = some v → VR C w F σ b v := fun j b v hb hv => by
          rw [List.getElem?_map] at hb hv
          cases hq : args.toList[j]? with
          | none => rw [hq] at hb; cases hb
          | some q =>
            rw [hq] at hb hv
            simp only [Option.map_some, Option.some.injEq] at hb hv
            subst hb hv
            exact ev_ok he q
        have hone : ∀ {b : AV} {v : Value}, isOne b = true → R C w F σ b [v] → VR C w F σ b v := fun {b v} h1 hb => .one (fun fs e => by rw [e] at h1; simp [isOne] at h1) hb
        have happ : ∀ (j : Nat) b v, (first ++ args.toList.map (ev env) ++ cap)[j]? = some b → ((cs ++ args.toList.map a.eval ++ ds).toArray)[j]? = some v → VR C w F σ b v := fun j b v hb hv => by
          rw [List.getElem?_toArray] at hv
          rw [List.getElem?_append] at hb hv
          simp only [List.length_append, List.length_map, c1] at hb hv
          by_cases q1 : j < first.length + args.toList.length
          · rw [if_pos q1] at hb hv
            rw [List.getElem?_append] at hb hv
            rw [c1] at hv
            by_cases q2 : j < first.length
            · rw [if_pos q2] at hb hv
              exact hone (hones'.1 b (List.mem_of_getElem? hb)) (c3 j b v hb hv)
            · rw [if_neg q2] at hb hv
              exact hmap _ b v hb hv
          · rw [if_neg q1] at hb hv
            exact hone (hones'.2 b (List.mem_of_getElem? hb)) (c4 _ b v hb hv)
        obtain ⟨v, S', ks, hK, hall, hmet⟩ := hcall.ok (o := o) (by rw [hop]; rfl) hs (fun j h1 h2 => hsl j h1 (by rw [hop]; exact h2)) (vals := (cs ++ args.toList.map a.eval ++ ds).toArray) (by simp [c1, c2]) happ h
        refine ⟨v, S', ks, hK, fun K' => by rw [hg, ef]; dsimp only; rw [if_pos hones]; exact hall (K' env), fun Kc hKc => ?_⟩
        have e : (cs ++ args.toList.map a.eval ++ ds).toArray = cs.toArray ++ args.map a.eval ++ ds.toArray := by
          apply Array.ext'
          simp
        have hrun : (execOp a.eval o).run C.P w = (callFunc n (cs ++ args.toList.map a.eval ++ ds).toArray).run C.P w := by
          rw [e]
          simp [execOp, hop, resolve, hv, Deferred.ofValue, invoke, Sem.run_bind, pure, Sem.run]
        rcases hmet with ⟨fn, hfn, hfb, hcalls⟩ | ⟨val, w1, hr, hp⟩
        · refine wp ?_
          rw [run_enter (w := w) hnm hfn hfb] at hrun
          unfold Oper.wp
          rw [hrun]
          show Calls _ _ _ _ _
          refine hcalls.mono fun e w' hq => ?_
          obtain ⟨val, rfl, hp⟩ := hq
          exact hKc val w' hp
        · exact done (.inl (hrun.trans hr)) hp Kc hKc
    all_goals exact plain fun K' => by unfold goD; rw [hop]
  all_goals exact plain fun K' => by unfold goD; rw [hop]
/-- An operation of a region, told. -/
theorem stepD_ok {ops : Array Oper} {Q : Exit → Act → World → Prop} {call : CallF} {i : Nat} (hl : layB C = true) (hnm : namesB C = true) (hcall : Called C call) (hi : ops[i]? = some o) (hs : Sim C F σ S w) (he : EnvR C w F σ env a.tmps) (hsl : ∀ j, slot ≤ j → j < slot + slotsOf o.op → Slot σ S j) {K : KE α} (h : stepD C call ops.toList o slot env S K = some out) :
    ∃ v S' ks, K env v S' ks = some out ∧ (∀ {β : Type} (K' : KE β), stepD C call ops.toList o slot env S K' = K' env v S' ks) ∧ ∀ Kc : Act → World → Prop, (∀ val w', Post C o F σ S w slot v S' ks val w' → Kc (a.put o.dst val) w') → wpOp C.P ops Q i Kc a w := by
  have skip : ∀ (v : Value), Region.wanted o (yielded ops a.tmps) = false → ∀ Kc : Act → World → Prop, (∀ val w', Post C o F σ S w slot (.t []) S [] val w' → Kc (a.put o.dst val) w') → wpOp C.P ops Q i Kc a w := fun v hw Kc hK => by
    unfold wpOp
    rw [hi]
    dsimp only
    rw [if_neg (by rw [hw]; simp)]
    exact hK undef _ (.still hs (.t [] rfl fun j a v h => by simp at h))
  cases hg : o.guard with
  | none =>
    have hst : ∀ {β : Type} (K' : KE β), stepD C call ops.toList o slot env S K' = goD C call o slot env S K' := fun K' => by unfold stepD; rw [hg]
    rw [hst] at h
    obtain ⟨v, S', ks, h1, h2, h3⟩ := goD_ok (Q := Q) hl hnm hcall hi (by unfold Region.wanted; rw [hg]) hs he hsl h
    exact ⟨v, S', ks, h1, fun K' => by rw [hst]; exact h2 K', h3⟩
  | some gp =>
    obtain ⟨g, pol⟩ := gp
    have hst : ∀ {β : Type} (K' : KE β), stepD C call ops.toList o slot env S K' = match ev env (guardT ops.toList g) with
      | .b t => if t = pol then goD C call o slot (setO env (guardT ops.toList g) (.b pol)) S K' else K' (setO env (guardT ops.toList g) (.b (!pol))) (.t []) S []
      | .t [] => K' env (.t []) S []
      | _ => none := fun K' => by unfold stepD; rw [hg]; rfl
    rw [hst] at h
    have hgv := ev_ok he (guardT ops.toList g)
    split at h <;> try (cases h; done)
    rotate_left
    · rename_i et
      rw [et] at hgv
      have hgu : a.eval (guardT ops.toList g) = undef := by
        generalize a.eval (guardT ops.toList g) = gv at hgv
        cases hgv with
        | t vs h1 h2 =>
          have : vs = [] := List.length_eq_zero_iff.mp h1
          subst this
          rfl
        | one h1 hr => cases hr
      have hyn : yielded ops a.tmps g = none := by
        unfold guardT at hgu et
        rw [Array.getElem?_toList] at hgu et
        unfold yielded
        cases hog : ops[g]? with
        | none => rw [hog] at et; simp [ev] at et
        | some og =>
          rw [hog] at et hgu
          cases hd : og.dst with
          | none => simp [hd, ev] at et
          | some d =>
            simp only [hd, Act.eval] at hgu
            simp only [Option.bind_some, hd]
            rw [Array.getD_eq_getD_getElem?] at hgu
            cases ht : a.tmps[d]? with
            | none => rfl
            | some v => rw [ht] at hgu; simp only [Option.getD_some] at hgu; rw [hgu]; rfl
      exact ⟨.t [], S, [], h, fun K' => by rw [hst, et], skip undef (by unfold Region.wanted; rw [hg]; simp [hyn])⟩
    rename_i t et
    rw [et] at hgv
    have hgv := hgv.b_inv
    have hy : yielded ops a.tmps g = some t := by
      unfold guardT at hgv et
      rw [Array.getElem?_toList] at hgv et
      unfold yielded
      cases hog : ops[g]? with
      | none => rw [hog] at et; simp [ev] at et
      | some og =>
        rw [hog] at et hgv
        cases hd : og.dst with
        | none => simp [hd, ev] at et
        | some d =>
          simp only [hd, Act.eval] at hgv
          simp only [Option.bind_some, hd]
          rw [Array.getD_eq_getD_getElem?] at hgv
          cases ht : a.tmps[d]? with
          | none => rw [ht] at hgv; simp [undef] at hgv
          | some v => rw [ht] at hgv; simp only [Option.getD_some] at hgv; rw [hgv]
    by_cases q : t = pol
    · subst q
      rw [if_pos rfl, setO_same et] at h
      obtain ⟨v, S', ks, h1, h2, h3⟩ := goD_ok (Q := Q) hl hnm hcall hi (by unfold Region.wanted; rw [hg]; simp [hy]) hs he hsl h
      exact ⟨v, S', ks, h1, fun K' => by rw [hst, et]; simp only [if_true]; rw [setO_same et]; exact h2 K', h3⟩
    · have e : (!pol) = t := by cases t <;> cases pol <;> simp_all
      rw [if_neg q, e, setO_same et] at h
      refine ⟨.t [], S, [], h, fun K' => by rw [hst, et]; simp only [if_neg q]; rw [e, setO_same et], skip undef (by unfold Region.wanted; rw [hg]; simp [hy, q])⟩
end
end Go.Proofs.Ytfnepeilccainaa.Den

/- Proved here: what a region does whose operations come one behind the other. Its condition: the program's type table is laid as the check 'layB' tells. -/
namespace Go.Proofs.Ytfnepeilccainaa.Den
open Go
set_option linter.unusedVariables false
set_option linter.unusedSimpArgs false
section
variable {C : Cfg} {F F' : Nat → Prop} {σ σ' : Sig} {S S' : List Blk} {w w' : World} {env : List AV} {a : Act} {α : Type} {out : α}
theorem EnvR.mono {tmps : Array Value} (h : EnvR C w F σ env tmps) (hk : ∀ b, F b → w'.heap[b]? = w.heap[b]?) (hF : ∀ b, F b → F' b) (hσ : ∀ id, σ id ≠ .no → σ' id = σ id) : EnvR C w' F' σ' env tmps :=
  ⟨h.n, fun t => (h.at_ t).mono hk hF hσ⟩
theorem EnvR.put {dst : Option Tmp} {v : AV} {val : Value} (h : EnvR C w F σ env a.tmps) (hv : VR C w F σ v val) : EnvR C w F σ (putE env dst v) (a.put dst val).tmps := by
  cases dst with
  | none => exact h
  | some d =>
    refine ⟨by simp [putE, Act.put, h.n], fun t => ?_⟩
    have := h.at_ t
    simp only [putE, Act.put, List.getD_eq_getElem?_getD, Array.getD_eq_getD_getElem?, List.getElem?_set, Array.getElem?_setIfInBounds] at this ⊢
    by_cases q : d = t
    · subst q
      simp only [if_true]
      by_cases hd : d < env.length
      · rw [if_pos hd, if_pos (by rw [← h.n]; exact hd)]
        exact hv
      · rw [if_neg hd, if_neg (by rw [← h.n]; exact hd)]
        exact .u
    · rw [if_neg q, if_neg q]
      exact this
/-- What is laid open is data. -/
def OpenOk (C : Cfg) (F : Nat → Prop) (σ : Sig) (w : World) (op : List (List Blk × List Nat)) : Prop :=
  ∀ q ∈ op, ∀ id ∈ q.2, BlkAt C w F σ (q.1.getD id .dead) (σ id) ∧ ∀ b, live q.1 id → (σ id).blk = some b → F b
theorem place_no {B : Blk} {p : Place} (h : BlkAt C w F σ B p) (hB : B ≠ .dead) : p ≠ .no := by
  cases B with
  | dead => exact absurd rfl hB
  | obj T a => cases p <;> simp_all [BlkAt]
  | arr e xs => cases p <;> simp_all [BlkAt]
theorem OpenOk.mono {op : List (List Blk × List Nat)} (h : OpenOk C F σ w op) (hk : ∀ b, F b → w'.heap[b]? = w.heap[b]?) (hF : ∀ b, F b → F' b) (hσ : ∀ id, σ id ≠ .no → σ' id = σ id) : OpenOk C F' σ' w' op := fun q hq id hid => by
  obtain ⟨h1, h2⟩ := h q hq id hid
  by_cases hd : live q.1 id
  · have e := hσ id (place_no h1 hd)
    rw [e]
    exact ⟨h1.mono hk hF hσ fun b hb => hk b (h2 b hd hb), fun b l hb => hF b (h2 b l hb)⟩
  · rw [not_live hd]
    exact ⟨trivial, fun b l => absurd l hd⟩
theorem OpenOk.one {q : List Blk × List Nat} (h : OpenOk C F σ w [q]) {x : AV} {v : Value} (hv : VR C w F σ x v) : VR C w F σ (openAV q.1 q.2 x) v := by
  have hq := h q (by simp)
  cases x <;> simp only [openAV] <;> try exact hv
  case w e id =>
    split
    · rename_i hc
      have hid : id ∈ q.2 := by simpa using hc
      obtain ⟨h1, h2⟩ := hq id hid
      have hr := hv.one_inv (by simp) (by simp) (by simp)
      split
      · rename_i e2 xs hS
        rw [hS] at h1
        have hlv : live q.1 id := by unfold live; rw [hS]; simp
        rcases hr.w_inv with ⟨b, o, n, c, cap, g1, g2, g3, rfl⟩ | ⟨g1, ad, _, rfl⟩
        · rw [g1] at h1
          obtain ⟨rfl, rfl, hA⟩ := h1
          exact .one (by simp) (hA.all (fun _ h => h) (h2 b hlv (by rw [g1]; rfl)) _ g2)
        · rw [g1] at h1
          simp only [BlkAt] at h1
          subst h1
          exact .one (by simp) .l0
      · exact .u
    · exact hv
  case r e id off len =>
    split
    · rename_i hc
      have hid : id ∈ q.2 := by simpa using hc
      obtain ⟨h1, h2⟩ := hq id hid
      have hr := hv.one_inv (by simp) (by simp) (by simp)
      split
      · rename_i e2 xs hS
        rw [hS] at h1
        have hlv : live q.1 id := by unfold live; rw [hS]; simp
        cases hr with
        | r g1 g2 g3 g4 =>
          rw [g1] at h1
          obtain ⟨rfl, rfl, hA⟩ := h1
          exact .one (by simp) (hA.open_ (fun _ h => h) (h2 _ hlv (by rw [g1]; rfl)) off len _ g2 g3)
        | r0 => simp only [List.take_zero]; exact .one (by simp) .l0
      · exact .u
    · exact hv
  case p id path =>
    split
    · exact .u
    · exact hv
  case q id idx path =>
    split
    · exact .u
    · exact hv
theorem OpenOk.all : ∀ {op : List (List Blk × List Nat)} (h : OpenOk C F σ w op) {x : AV} {v : Value} (hv : VR C w F σ x v), VR C w F σ (openL op x) v
  | [], _, _, _, hv => hv
  | q :: op, h, x, v, hv => OpenOk.all (op := op) (fun p hp => h p (by simp [hp])) (OpenOk.one (q := q) (fun p hp => h p (by simp_all)) hv)
theorem openL_u : ∀ op : List (List Blk × List Nat), openL op .u = .u
  | [] => rfl
  | q :: op => by simp only [openL, openAV]; exact openL_u op
theorem OpenOk.envs {op : List (List Blk × List Nat)} {tmps : Array Value} (h : OpenOk C F σ w op) (he : EnvR C w F σ env tmps) : EnvR C w F σ (env.map (openL op)) tmps := by
  refine ⟨by simp [he.n], fun t => ?_⟩
  have := h.all (he.at_ t)
  rw [List.getD_eq_getElem?_getD] at this ⊢
  rw [List.getElem?_map]
  cases hq : env[t]? with
  | none => exact .u
  | some x => rw [hq] at this; exact this
/-- What a region's end asks. -/
def RegEnd (C : Cfg) (K : X → Option α) (out : α) (F : Nat → Prop) (σ : Sig) (S : List Blk) (w : World) (ds : List Deferred) (a' : Act) (w' : World) : Prop :=
  ∃ env' S' F' σ', K ⟨env', S'⟩ = some out ∧ a'.defers = ds ∧ Sim C F' σ' S' w' ∧ EnvR C w' F' σ' env' a'.tmps ∧ Stp F σ S w F' σ' S' w' ∧ (∀ id, σ id ≠ .no → σ' id = σ id) ∧ S'.length = S.length
theorem put_defers (a : Act) (dst : Option Tmp) (v : Value) : (a.put dst v).defers = a.defers := by cases dst <;> rfl
theorem opened (hs : Sim C F σ S w) {ks : List Nat} (h : ∀ id ∈ ks, ∀ b, live S id → (σ id).blk = some b → F' b ∧ w'.heap[b]? = w.heap[b]?) (hst : Stp F σ S w F' σ' S' w') (hσ : ∀ id, σ id ≠ .no → σ' id = σ id) : OpenOk C F' σ' w' [(S, ks)] := fun q hq id hid => by
  simp only [List.mem_singleton] at hq
  subst hq
  by_cases hd : live S id
  · have e := hσ id (hs.place hd)
    rw [e]
    exact ⟨(hs.blk id).mono (hst.dat hs) hst.grow hσ fun b hb => (h id hid b hd hb).2, fun b l hb => (h id hid b l hb).1⟩
  · rw [not_live hd]
    exact ⟨trivial, fun b l => absurd l hd⟩
/-- One behind the other. -/
theorem opsD_seq {ops : Array Oper} {Q : Exit → Act → World → Prop} {call : CallF} {K : X → Option α} (hl : layB C = true) (hnm : namesB C = true) (hcall : Called C call) {F0 : Nat → Prop} {σ0 : Sig} {S0 : List Blk} {w0 : World} {ds : List Deferred} (hQ : ∀ a' w', RegEnd C K out F0 σ0 S0 w0 ds a' w' → Q .normal a' w') :
    ∀ (rest : List Oper) (i slot : Nat) (env : List AV) (S : List Blk) (op : List (List Blk × List Nat)) (a : Act) (w : World) (F : Nat → Prop) (σ : Sig), ops.toList.drop i = rest → Sim C F σ S w → EnvR C w F σ env a.tmps → (∀ j, slot ≤ j → j < slot + (rest.map fun o => slotsOf o.op).sum → Slot σ S j) → OpenOk C F σ w op → a.defers = ds →
      Stp F0 σ0 S0 w0 F σ S w → (∀ id, σ0 id ≠ .no → σ id = σ0 id) → S.length = S0.length → opsD C call ops.toList K rest [] slot env S op = some out → wpOps C.P ops Q (List.range' i rest.length) a w
  | [], i, slot, env, S, op, a, w, F, σ, _, hs, he, _, ho, hds, hst, hσ, hlen, h => by
    refine hQ a w ?_
    cases op with
    | nil => exact ⟨env, S, F, σ, h, hds, hs, he, hst, hσ, hlen⟩
    | cons q op => exact ⟨_, S, F, σ, h, hds, hs, OpenOk.envs ho he, hst, hσ, hlen⟩
  | o :: rest, i, slot, env, S, op, a, w, F, σ, hd, hs, he, hsl, ho, hds, hst, hσ, hlen, h => by
    have hi : ops[i]? = some o := by
      have := congrArg (·[0]?) hd
      simp only [List.getElem?_drop, Nat.add_zero, List.getElem?_cons_zero] at this
      rw [← this, Array.getElem?_toList]
    have hd' : ops.toList.drop (i + 1) = rest := by
      rw [← List.drop_drop, hd]
      rfl
    simp only [List.map_cons, List.sum_cons] at hsl
    unfold opsD at h
    obtain ⟨v, S', ks, hK, _, hwp⟩ := stepD_ok (Q := Q) (i := i) hl hnm hcall hi hs he (fun j h1 h2 => hsl j h1 (by omega)) h
    rw [List.length_cons, List.range'_succ, wpOps_cons]
    refine hwp _ fun val w' ⟨F', σ', p1, p2, p3, p4, p5, p6, p7⟩ => ?_
    have e2 := (he.mono (p2.dat hs) p2.grow p3).put (dst := o.dst) p5
    have sl2 : ∀ j, slot + slotsOf o.op ≤ j → j < slot + slotsOf o.op + (rest.map fun o => slotsOf o.op).sum → Slot σ' S' j := fun j h1 h2 => by
      obtain ⟨q1, q2, q3⟩ := hsl j (by omega) (by omega)
      obtain ⟨r1, r2⟩ := p7 j (.inr h1) q2 q3
      exact ⟨by omega, r1, r2⟩
    have σ2 : ∀ id, σ0 id ≠ .no → σ' id = σ0 id := fun id hid => by rw [p3 id (by rw [hσ id hid]; exact hid), hσ id hid]
    cases ks with
    | nil => exact opsD_seq hl hnm hcall hQ rest (i + 1) _ _ _ op _ w' F' σ' hd' p1 e2 sl2 (ho.mono (p2.dat hs) p2.grow p3) (by rw [put_defers, hds]) (hst.trans p2) σ2 (by omega) hK
    | cons k ks =>
      refine opsD_seq hl hnm hcall hQ rest (i + 1) _ _ _ (op ++ [(S, k :: ks)]) _ w' F' σ' hd' p1 e2 sl2 (fun q hq => ?_) (by rw [put_defers, hds]) (hst.trans p2) σ2 (by omega) hK
      rcases List.mem_append.mp hq with hq | hq
      · exact ho.mono (p2.dat hs) p2.grow p3 q hq
      · exact opened hs p4 p2 p3 q hq
end
end Go.Proofs.Ytfnepeilccainaa.Den

/- Proved here: a region's operation told without what follows it; what it hangs on; what of the store it turns. No condition. -/
namespace Go.Proofs.Ytfnepeilccainaa.Den
open Go
set_option linter.unusedVariables false
set_option linter.unusedSimpArgs false
section
variable {C : Cfg} {S : List Blk} {env env' : List AV} {o : Oper} {slot : Nat} {α : Type} {out : α} {call : CallF}
theorem callD_nat (hu : SNat call) {n : FuncId} {args : List AV} {K : KV α} (h : callD C call S slot n args K = some out) : ∃ v S' ks, K v S' ks = some out ∧ ∀ {β : Type} (K' : KV β), callD C call S slot n args K' = K' v S' ks := by
  unfold callD at h
  split at h
  · cases h
  · rename_i f hf
    split at h
    · rename_i g hg
      split at h
      · cases h
      · rename_i q hq
        obtain ⟨hc, h⟩ := ite_some h
        obtain ⟨hc2, h⟩ := ite_some h
        refine ⟨_, _, _, h, fun K' => ?_⟩
        unfold callD
        simp only [hf, hg, hq]
        rw [if_pos hc, if_pos hc2]
    rename_i hg
    split at h
    · rename_i e he
      obtain ⟨q, hq, h⟩ := Option.bind_eq_some_iff.mp h
      obtain ⟨hc, h⟩ := ite_some h
      refine ⟨_, _, _, h, fun K' => ?_⟩
      unfold callD
      simp only [hf, hg, he, hq]
      simp only [Option.bind_some]
      rw [if_pos hc]
    rename_i he
    split at h
    · rename_i hi
      obtain ⟨hb, h⟩ := ite_some h
      obtain ⟨v, S', ks, h1, h2⟩ := hu h
      obtain ⟨hlen, h1⟩ := ite_some h1
      refine ⟨v, S', ks, h1, fun K' => ?_⟩
      unfold callD
      simp only [hf, hg, he]
      rw [if_pos hi, if_pos hb, h2, if_pos hlen]
    rename_i hi
    split at h
    · cases h
    · rename_i x hx
      obtain ⟨hfr, h⟩ := ite_some h
      obtain ⟨r, hr, h⟩ := Option.bind_eq_some_iff.mp h
      obtain ⟨hc, h⟩ := ite_some h
      refine ⟨_, _, _, h, fun K' => ?_⟩
      unfold callD
      simp only [hf, hg, he, hx]
      rw [if_neg hi, if_pos hfr, hr]
      simp only [Option.bind_some]
      rw [if_pos hc]
theorem goD_nat (hu : SNat call) {K : KE α} (h : goD C call o slot env S K = some out) : ∃ v S' ks, K env v S' ks = some out ∧ ∀ {β : Type} (K' : KE β), goD C call o slot env S K' = K' env v S' ks := by
  have plain : (∀ {β : Type} (K' : KE β), goD C call o slot env S K' = opD C S env slot (K' env) o.op) → ∃ v S' ks, K env v S' ks = some out ∧ ∀ {β : Type} (K' : KE β), goD C call o slot env S K' = K' env v S' ks := by
    intro hg
    rw [hg, opD_nat] at h
    obtain ⟨⟨v, S', ks⟩, hq, hK⟩ := Option.bind_eq_some_iff.mp h
    refine ⟨_, _, _, hK, fun K' => ?_⟩
    rw [hg, opD_nat, hq]
    rfl
  cases hop : o.op
  case pick c x y =>
    have hg : ∀ {β : Type} (K' : KE β), goD C call o slot env S K' = match ev env c with
      | .b t => if t = true then K' (setO env c (.b true)) (ev env x) S [] else K' (setO env c (.b false)) (ev env y) S []
      | _ => none := fun K' => by unfold goD; rw [hop]; rfl
    rw [hg] at h
    split at h <;> try (cases h; done)
    rename_i t ec
    cases t with
    | true =>
      rw [if_pos rfl, setO_same ec] at h
      exact ⟨_, _, _, h, fun K' => by rw [hg, ec]; simp only [if_true]; rw [setO_same ec]⟩
    | false =>
      rw [if_neg (by simp), setO_same ec] at h
      exact ⟨_, _, _, h, fun K' => by rw [hg, ec]; simp only [Bool.false_eq_true, if_false]; rw [setO_same ec]⟩
  case call c =>
    obtain ⟨callee, args, tys⟩ := c
    cases callee
    case value f =>
      have hg : ∀ {β : Type} (K' : KE β), goD C call o slot env S K' = match ev env f with
        | .fn n first cap => if (first.all isOne && cap.all isOne) = true then callD C call S slot n (first ++ args.toList.map (ev env) ++ cap) (K' env) else none
        | _ => none := fun K' => by unfold goD; rw [hop]; rfl
      rw [hg] at h
      split at h <;> try (cases h; done)
      rename_i n first cap ef
      obtain ⟨hones, h⟩ := ite_some h
      obtain ⟨v, S', ks, h1, h2⟩ := callD_nat hu h
      exact ⟨v, S', ks, h1, fun K' => by rw [hg, ef]; dsimp only; rw [if_pos hones]; exact h2 (K' env)⟩
    all_goals exact plain fun K' => by unfold goD; rw [hop]
  all_goals exact plain fun K' => by unfold goD; rw [hop]
theorem stepD_nat (hu : SNat call) {all : List Oper} {K : KE α} (h : stepD C call all o slot env S K = some out) : ∃ v S' ks, K env v S' ks = some out ∧ ∀ {β : Type} (K' : KE β), stepD C call all o slot env S K' = K' env v S' ks := by
  cases hg : o.guard with
  | none =>
    have hst : ∀ {β : Type} (K' : KE β), stepD C call all o slot env S K' = goD C call o slot env S K' := fun K' => by unfold stepD; rw [hg]
    rw [hst] at h
    obtain ⟨v, S', ks, h1, h2⟩ := goD_nat hu h
    exact ⟨v, S', ks, h1, fun K' => by rw [hst]; exact h2 K'⟩
  | some gp =>
    obtain ⟨g, pol⟩ := gp
    have hst : ∀ {β : Type} (K' : KE β), stepD C call all o slot env S K' = match ev env (guardT all g) with
      | .b t => if t = pol then goD C call o slot (setO env (guardT all g) (.b pol)) S K' else K' (setO env (guardT all g) (.b (!pol))) (.t []) S []
      | .t [] => K' env (.t []) S []
      | _ => none := fun K' => by unfold stepD; rw [hg]; rfl
    rw [hst] at h
    split at h <;> try (cases h; done)
    rotate_left
    · rename_i et
      exact ⟨_, _, _, h, fun K' => by rw [hst, et]⟩
    rename_i t et
    by_cases q : t = pol
    · subst q
      rw [if_pos rfl, setO_same et] at h
      obtain ⟨v, S', ks, h1, h2⟩ := goD_nat hu h
      exact ⟨v, S', ks, h1, fun K' => by rw [hst, et]; simp only [if_true]; rw [setO_same et]; exact h2 K'⟩
    · have e : (!pol) = t := by cases t <;> cases pol <;> simp_all
      rw [if_neg q, e, setO_same et] at h
      exact ⟨.t [], S, [], h, fun K' => by rw [hst, et]; simp only [if_neg q]; rw [e, setO_same et]⟩
theorem all_congr {β : Type} {l : List β} {f g : β → Bool} (h : ∀ q ∈ l, f q = g q) : l.all f = l.all g := by
  induction l with
  | nil => rfl
  | cons x l ih => simp only [List.all_cons]; rw [h x (by simp), ih fun q hq => h q (by simp [hq])]
theorem foldl_congr {β γ : Type} {l : List β} {f g : γ → β → γ} (h : ∀ q ∈ l, ∀ z, f z q = g z q) : ∀ z, l.foldl f z = l.foldl g z := by
  induction l with
  | nil => exact fun _ => rfl
  | cons x l ih => intro z; simp only [List.foldl_cons]; rw [h x (by simp), ih fun q hq => h q (by simp [hq])]
/-- What an operation hangs on. -/
theorem opD_congr {op : Op} {K : KV α} (h : ∀ x ∈ op.operands, ev env x = ev env' x) : opD C S env slot K op = opD C S env' slot K op := by
  have pairs : ∀ ps : Array (Nat × Operand), (∀ x ∈ ps.map (·.2), ev env x = ev env' x) → ∀ q ∈ ps.toList, ev env q.2 = ev env' q.2 := fun ps hp q hq => hp q.2 (Array.mem_map.2 ⟨q, by simpa using hq, rfl⟩)
  have arr : ∀ ps : Array Operand, (∀ x ∈ ps, ev env x = ev env' x) → ps.toList.map (ev env) = ps.toList.map (ev env') := fun ps hp => List.map_congr_left fun x hx => hp x (by simpa using hx)
  cases op
  case build t ps =>
    have hp := pairs ps (by simpa [Op.operands] using h)
    simp only [opD]
    split
    · split
      · rename_i fs zs _ _
        rw [all_congr (l := ps.toList) (g := fun q => match fs[q.1]? with | some f => sh C C.P.depth f.type (ev env' q.2) | none => false) fun q hq => by rw [hp q hq]; rfl, foldl_congr (l := ps.toList) (g := fun zs q => zs.set q.1 (ev env' q.2)) fun q hq z => by rw [hp q hq]]
        rfl
      · rename_i n e zs _ _
        rw [all_congr (l := ps.toList) (g := fun q => decide (q.1 < n) && sh C C.P.depth e (ev env' q.2)) fun q hq => by rw [hp q hq], foldl_congr (l := ps.toList) (g := fun zs q => zs.set q.1 (ev env' q.2)) fun q hq z => by rw [hp q hq]]
      · rfl
    · rfl
  case buildSlice t n ps =>
    have hp := pairs ps (by simpa [Op.operands] using h)
    simp only [opD]
    rw [List.map_congr_left (l := ps.toList) (g := fun q => ev env' q.2) fun q hq => hp q hq]
  case makeFunc f x y =>
    have hx := arr x fun z hz => h z (by simp [Op.operands, hz])
    have hy := arr y fun z hz => h z (by simp [Op.operands, hz])
    cases f <;> simp only [opD]
    rw [hx, hy]
  case slice T x lo hi mx =>
    have hx := h x (by simp [Op.operands])
    have hlo : lo.map (ev env) = lo.map (ev env') := by
      cases lo with
      | none => rfl
      | some z => simp only [Option.map_some]; rw [h z (by simp [Op.operands])]
    have hhi : hi.map (ev env) = hi.map (ev env') := by
      cases hi with
      | none => rfl
      | some z => simp only [Option.map_some]; rw [h z (by simp [Op.operands])]
    cases mx with
    | none => simp only [opD, hx, hlo, hhi]
    | some m =>
      have hm := h m (by simp [Op.operands])
      cases lo <;> cases hi <;> simp only [opD]
      rename_i z
      rw [h z (by simp [Op.operands]), hx, hm]
  case call c =>
    obtain ⟨callee, args, tys⟩ := c
    have hx := arr args fun z hz => h z (by simp [Op.operands, Call.operands, hz])
    cases callee
    case builtin b =>
      cases b <;> simp only [opD]
      case max => rw [hx]
      case min => rw [hx]
      case len =>
        generalize C.und ((tys[0]?).getD C.P.types.size) = d
        generalize args.toList = l at hx
        cases l with
        | nil => cases d with
          | none => rfl
          | some d => cases d <;> rfl
        | cons x l =>
          cases l with
          | nil =>
            simp only [List.map_cons, List.map_nil, List.cons.injEq, and_true] at hx
            cases d with
            | none => rfl
            | some d => cases d <;> dsimp only <;> first | rfl | simp only [hx]
          | cons y l => cases d with
            | none => rfl
            | some d => cases d <;> rfl
      case append => rw [hx]
    all_goals simp only [opD]
  case move x => simp only [opD, h x (by simp [Op.operands])]
  case assign x => simp only [opD, h x (by simp [Op.operands])]
  case box T x => simp only [opD, h x (by simp [Op.operands])]
  case load T x => simp only [opD, h x (by simp [Op.operands])]
  case store T x y => simp only [opD, h x (by simp [Op.operands]), h y (by simp [Op.operands])]
  case nilCheck x => simp only [opD, h x (by simp [Op.operands])]
  case binOp op T x y yT => simp only [opD, h x (by simp [Op.operands]), h y (by simp [Op.operands])]
  case unOp op T x => simp only [opD, h x (by simp [Op.operands])]
  case convert s d x => simp only [opD, h x (by simp [Op.operands])]
  case makeSlice T x y => simp only [opD, h x (by simp [Op.operands]), h y (by simp [Op.operands])]
  case fieldAddr s x f => simp only [opD, h x (by simp [Op.operands])]
  case field s x f => simp only [opD, h x (by simp [Op.operands])]
  case indexAddr T x ix => simp only [opD, h x (by simp [Op.operands]), h ix (by simp [Op.operands])]
  case index T x ix => simp only [opD, h x (by simp [Op.operands]), h ix (by simp [Op.operands])]
  case extract x j => simp only [opD, h x (by simp [Op.operands])]
  all_goals simp only [opD]
end
end Go.Proofs.Ytfnepeilccainaa.Den

/- Proved here: what a region's operation hangs on, and what of the store it turns. No condition. -/
namespace Go.Proofs.Ytfnepeilccainaa.Den
open Go
set_option linter.unusedVariables false
set_option linter.unusedSimpArgs false
section
variable {C : Cfg} {S : List Blk} {env env' : List AV} {o : Oper} {slot : Nat} {α : Type} {out : α} {call : CallF}
theorem goD_congr {K : KV α} (h : ∀ x ∈ o.op.operands, ev env x = ev env' x) : goD C call o slot env S (fun _ => K) = goD C call o slot env' S (fun _ => K) := by
  unfold goD
  cases hop : o.op
  case pick c x y =>
    rw [hop] at h
    dsimp only
    rw [h c (by simp [Op.operands]), h x (by simp [Op.operands]), h y (by simp [Op.operands])]
  case call c =>
    rw [hop] at h
    obtain ⟨callee, args, tys⟩ := c
    have hx : args.toList.map (ev env) = args.toList.map (ev env') := List.map_congr_left fun x hx => h x (by simp [Op.operands, Call.operands]; exact .inr (by simpa using hx))
    cases callee
    case value f =>
      dsimp only
      rw [h f (by simp [Op.operands, Call.operands]), hx]
    all_goals exact opD_congr h
  all_goals (rw [hop] at h; exact opD_congr h)
theorem stepD_congr {ops : Array Oper} {K : KV α} (h : ∀ t ∈ o.looksAt ops, env.getD t .u = env'.getD t .u) : stepD C call ops.toList o slot env S (fun _ => K) = stepD C call ops.toList o slot env' S (fun _ => K) := by
  have hop : ∀ x ∈ o.op.operands, ev env x = ev env' x := fun x hx => by
    cases x with
    | tmp t => exact h t (List.mem_append_left _ (List.mem_filterMap.2 ⟨.tmp t, by simpa using hx, rfl⟩))
    | _ => rfl
  unfold stepD
  cases hg : o.guard with
  | none => exact goD_congr hop
  | some gp =>
    obtain ⟨g, pol⟩ := gp
    dsimp only
    have he : ev env (guardT ops.toList g) = ev env' (guardT ops.toList g) := by
      unfold guardT
      rw [Array.getElem?_toList]
      cases hog : ops[g]? with
      | none => rfl
      | some og =>
        dsimp only
        cases hd : og.dst with
        | none => rfl
        | some d => exact h d (List.mem_append_right _ (by simp [hg, hog, hd]))
    rw [← he]
    cases ht : ev env (guardT ops.toList g) with
    | b t =>
      dsimp only
      by_cases q : t = pol
      · subst q
        rw [if_pos rfl, if_pos rfl, setO_same ht, setO_same (he ▸ ht)]
        exact goD_congr hop
      · rw [if_neg q, if_neg q]
    | t vs => cases vs <;> rfl
    | _ => rfl
theorem passL_lent {C : Cfg} {S : List Blk} : ∀ {ms : List Nat} {Ts : List TypeId} {as : List AV} {x : List AV × List Nat × List Nat}, (ms.all fun m => m == 0 || m == 3) = true → passL C S ms Ts as = some x → x.2.2 = []
  | ms, Ts, [], x, _, h => by
    simp only [passL, Option.some.injEq] at h
    rw [← h]
  | ms, Ts, a :: as, x, hm, h => by
    simp only [passL] at h
    obtain ⟨y, hy, h⟩ := Option.bind_eq_some_iff.mp h
    obtain ⟨z, hz, h⟩ := Option.bind_eq_some_iff.mp h
    simp only [Option.some.injEq] at h
    have h1 := passL_lent (ms := ms.tail) (by
      cases ms with
      | nil => rfl
      | cons m ms => simp only [List.all_cons, Bool.and_eq_true] at hm; exact hm.2) hz
    have hm0 : ms.headD 0 = 0 ∨ ms.headD 0 = 3 := by
      cases ms with
      | nil => exact .inl rfl
      | cons m ms => simp only [List.all_cons, Bool.and_eq_true, Bool.or_eq_true, beq_iff_eq] at hm; exact hm.1
    have h2 : y.2.2 = [] := by
      rcases hm0 with e | e <;> rw [e] at hy <;> simp only [passD] at hy
      · split at hy <;> try (simp only [Option.some.injEq] at hy; rw [← hy]; done)
        all_goals
          obtain ⟨q, _, hq⟩ := Option.bind_eq_some_iff.mp hy
          simp only [Option.some.injEq] at hq
          rw [← hq]
      · split at hy <;> try (cases hy; done)
        · simp only [Option.some.injEq] at hy; rw [← hy]
        · split at hy <;> try (cases hy; done)
          split at hy <;> try (cases hy; done)
          obtain ⟨_, hy⟩ := ite_some hy
          obtain ⟨q, _, hq⟩ := Option.bind_eq_some_iff.mp hy
          simp only [Option.some.injEq] at hq
          rw [← hq]
        · split at hy <;> try (cases hy; done)
          split at hy <;> try (cases hy; done)
          obtain ⟨_, hy⟩ := ite_some hy
          simp only [Option.some.injEq] at hy
          rw [← hy]
    rw [← h]
    simp [h1, h2]
theorem tgtL_lent : ∀ {ms : List Nat} {Ts : List TypeId} {as : List AV}, (ms.all fun m => m == 0 || m == 3) = true → tgtL ms Ts as = []
  | ms, Ts, [], _ => rfl
  | ms, Ts, a :: as, hm => by
    have hm0 : ¬ ms.headD 0 = 1 := by
      cases ms with
      | nil => simp
      | cons m ms =>
        simp only [List.all_cons, Bool.and_eq_true, Bool.or_eq_true, beq_iff_eq] at hm
        simp only [List.headD_cons]
        omega
    unfold tgtL
    rw [if_neg hm0]
    exact tgtL_lent (by
      cases ms with
      | nil => rfl
      | cons m ms => simp only [List.all_cons, Bool.and_eq_true] at hm; exact hm.2)
theorem setL_slots : ∀ {Bs : List Blk} {S : List Blk} {slot : Nat}, (setL S slot Bs).length = S.length ∧ ∀ id, (id < slot ∨ slot + Bs.length ≤ id) → (setL S slot Bs).getD id .dead = S.getD id .dead
  | [], S, slot => ⟨rfl, fun _ _ => rfl⟩
  | B :: Bs, S, slot => by
    obtain ⟨h1, h2⟩ := setL_slots (Bs := Bs) (S := S.set slot B) (slot := slot + 1)
    refine ⟨by simpa [setL] using h1, fun id hid => ?_⟩
    simp only [List.length_cons] at hid
    show (setL (S.set slot B) (slot + 1) Bs).getD id .dead = _
    rw [h2 id (by omega), getD_set_ne (by omega)]
/-- New places take slots alone. -/
theorem putAll_slots {C : Cfg} : ∀ {ps : List (Nat × TypeId × Option Nat)} {o : List AV} {S : List Blk} {slot : Nat}, (∀ q ∈ ps, q.2.2 = none) →
    (putAll C ps o S slot).2.1.length = S.length ∧ slot ≤ (putAll C ps o S slot).2.2 ∧ ∀ id, (id < slot ∨ (putAll C ps o S slot).2.2 ≤ id) → (putAll C ps o S slot).2.1.getD id .dead = S.getD id .dead
  | [], o, S, slot, _ => ⟨rfl, Nat.le_refl _, fun _ _ => rfl⟩
  | (m, T, some id) :: ps, o, S, slot, h => by
    have := h (m, T, some id) (by simp)
    simp at this
  | (m, T, none) :: ps, o, S, slot, h => by
    obtain ⟨h1, h2, h3⟩ := putAll_slots (C := C) (ps := ps) (o := o.tail) (S := setL S slot (lay C m T slot (slot + 1) (o.headD .u)).2) (slot := slot + (lay C m T slot (slot + 1) (o.headD .u)).2.length) fun q hq => h q (by simp [hq])
    simp only [putAll]
    refine ⟨by rw [h1, setL_slots.1], by omega, fun id hid => ?_⟩
    rw [h3 id (by omega), setL_slots.2 id (by omega)]
theorem rmL_none {ms : List Nat} {Ts : List TypeId} : ∀ q ∈ rmL ms Ts, q.2.2 = none := fun q hq => by
  unfold rmL at hq
  obtain ⟨x, _, rfl⟩ := List.mem_map.mp hq
  rfl
theorem clsO_le {o : Oper} (h : ∀ n args tys, o.op ≠ .call { callee := .value (.func n), args := args, argTypes := tys }) : clsO C o = cls o.op := by
  unfold clsO
  split
  · rename_i n args tys hop
    exact absurd hop (h _ _ _)
  · rfl
/-- What of the store a region's operation turns. -/
theorem goD_eff {v : AV} {S' : List Blk} (hc : clsO C o ≤ 2) (h : goD C call o slot env S (fun _ => keepK) = some (v, S', [])) : S'.length = S.length ∧ (clsO C o ≤ 1 → S' = S) ∧ ∀ id, (id < slot ∨ slot + slotsOf o.op ≤ id) → S'.getD id .dead = S.getD id .dead := by
  have plain : (∀ n args tys, o.op ≠ .call { callee := .value (.func n), args := args, argTypes := tys }) → goD C call o slot env S (fun _ => keepK) = opD C S env slot keepK o.op → S'.length = S.length ∧ (clsO C o ≤ 1 → S' = S) ∧ ∀ id, (id < slot ∨ slot + slotsOf o.op ≤ id) → S'.getD id .dead = S.getD id .dead := fun hn hg => by
    rw [clsO_le hn] at hc ⊢
    rw [hg] at h
    by_cases q : cls o.op ≤ 1
    · have := (cls_still q _ h).1
      dsimp only at this
      rw [this]
      exact ⟨rfl, fun _ => rfl, fun _ _ => rfl⟩
    · obtain ⟨h1, B, rfl⟩ := cls_slot (by omega) h
      exact ⟨List.length_set .., fun h => absurd h q, fun id hid => by rw [h1] at hid; exact getD_set_ne (by omega)⟩
  cases hop : o.op
  case pick c x y =>
    have hg : goD C call o slot env S (fun _ => keepK) = match ev env c with
      | .b t => if t = true then keepK (ev env x) S [] else keepK (ev env y) S []
      | _ => none := by unfold goD; rw [hop]; rfl
    rw [hg] at h
    split at h <;> try (cases h; done)
    split at h <;> (simp only [Option.some.injEq, Prod.mk.injEq] at h; obtain ⟨_, rfl, _⟩ := h; exact ⟨rfl, fun _ => rfl, fun _ _ => rfl⟩)
  case call c =>
    obtain ⟨callee, args, tys⟩ := c
    cases callee
    case value f =>
      cases f
      case func n =>
        have hg : goD C call o slot env S (fun _ => keepK) = callD C call S slot n ([] ++ args.toList.map (ev env) ++ []) keepK := by unfold goD; rw [hop]; rfl
        rw [hg] at h
        have hcl : clsO C o = match C.P.funcs[n]? with
          | some f => if (C.primS n).isNone = true ∧ (C.ext n).isNone = true ∧ (C.inl n).isNone = true ∧ lends C n f = true then 2 else 3
          | none => 3 := by unfold clsO; rw [hop]; rfl
        rw [hcl] at hc ⊢
        unfold callD at h
        cases hf : C.P.funcs[n]? with
        | none => rw [hf] at hc; simp at hc
        | some f =>
          rw [hf] at hc h
          dsimp only at hc h
          by_cases hlp : (C.primS n).isNone = true ∧ (C.ext n).isNone = true ∧ (C.inl n).isNone = true ∧ lends C n f = true
          · obtain ⟨hpn, hxn, hin, hle⟩ := hlp
            have hpn' := Option.isNone_iff_eq_none.mp hpn
            have hxn' := Option.isNone_iff_eq_none.mp hxn
            have hin' : ∀ args, inlB C n args = false := fun args => by unfold inlB; rw [Option.isNone_iff_eq_none.mp hin]
            rw [hpn'] at h
            dsimp only at h
            rw [hxn'] at h
            dsimp only at h
            rw [hin', if_neg (by simp)] at h
            split at h <;> try (cases h; done)
            rename_i x hx
            obtain ⟨_, h⟩ := ite_some h
            obtain ⟨r, hr, h⟩ := Option.bind_eq_some_iff.mp h
            obtain ⟨hcc, h⟩ := ite_some h
            have hle' := hle
            unfold lends at hle'
            rw [Bool.and_eq_true] at hle'
            rw [if_pos hle, passL_lent hle'.1 hx, tgtL_lent hle'.1] at h
            rw [passL_lent hle'.1 hx, if_pos hle, tgtL_lent hle'.1] at hcc
            simp only [List.append_nil, kill_nil] at h hcc
            simp only [Option.some.injEq, Prod.mk.injEq] at h
            obtain ⟨_, rfl, _⟩ := h
            dsimp only at hcc ⊢
            obtain ⟨t1, t0, t2⟩ := putAll_slots (C := C) (ps := rmL (C.rm n) f.resultTypes.toList) (o := r) (S := S) (slot := slot) rmL_none
            refine ⟨t1, fun h => by rw [if_pos ⟨hpn, hxn, hin, hle⟩] at h; omega, fun id hid => t2 id ?_⟩
            have e : slotsOf (Op.call { callee := .value (.func n), args := args, argTypes := tys }) = 8 := rfl
            rw [e] at hid
            omega
          · rw [if_neg hlp] at hc
            omega
      all_goals (unfold clsO at hc; rw [hop] at hc; simp [cls] at hc)
    case builtin b => exact hop ▸ plain (fun n args tys e => by rw [hop] at e; cases e) (by unfold goD; rw [hop])
    case invoke r m => exact hop ▸ plain (fun n args tys e => by rw [hop] at e; cases e) (by unfold goD; rw [hop])
  all_goals exact hop ▸ plain (fun n args tys e => by rw [hop] at e; cases e) (by unfold goD; rw [hop])
theorem stepD_eff {all : List Oper} {v : AV} {S' : List Blk} (hc : clsO C o ≤ 2) (h : stepD C call all o slot env S (fun _ => keepK) = some (v, S', [])) : S'.length = S.length ∧ (clsO C o ≤ 1 → S' = S) ∧ ∀ id, (id < slot ∨ slot + slotsOf o.op ≤ id) → S'.getD id .dead = S.getD id .dead := by
  unfold stepD at h
  split at h
  · exact goD_eff hc h
  · split at h <;> try (cases h; done)
    rotate_left
    · simp only [Option.some.injEq, Prod.mk.injEq] at h
      obtain ⟨_, rfl, _⟩ := h
      exact ⟨rfl, fun _ => rfl, fun _ _ => rfl⟩
    split at h
    · exact goD_eff hc h
    · simp only [Option.some.injEq, Prod.mk.injEq] at h
      obtain ⟨_, rfl, _⟩ := h
      exact ⟨rfl, fun _ => rfl, fun _ _ => rfl⟩
end
end Go.Proofs.Ytfnepeilccainaa.Den

/- Proved here: a drawn region's operations, one behind the other, as the evaluator took them. No condition. -/
namespace Go.Proofs.Ytfnepeilccainaa.Den
open Go
set_option linter.unusedVariables false
set_option linter.unusedSimpArgs false
section
variable {C : Cfg} {α : Type} {out : α} {call : CallF}
/-- The slot of the operation at a place. -/
def slotAt (L : List Oper) (base i : Nat) : Nat := base + ((L.take i).map fun o => slotsOf o.op).sum
/-- How the evaluator went through a region. -/
structure Chain (C : Cfg) (call : CallF) (all rest : List Oper) (pl : Plan) (base : Nat) (E : Nat → List AV) (St : Nat → List Blk) (V : Nat → AV) (KS : Nat → List Nat) : Prop where
  step : ∀ i o, rest[i]? = some o → ∃ S', stepD C call all o (slotAt rest base i) (E i) (hideS (pl.getD i (some [], true)).1 (St i)) (fun _ => keepK) = some (V i, S', KS i) ∧ E (i + 1) = putE (E i) o.dst (V i) ∧
    (KS i = [] → St (i + 1) = backS (pl.getD i (some [], true)).1 (St i) S') ∧ (KS i ≠ [] → pl.getD i (some [], true) = (some [], true) ∧ St (i + 1) = S')
def openedL (St : Nat → List Blk) (KS : Nat → List Nat) (n : Nat) : List (List Blk × List Nat) := (List.range n).filterMap fun i => if KS i = [] then none else some (St i, KS i)
def endEnv (op : List (List Blk × List Nat)) (env : List AV) : List AV := match op with
  | [] => env
  | _ => env.map (openL op)
theorem getD_tail (pl : Plan) (i : Nat) (d) : pl.tail.getD i d = pl.getD (i + 1) d := by cases pl <;> rfl
theorem opsD_chain (hu : SNat call) {all : List Oper} {K : X → Option α} : ∀ (rest : List Oper) (pl : Plan) (slot : Nat) (env : List AV) (S : List Blk) (op : List (List Blk × List Nat)), opsD C call all K rest pl slot env S op = some out →
    ∃ E St V KS, E 0 = env ∧ St 0 = S ∧ Chain C call all rest pl slot E St V KS ∧ K ⟨endEnv (op ++ openedL St KS rest.length) (E rest.length), St rest.length⟩ = some out
  | [], pl, slot, env, S, op, h => by
    refine ⟨fun _ => env, fun _ => S, fun _ => .u, fun _ => [], rfl, rfl, ⟨fun i o hi => by simp at hi⟩, ?_⟩
    unfold opsD at h
    simp only [openedL, List.length_nil, List.range_zero, List.filterMap_nil, List.append_nil]
    cases op <;> exact h
  | o :: rest, pl, slot, env, S, op, h => by
    unfold opsD at h
    obtain ⟨v, S', ks, hK, hst⟩ := stepD_nat hu h
    have hkeep := hst (fun _ => keepK)
    have main : ∀ (S1 : List Blk) (op1 : List (List Blk × List Nat)), op1 = op ++ (if ks = [] then [] else [(S, ks)]) → (ks = [] → S1 = backS (pl.headD (some [], true)).1 S S') → (ks ≠ [] → pl.headD (some [], true) = (some [], true) ∧ S1 = S') → opsD C call all K rest pl.tail (slot + slotsOf o.op) (putE env o.dst v) S1 op1 = some out →
        ∃ E St V KS, E 0 = env ∧ St 0 = S ∧ Chain C call all (o :: rest) pl slot E St V KS ∧ K ⟨endEnv (op ++ openedL St KS (o :: rest).length) (E (o :: rest).length), St (o :: rest).length⟩ = some out := by
      intro S1 op1 ho h1 h2 hr
      obtain ⟨E, St, V, KS, e1, e2, e3, e4⟩ := opsD_chain hu rest pl.tail _ _ S1 op1 hr
      refine ⟨fun | 0 => env | i + 1 => E i, fun | 0 => S | i + 1 => St i, fun | 0 => v | i + 1 => V i, fun | 0 => ks | i + 1 => KS i, rfl, rfl, ⟨fun i q hi => ?_⟩, ?_⟩
      · cases i with
        | zero =>
          simp only [List.getElem?_cons_zero, Option.some.injEq] at hi
          subst hi
          have hd : pl.getD 0 (some [], true) = pl.headD (some [], true) := by cases pl <;> rfl
          rw [hd]
          refine ⟨S', by simpa [slotAt] using hkeep, e1, fun hk => e2.trans (h1 hk), fun hk => ⟨(h2 hk).1, e2.trans (h2 hk).2⟩⟩
        | succ i =>
          simp only [List.getElem?_cons_succ] at hi
          obtain ⟨S2, r1, r2, r3, r4⟩ := e3.step i q hi
          rw [getD_tail] at r1 r3 r4
          refine ⟨S2, ?_, r2, r3, r4⟩
          have : slotAt (o :: rest) slot (i + 1) = slotAt rest (slot + slotsOf o.op) i := by
            simp only [slotAt, List.take_succ_cons, List.map_cons, List.sum_cons]
            omega
          rw [this]
          exact r1
      · have : openedL (fun | 0 => S | i + 1 => St i) (fun | 0 => ks | i + 1 => KS i) (rest.length + 1) = (if ks = [] then [] else [(S, ks)]) ++ openedL St KS rest.length := by
          simp only [openedL, List.range_succ_eq_map, List.filterMap_cons, List.filterMap_map]
          by_cases hk : ks = []
          · rw [if_pos hk, if_pos hk]; rfl
          · rw [if_neg hk, if_neg hk]; rfl
        rw [List.length_cons, this, ← List.append_assoc, ← ho]
        exact e4
    cases ks with
    | nil => exact main _ op (by simp) (fun _ => rfl) (fun h => absurd rfl h) hK
    | cons k ks =>
      dsimp only at hK
      split at hK
      · rename_i hp
        exact main _ _ (by simp) (fun h => by cases h) (fun _ => ⟨hp, rfl⟩) hK
      · cases hK
end
end Go.Proofs.Ytfnepeilccainaa.Den

/- Proved here: what the evaluator's check of a drawn region tells. No condition. -/
namespace Go.Proofs.Ytfnepeilccainaa.Den
open Go
set_option linter.unusedVariables false
set_option linter.unusedSimpArgs false
section
variable {C : Cfg}
theorem mem_addAll {x : Nat} : ∀ {b a : List Nat}, x ∈ addAll a b → x ∈ a ∨ x ∈ b
  | [], a, h => .inl h
  | y :: b, a, h => by
    unfold addAll at h
    split at h
    · rcases mem_addAll h with h | h
      · exact .inl h
      · exact .inr (by simp [h])
    · rcases mem_addAll h with h | h
      · rcases List.mem_append.mp h with h | h
        · exact .inl h
        · exact .inr (by simp at h; simp [h])
      · exact .inr (by simp [h])
def ancF (acc : List (List Nat)) (o : Oper) : List Nat := o.after.toList.foldl (fun s e => if Region.binds .any e = true then addAll (addAll s [e.on]) (acc.getD e.on []) else s) []
theorem mem_ancF {acc : List (List Nat)} {o : Oper} {x : Nat} (h : x ∈ ancF acc o) : ∃ e ∈ o.after.toList, Region.binds .any e = true ∧ (x = e.on ∨ x ∈ acc.getD e.on []) := by
  unfold ancF at h
  have key : ∀ (es : List Edge) (s : List Nat), x ∈ es.foldl (fun s e => if Region.binds .any e = true then addAll (addAll s [e.on]) (acc.getD e.on []) else s) s → x ∈ s ∨ ∃ e ∈ es, Region.binds .any e = true ∧ (x = e.on ∨ x ∈ acc.getD e.on []) := by
    intro es
    induction es with
    | nil => exact fun s h => .inl h
    | cons e es ih =>
      intro s h
      simp only [List.foldl_cons] at h
      rcases ih _ h with h | ⟨e', h1, h2⟩
      · split at h
        · rename_i hb
          rcases mem_addAll h with h | h
          · rcases mem_addAll h with h | h
            · exact .inl h
            · exact .inr ⟨e, by simp, hb, .inl (by simpa using h)⟩
          · exact .inr ⟨e, by simp, hb, .inr h⟩
        · exact .inl h
      · exact .inr ⟨e', by simp [h1], h2⟩
  rcases key _ _ h with h | h
  · simp at h
  · exact h
theorem ancs_pre : ∀ (rest : List Oper) (acc : List (List Nat)) (i : Nat), i < acc.length → (ancs rest acc).getD i [] = acc.getD i []
  | [], acc, i, _ => rfl
  | o :: rest, acc, i, h => by
    unfold ancs
    rw [ancs_pre rest _ i (by simp; omega)]
    simp only [List.getD_eq_getElem?_getD]
    rw [List.getElem?_append_left h]
theorem ancs_at : ∀ (rest : List Oper) (acc : List (List Nat)) (i : Nat) (o : Oper), rest[i]? = some o → ∃ acc', (ancs rest acc).getD (acc.length + i) [] = ancF acc' o ∧ ∀ k x, x ∈ acc'.getD k [] → x ∈ (ancs rest acc).getD k []
  | [], acc, i, o, h => by simp at h
  | q :: rest, acc, i, o, h => by
    unfold ancs
    cases i with
    | zero =>
      simp only [List.getElem?_cons_zero, Option.some.injEq] at h
      subst h
      refine ⟨acc, ?_, fun k x hx => ?_⟩
      · rw [ancs_pre _ _ _ (by simp)]
        simp only [Nat.add_zero, List.getD_eq_getElem?_getD]
        rw [List.getElem?_append_right (Nat.le_refl _), Nat.sub_self]
        rfl
      · by_cases hk : k < acc.length
        · rw [ancs_pre _ _ _ (by simp; omega)]
          simp only [List.getD_eq_getElem?_getD] at hx ⊢
          rw [List.getElem?_append_left hk]
          exact hx
        · rw [List.getD_eq_getElem?_getD, List.getElem?_eq_none (by omega)] at hx
          simp at hx
    | succ i =>
      simp only [List.getElem?_cons_succ] at h
      obtain ⟨acc', h1, h2⟩ := ancs_at rest (acc ++ [ancF acc q]) i o h
      simp only [List.length_append, List.length_cons, List.length_nil] at h1
      rw [show acc.length + (0 + 1) + i = acc.length + (i + 1) by omega] at h1
      exact ⟨acc', h1, h2⟩
/-- What comes ahead of an operation. -/
def anc (L : List Oper) (i : Nat) : List Nat := (ancs L []).getD i []
theorem anc_mem {L : List Oper} {i : Nat} {o : Oper} (hi : L[i]? = some o) {x : Nat} (h : x ∈ anc L i) : ∃ e ∈ o.after.toList, Region.binds .any e = true ∧ (x = e.on ∨ x ∈ anc L e.on) := by
  obtain ⟨acc', h1, h2⟩ := ancs_at L [] i o hi
  simp only [List.length_nil, Nat.zero_add] at h1
  unfold anc at h
  rw [h1] at h
  obtain ⟨e, h3, h4, h5⟩ := mem_ancF h
  exact ⟨e, h3, h4, h5.imp id (h2 _ _)⟩
structure Draw (C : Cfg) (L : List Oper) : Prop where
  back : ∀ i o e, L[i]? = some o → e ∈ o.after.toList → Region.binds .any e = true → e.on < i
  pair : ∀ i j oi oj, j < i → L[i]? = some oi → L[j]? = some oj → j ∈ anc L i ∨ ((clsO C oi ≠ 3 ∨ clsO C oj ≤ 2) ∧ (clsO C oj ≠ 3 ∨ clsO C oi ≤ 2) ∧ oi.apart L.toArray oj = true)
theorem draw_of {L : List Oper} (h : drawOk C L = true) : Draw C L := by
  unfold drawOk at h
  dsimp only at h
  rw [List.all_eq_true] at h
  have at_ : ∀ i o, L[i]? = some o → _ := fun i o hi => h (o, i) (by
    rw [List.mem_iff_getElem?]
    exact ⟨i, by rw [List.getElem?_zipIdx, hi]; simp⟩)
  refine ⟨fun i o e hi he hb => ?_, fun i j oi oj hj hi hoj => ?_⟩
  · have := at_ i o hi
    rw [Bool.and_eq_true, List.all_eq_true] at this
    have := this.1 e he
    simpa [hb] using this
  · have := at_ i oi hi
    rw [Bool.and_eq_true] at this
    have := List.all_eq_true.mp this.2 (oj, j) (by
      rw [List.mem_iff_getElem?]
      refine ⟨j, ?_⟩
      rw [List.getElem?_zipIdx, List.getElem?_take, if_pos hj, hoj]
      simp)
    simp only [Bool.or_eq_true, Bool.and_eq_true, bne_iff_ne, ne_eq, beq_iff_eq, List.contains_iff_mem, decide_eq_true_eq] at this
    rcases this with this | ⟨⟨h1, h2⟩, h3⟩
    · exact .inl this
    · exact .inr ⟨h1, h2, h3⟩
theorem anc_lt {L : List Oper} (hd : Draw C L) : ∀ (i : Nat) (o : Oper), L[i]? = some o → ∀ x ∈ anc L i, x < i := by
  intro i
  induction i using Nat.strongRecOn with
  | ind i ih =>
    intro o hi x hx
    obtain ⟨e, h1, h2, h3⟩ := anc_mem hi hx
    have hlt := hd.back i o e hi h1 h2
    rcases h3 with rfl | h3
    · exact hlt
    · obtain ⟨oe, hoe⟩ := getElem?_of_lt (l := L) (j := e.on) (by have := getElem?_lt hi; omega)
      have := ih e.on hlt oe hoe x h3
      omega
/-- A listed set holds what comes ahead of what it holds. -/
theorem anc_in {L : List Oper} (hd : Draw C L) {D : Nat → Prop} (hD : ∀ i o, D i → L[i]? = some o → ∀ e ∈ o.after.toList, Region.binds .any e = true → D e.on) : ∀ (i : Nat) (o : Oper), L[i]? = some o → (∀ e ∈ o.after.toList, Region.binds .any e = true → D e.on) → ∀ x ∈ anc L i, D x := by
  intro i
  induction i using Nat.strongRecOn with
  | ind i ih =>
    intro o hi he x hx
    obtain ⟨e, h1, h2, h3⟩ := anc_mem hi hx
    have hDe := he e h1 h2
    rcases h3 with rfl | h3
    · exact hDe
    · have hlt := hd.back i o e hi h1 h2
      obtain ⟨oe, hoe⟩ := getElem?_of_lt (l := L) (j := e.on) (by have := getElem?_lt hi; omega)
      exact ih e.on hlt oe hoe (hD e.on oe hDe hoe) x h3
theorem cls0_slots {o : Oper} (h : clsO C o ≤ 1) : slotsOf o.op = 0 := by
  unfold clsO at h
  split at h
  · split at h
    · split at h <;> omega
    · omega
  · revert h
    generalize o.op = op
    intro h
    cases op <;> try rfl
    all_goals try (simp [cls] at h; done)
    rename_i c
    obtain ⟨callee, args, tys⟩ := c
    cases callee <;> try (simp [cls] at h; done)
    rename_i b
    cases b <;> first | rfl | (simp [cls] at h; done)
end
end Go.Proofs.Ytfnepeilccainaa.Den
