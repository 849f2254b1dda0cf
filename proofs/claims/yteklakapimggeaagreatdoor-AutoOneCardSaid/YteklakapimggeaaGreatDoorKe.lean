/- Proved here: a part of the proof, told one step at a time: DenZQ, DenZR, DenZS, DenZT. No condition but those each theorem names. -/
import Derived.Test.YteklakapimggeaaGreatDoorKd
import Derived.Laws.Sem
import Derived.Defers
namespace Go.Proofs.YteklakapimggeaaGreatDoor.Den
open Go
set_option linter.unusedVariables false
set_option linter.unusedSimpArgs false
section
variable {C : Cfg} {F : Nat → Prop} {σ : Sig} {S : List Blk} {w w' : World}
theorem rmL_length {ms : List Nat} {Ts : List TypeId} : (rmL ms Ts).length = Ts.length := by simp [rmL]
theorem rmL_at {ms : List Nat} {Ts : List TypeId} {j : Nat} {T : TypeId} (h : Ts[j]? = some T) : (rmL ms Ts)[j]? = some (ms.getD j 0, T, none) := by
 unfold rmL
 rw [List.getElem?_map, List.getElem?_zipIdx, h]
 simp
def PrimSOk (C : Cfg) : Prop :=
 ∀ {n : FuncId} {g : List Blk → Nat → List AV → Option (Bool × AV × List Blk × List Nat)}, C.primS n = some g → ∀ {F : Nat → Prop} {σ : Sig} {S : List Blk} {w : World} {slot : Nat} {args : List AV} {vals : Array Value} {q : AV × List Blk × List Nat} {o : Oper}, slotsOf o.op = 8 → Sim C F σ S w → (∀ j, slot ≤ j → j < slot + 8 → Slot σ S j) →
  vals.size = args.length → (∀ (j : Nat) a v, args[j]? = some a → vals[j]? = some v → VR C w F σ a v) → g S slot args = some (true, q) → q.2.1.length = S.length → Calls C.P n vals w fun e w' => ∃ val, e = .returned val ∧ Post C o F σ S w slot q.1 q.2.1 q.2.2 val w'
def SOk (C : Cfg) (call : CallF) : Prop :=
 ∀ {n : FuncId} {f : Func} {S : List Blk} {slot : Nat} {args : List AV} {v : AV} {S' : List Blk} {ks : List Nat}, C.P.funcs[n]? = some f → f.body.isSome = true → call.s n f S slot args (fun v S' ks => some (v, S', ks)) = some (v, S', ks) → ∀ {F : Nat → Prop} {σ : Sig} {w : World} {vals : Array Value} {o : Oper}, slotsOf o.op = 8 → Sim C F σ S w → (∀ j, slot ≤ j → j < slot + 8 → Slot σ S j) →
  vals.size = args.length → (∀ (j : Nat) a v, args[j]? = some a → vals[j]? = some v → VR C w F σ a v) → Calls C.P n vals w fun e w' => ∃ val, e = .returned val ∧ Post C o F σ S w slot v S' ks val w'
theorem called_of (hl : layB C = true) {call : CallF} (hps : PrimSOk C) (hx : ExtOk C) (hc : CalleeOk C (callP C call)) (hnat : SNat call) (hsok : SOk C call) : Called C call := by
 refine ⟨hnat, ?_⟩
 intro F σ S w slot n args vals α K out o ho hs hslot hn hv h
 have h0 := h
 unfold callD at h
 split at h
 ·cases h
 rename_i f hf
 split at h
 ·rename_i g hg
  split at h
  ·cases h
  rename_i q hq
  obtain ⟨hct, h⟩ := ite_some h
  obtain ⟨hcond, h⟩ := ite_some h
  refine ⟨_, _, _, h, fun K' => ?_, .inl ⟨f, hf, hcond.2, hps hg ho hs hslot hn hv (q := q.2) (by rw [hq, ← hct]) hcond.1⟩⟩
  unfold callD
  simp only [hf, hg, hq]
  rw [if_pos hct, if_pos hcond]
 rename_i hg
 split at h
 ·rename_i e he
  obtain ⟨q, hq, h⟩ := Option.bind_eq_some_iff.mp h
  obtain ⟨hcond, h⟩ := ite_some h
  obtain ⟨val, w', k1, k2⟩ := ext_ok (o := o) (slot := slot) hl hx hf he hs hn hv hq
  refine ⟨_, _, _, h, fun K' => ?_, .inr ⟨val, w', k1, k2⟩⟩
  unfold callD
  simp only [hf, hg, he, hq]
  simp only [Option.bind_some]
  rw [if_pos hcond]
 rename_i he
 split at h
 ·rename_i hi
  obtain ⟨hb, h⟩ := ite_some h
  obtain ⟨v, S', ks, h1, h2⟩ := hnat h
  obtain ⟨hlen, h1⟩ := ite_some h1
  refine ⟨v, S', ks, h1, fun K' => ?_, .inl ⟨f, hf, hb, hsok hf hb (h2 _) ho hs hslot hn hv⟩⟩
  unfold callD
  simp only [hf, hg, he]
  rw [if_pos hi, if_pos hb, h2, if_pos hlen]
 rename_i hi
 split at h
 ·cases h
 rename_i x hx
 obtain ⟨xs, ks, src⟩ := x
 obtain ⟨⟨hargs, hfree⟩, h⟩ := ite_some h
 obtain ⟨r, hr, h⟩ := Option.bind_eq_some_iff.mp h
 obtain ⟨⟨hend, hbody⟩, h⟩ := ite_some h
 dsimp only at hfree hr hend h
 obtain ⟨p1, p2, plss, p3, p4, p5, p6, _⟩ := passL_ok hl hs (C.pm n) (parL f) args xs ks src vals.toList (by simpa using hn) (fun j a v ha hv' => hv j a v ha (by simpa using hv')) hx
 obtain ⟨e0, e1, e2⟩ := enter_ok hs (by omega) (by simp; omega) p4 p5 hfree
 have hcalls := hc (vals := vals) hf hbody (by omega) hr e0 (by omega) e2 fun j a v ha hv' => e1 j a v ha (by simpa using hv')
 refine ⟨_, _, _, h, fun K' => ?_, .inl ⟨f, hf, hbody, hcalls.mono fun e w' hq => ?_⟩⟩
 ·unfold callD
  simp only [hf, hg, he, hx]
  rw [if_neg hi, if_pos ⟨hargs, hfree⟩, hr]
  simp only [Option.bind_some]
  rw [if_pos ⟨hend, hbody⟩]
 obtain ⟨val, rfl, F1, σ1, S1, vs, pls1, ks1, src1, g1, g2, g4, g5, g6, g7, g8, g9, g10, g11⟩ := hq
 refine ⟨val, rfl, ?_⟩
 obtain ⟨t1, t2⟩ := ref_tgt (C := C) (C.pm n) (parL f) args plss 0 (by simp [parL]; omega) (by omega) fun j pls hp t base y => by
  obtain ⟨x, hx'⟩ := getElem?_of_lt (l := xs) (j := j) (by have := getElem?_lt hp; omega)
  obtain ⟨v, hv'⟩ := getElem?_of_lt (l := vals.toList) (j := j) (by have := getElem?_lt hp; simp; omega)
  exact (p4 j x pls v hx' hp hv').1 t base y
 have htarg : ∀ k q, (tgtL (C.pm n) (parL f) args)[k]? = some q → ∃ T a, (refE C 0 (C.pm n) (parL f))[k]? = some (T, a) ∧ q.1 = 1 ∧ q.2.1 = T ∧ ∀ id, q.2.2 = some id → id ∈ src ∧ live S id ∧ ∀ pls, pls1[f.resultTypes.size + k]? = some pls → pls.head? = some (σ id) := fun k q hk => by
  obtain ⟨⟨T, a⟩, hTa⟩ := getElem?_of_lt (l := refE C 0 (C.pm n) (parL f)) (j := k) (by have := getElem?_lt hk; omega)
  obtain ⟨m, T', opt⟩ := q
  obtain ⟨u1, u2, j, aj, pls, u3, u4, u5, u6, u7⟩ := t2 k T a m T' opt hTa hk
  refine ⟨T, a, hTa, u1, u2, fun id hid => ?_⟩
  dsimp only at hid
  rw [hid] at u6
  obtain ⟨d1, d2, d3⟩ := p6 j aj pls u3 u4 (.inl u5) id (opt_cases u6.symm)
  refine ⟨d2, d3, fun p1' hp1 => ?_⟩
  obtain ⟨t, ha, hh⟩ := g10 k T a p1' hTa hp1
  have := u7 t ha (fun i => plss.flatten.getD i .no) fun i hi => by rw [Nat.zero_add]
  rw [d1] at this
  have e : plss.flatten.getD t .no = σ id := (Option.some.inj this).symm
  rw [hh]
  exact congrArg some e
 have hsl : ∀ j, slot ≤ j → j < slot + 8 → Slot σ S j := hslot
 have hpsn : (rmL (C.rm n) f.resultTypes.toList).length = f.resultTypes.size := by rw [rmL_length]; simp
 have hat : ∀ (j : Nat) q, (rmL (C.rm n) f.resultTypes.toList ++ tgtL (C.pm n) (parL f) args)[j]? = some q → (∃ T, f.resultTypes.toList[j]? = some T ∧ q = ((C.rm n).getD j 0, T, none)) ∨ (f.resultTypes.size ≤ j ∧ (tgtL (C.pm n) (parL f) args)[j - f.resultTypes.size]? = some q) := fun j q hq => by
  rw [List.getElem?_append, hpsn] at hq
  split at hq
  ·rename_i hlt
   obtain ⟨T, hT⟩ := getElem?_of_lt (l := f.resultTypes.toList) (j := j) (by simpa using hlt)
   rw [rmL_at hT] at hq
   exact .inl ⟨T, hT, (Option.some.inj hq).symm⟩
  ·exact .inr ⟨by omega, hq⟩
 have hm : ∀ q ∈ rmL (C.rm n) f.resultTypes.toList ++ tgtL (C.pm n) (parL f) args, q.2.2 ≠ none → q.1 = 1 := fun q hq hne => by
  rcases List.mem_append.mp hq with hq | hq
  ·exact absurd (rmL_none q hq) hne
  ·exact tgtL_one _ _ _ q hq
 have hlen1 : (rmL (C.rm n) f.resultTypes.toList ++ tgtL (C.pm n) (parL f) args).length = r.length := by
  rw [List.length_append, hpsn, g6, t1]
 have hlay : ∀ (j : Nat) q x pls v, (rmL (C.rm n) f.resultTypes.toList ++ tgtL (C.pm n) (parL f) args)[j]? = some q → r[j]? = some x → pls1[j]? = some pls → vs[j]? = some v → LayOk C w' (more F1 σ1 S1 ks1) q.1 q.2.1 x pls v := fun j q x pls v hq hx hp hv' => by
  refine g7 j q.1 q.2.1 x pls v ?_ hx hp hv'
  rcases hat j q hq with ⟨T, hT, rfl⟩ | ⟨hge, hq⟩
  ·rw [List.getElem?_append_left (by rw [List.length_map]; exact getElem?_lt (rmL_at (ms := C.rm n) hT)), List.getElem?_map, rmL_at hT]
   rfl
  ·obtain ⟨T, a, k1, k2, k3, _⟩ := htarg _ q hq
   rw [List.getElem?_append_right (by rw [List.length_map, hpsn]; exact hge), List.length_map, hpsn, List.getElem?_map, k1, k2, k3]
   rfl
 have hhead : ∀ (j : Nat) q pls id, (rmL (C.rm n) f.resultTypes.toList ++ tgtL (C.pm n) (parL f) args)[j]? = some q → pls1[j]? = some pls → q.2.2 = some id → pls.head? = some (σ id) := fun j q pls id hq hp hid => by
  rcases hat j q hq with ⟨T, hT, rfl⟩ | ⟨hge, hq⟩
  ·cases hid
  ·obtain ⟨T, a, _, _, _, k⟩ := htarg _ q hq
   exact (k id hid).2.2 pls (by rw [show f.resultTypes.size + (j - f.resultTypes.size) = j by omega]; exact hp)
 have hrefs : ∀ q ∈ rmL (C.rm n) f.resultTypes.toList ++ tgtL (C.pm n) (parL f) args, ∀ id, q.2.2 = some id → id ∈ src ∧ live S id := fun q hq id hid => by
  rcases List.mem_append.mp hq with hq | hq
  ·rw [rmL_none q hq] at hid; cases hid
  ·obtain ⟨k, hk⟩ := List.mem_iff_getElem?.mp hq
   obtain ⟨T, a, _, _, _, u⟩ := htarg k q hk
   exact ⟨(u id hid).1, (u id hid).2.1⟩
 have hnod : (((rmL (C.rm n) f.resultTypes.toList ++ tgtL (C.pm n) (parL f) args).map (·.2.2)).filterMap id).Nodup := by
  rw [List.map_append, List.filterMap_append]
  have e : ((rmL (C.rm n) f.resultTypes.toList).map (·.2.2)).filterMap id = [] := by
   rw [List.filterMap_eq_nil_iff]
   intro x hx
   obtain ⟨q, hq, rfl⟩ := List.mem_map.mp hx
   exact rmL_none q hq
  rw [e, List.nil_append]
  unfold freeB at hfree
  rw [Bool.and_eq_true] at hfree
  exact (nodupB_ok hfree.1).sublist (tgt_sub _ _ _ _ _ _ hx)
 obtain ⟨b1, b2⟩ := g8.apart g1 g9
 obtain ⟨c1, c2, c3⟩ := base_ok (ks1 := ks1) hs p5 hfree (fun _ => rfl) e0 g1 g2
 have hown : ∀ i b, (pls1.flatten.getD i .no).blk = some b → (w.heap.size ≤ b ∨ ∃ id ∈ src, live S id ∧ (σ id).blk = some b) := fun i b hb => by
  obtain ⟨⟨i', _, q1, q2⟩, _⟩ := b2 i b hb
  rcases c3 b with q | q | q
  ·exact .inl q
  ·exact .inr q
  ·exact absurd q2 (q i' q1)
 have hval : ∀ {σ2 : Sig} {F2 : Nat → Prop} {as : List AV}, as.length = r.length → (∀ (j : Nat) a v, as[j]? = some a → vs[j]? = some v → VR C w' F2 σ2 a v) → VR C w' F2 σ2 (one (as.take f.resultTypes.size)) val := fun {σ2 F2 as} hn' hj => by
  rw [g11]
  refine vr_one (by simp; omega) fun j a v ha hv' => ?_
  have hlt : j < f.resultTypes.size := by have := getElem?_lt ha; simp at this; omega
  rw [List.getElem?_take_of_lt hlt] at ha hv'
  exact hj j a v ha hv'
 by_cases hle : lends C n f = true
 ·-- arguments are lent
  have hle' := hle
  unfold lends at hle'
  rw [Bool.and_eq_true] at hle'
  have hsrc : src = [] := passL_lent hle'.1 hx
  have htg : tgtL (C.pm n) (parL f) args = [] := tgtL_lent hle'.1
  subst hsrc
  rw [if_pos hle] at hend ⊢
  rw [htg, List.append_nil] at hlay hhead hm hlen1 hnod hrefs hend ⊢
  have hkill : kill ([] ++ []) S = S := kill_nil S
  rw [hkill] at hend ⊢
  have hno : ∀ i b, ((fun i => plss.flatten.getD i .no) i : Place).blk = some b → False := fun i b hb => by
   obtain ⟨⟨id, q1, _⟩, _⟩ := (p5.apart hs hfree).2 i b hb
   cases q1
  have hkeep : ∀ b, b < w.heap.size → w'.heap[b]? = w.heap[b]? := fun b hb => g2.keep b hb fun id _ he => hno id b he
  have hb' : Sim C F σ S w' := ⟨fun id => by
   by_cases hlv : live S id
   ·exact (hs.blk id).mono (fun b hb => hkeep b (hs.fin b hb)) (fun _ h => h) (fun _ _ => rfl) fun b hb => hkeep b (hs.lt hlv hb)
   ·rw [not_live hlv]; exact trivial, hs.inj, hs.out, hs.top, fun b hb => Nat.lt_of_lt_of_le (hs.fin b hb) g2.heap, hs.tabk (fun b hb => hkeep b (hs.fin b hb)) fun _ h => h⟩
  have hnew : ∀ i b, (pls1.flatten.getD i .no).blk = some b → w.heap.size ≤ b := fun i b hb => by
   rcases hown i b hb with q | ⟨id, q, _⟩
   ·exact q
   ·cases q
  obtain ⟨σ2, r1, r2, r3, r4, r5, r6, r7⟩ := merge_core hb' hm hlen1 g4 g5 (fun j q x pls v hq hx hp hv' => by
   obtain ⟨T, hT, rfl⟩ : ∃ T, f.resultTypes.toList[j]? = some T ∧ q = ((C.rm n).getD j 0, T, none) := by
    rcases hat j q (by rw [htg, List.append_nil]; exact hq) with k | ⟨k1, k2⟩
    ·exact k
    ·rw [htg] at k2; cases k2
   exact lay_flat (flatR_at _ _ hle'.2 j T hT) (hlay j _ x pls v hq hx hp hv')) hnod hhead (fun q hq id hid => by rw [rmL_none q hq] at hid; cases hid) hsl hend b1 (fun i b hb => ⟨fun hF => by have := hs.fin b hF; have := hnew i b hb; omega, fun id hlv he => by have := hs.lt hlv he; have := hnew i b hb; omega⟩)
  refine ⟨F, σ2, r1, ⟨g2.os, g2.tape, g2.output, g2.drawn, g2.heap, fun b hb _ => hkeep b hb, fun _ h => h, fun _ h => .inl h, fun id b hlv he => ?_⟩, r2, fun id hid => (by cases hid), hval (by rw [r4, hlen1]) r3, r6, fun j hj h1 h2 => ?_⟩
  ·rcases r5 id b hlv he with ⟨q1, q2⟩ | ⟨i, q⟩
   ·exact .inr ⟨id, q1, q2⟩
   ·exact .inl (hnew i b q)
  ·rw [ho] at hj
   obtain ⟨q1, q2⟩ := r7 j hj fun q hq => by rw [rmL_none q hq]; simp
   exact ⟨q1.trans h1, q2.trans h2⟩
 ·rw [if_neg hle] at hend ⊢
  have hdeadk : ∀ id, id ∈ src → (kill (ks ++ src) S).getD id .dead = .dead := fun id hid => by
   rw [getD_kill, if_pos (by simp [hid])]
  obtain ⟨σ2, r1, r2, r3, r4, r5, r6, r7⟩ := merge_core c1 hm hlen1 g4 g5 hlay hnod hhead (fun q hq id hid => by
   obtain ⟨q1, q2⟩ := hrefs q hq id hid
   exact ⟨hdeadk id q1, hs.place q2, by rw [kill_length]; exact live_lt q2⟩) (fun j h1 h2 => by
    have := hsl j h1 h2
    refine ⟨by rw [kill_length]; exact this.lt, ?_, this.no⟩
    rw [getD_kill]
    split
    ·rfl
    ·exact this.dead) hend b1 (fun i b hb => ⟨(b2 i b hb).2.1, fun id hlv he => by
     obtain ⟨⟨i', _, q1, q2⟩, _⟩ := b2 i b hb
     exact (c2 id b hlv he).2.2 i' q1 q2⟩)
  have hlk : ∀ id, live (kill (ks ++ src) S) id → live S id := fun id hlv => by
   unfold live at *
   rw [getD_kill] at hlv
   split at hlv
   ·exact absurd rfl hlv
   ·exact hlv
  have hS0 : ∀ i b, ((fun i => plss.flatten.getD i .no) i : Place).blk = some b → ∃ id ∈ src, live S id ∧ (σ id).blk = some b := fun i b hb => ((p5.apart hs hfree).2 i b hb).1
  refine ⟨more F1 σ1 S1 ks1, σ2, r1, ⟨g2.os, g2.tape, g2.output, g2.drawn, g2.heap, fun b hb hno => g2.keep b hb fun i _ he => ?_, fun b hb => .inl (g2.grow b (.inl hb)), fun b hb => ?_, fun id b hlv he => ?_⟩, r2, fun id hid b hlv he => ?_, hval (by rw [r4, hlen1]) r3, by rw [r6, kill_length], fun j hj h1 h2 => ?_⟩
  ·obtain ⟨id, _, q2, q3⟩ := hS0 i b he
   exact hno id q2 q3
  ·rcases hb with hb | ⟨i, _, q1, q2⟩
   ·rcases g2.new b hb with q | q | ⟨i, _, q⟩
    ·rcases q with q | ⟨id, _, q2, q3⟩
     ·exact .inl q
     ·exact .inr (.inr ⟨id, q2, q3⟩)
    ·exact .inr (.inl q)
    ·obtain ⟨id, _, q2, q3⟩ := hS0 i b q
     exact .inr (.inr ⟨id, q2, q3⟩)
   ·rcases g2.own i b q1 q2 with q | ⟨i', _, q⟩
    ·exact .inr (.inl q)
    ·obtain ⟨id, _, q2, q3⟩ := hS0 i' b q
     exact .inr (.inr ⟨id, q2, q3⟩)
  ·rcases r5 id b hlv he with ⟨q1, q2⟩ | ⟨i, q⟩
   ·exact .inr ⟨id, hlk id q1, q2⟩
   ·rcases hown i b q with q | ⟨id', _, q1, q2⟩
    ·exact .inl q
    ·exact .inr ⟨id', q1, q2⟩
  ·have hF0 : more F σ S ks b := .inr ⟨id, hid, hlv, he⟩
   exact ⟨.inl (g2.grow b hF0), g2.dat e0 b hF0⟩
  ·rw [ho] at hj
   obtain ⟨q1, q2⟩ := r7 j hj fun q hq hid => by
    have := (hrefs q hq j hid).2
    exact this h1
   refine ⟨q1.trans ?_, q2.trans h2⟩
   rw [getD_kill]
   split
   ·rfl
   ·exact h1
end
section
variable {C : Cfg} {F : Nat → Prop} {σ : Sig} {S : List Blk} {w w' : World}
theorem mapM_vals {P : Program} {f : ResultVar → Sem Value} : ∀ (rs : List ResultVar) (vs : List Value), vs.length = rs.length → (∀ (j : Nat) r v, rs[j]? = some r → vs[j]? = some v → (f r).run P w = .ok v w) → (rs.mapM f).run P w = .ok vs w
 | [], vs, hn, _ => by
  have : vs = [] := List.length_eq_zero_iff.mp hn
  subst this
  rfl
 | r :: rs, vs, hn, h => by
  cases vs with
  | nil => simp at hn
  | cons v vs =>
   rw [List.mapM_cons]
   have h1 := h 0 r v rfl rfl
   have h2 := mapM_vals (P := P) (f := f) rs vs (by simpa using hn) fun j r v hr hv => h (j + 1) r v (by simpa using hr) (by simpa using hv)
   simp [Sem.run_bind, h1, h2, pure, Sem.run]
def ResAt (P : Program) (tmps : Array Value) (w : World) (r : ResultVar) (v : Value) : Prop := match r with
 | .tmp t => tmps.getD t undef = v
 | .cell a T => (Instr.loadAt T (tmps.getD a undef)).run P w = .ok v w ∧ ∃ ad, tmps.getD a undef = .pointer (some ad)
theorem results_vals {P : Program} {fn : Func} {tmps : Array Value} {vs : List Value} (hn : vs.length = fn.results.toList.length) (h : ∀ (j : Nat) r v, fn.results.toList[j]? = some r → vs[j]? = some v → ResAt P tmps w r v) : (results fn tmps).run P w = .ok (oneV vs) w := by
 unfold results
 rw [Array.mapM_eq_mapM_toList]
 have key : ∀ (f : ResultVar → Sem Value), (∀ t, f (.tmp t) = pure (tmps.getD t undef)) → (∀ a T, f (.cell a T) = (do loadVar T (← asAddr (tmps.getD a undef)))) → (do let vs ← List.toArray <$> fn.results.toList.mapM f; pure (if h : vs.size = 1 then vs[0] else Value.tuple vs) : Sem Value).run P w = .ok (oneV vs) w := fun f h1 h2 => by
  have hk : (fn.results.toList.mapM f).run P w = .ok vs w := by
   refine mapM_vals _ vs hn fun j r v hr hv => ?_
   have := h j r v hr hv
   cases r with
   | tmp t => rw [h1, ← this]; rfl
   | cell a T =>
    obtain ⟨k1, ad, k2⟩ := this
    rw [h2, k2]
    rw [k2] at k1
    exact k1
  simp only [map_eq_pure_bind, Sem.run_bind, hk, Result.andThen_ok]
  match vs with
  | [] => rfl
  | [t] => rfl
  | t :: u :: ts => simp [oneV, pure, Sem.run]
 exact key _ (fun _ => rfl) fun _ _ => rfl
theorem resL_at {env : List AV} : ∀ {rs : List ResultVar} {as : List AV}, resL C env S rs = some as → as.length = rs.length ∧ ∀ (j : Nat) r b, rs[j]? = some r → as[j]? = some b → resV C env S r = some b
 | [], as, h => by
  simp only [resL, Option.some.injEq] at h
  subst h
  exact ⟨rfl, fun j r b hr => by simp at hr⟩
 | r :: rs, as, h => by
  simp only [resL] at h
  obtain ⟨a, h1, h⟩ := Option.bind_eq_some_iff.mp h
  obtain ⟨bs, h2, h⟩ := Option.bind_eq_some_iff.mp h
  simp only [Option.some.injEq] at h
  subst h
  obtain ⟨k1, k2⟩ := resL_at h2
  refine ⟨by simp [k1], fun j r' b hr hb => ?_⟩
  cases j with
  | zero =>
   simp only [List.getElem?_cons_zero, Option.some.injEq] at hr hb
   subst hr hb
   exact h1
  | succ j => exact k2 j r' b (by simpa using hr) (by simpa using hb)
theorem resV_ok (hl : layB C = true) (hs : Sim C F σ S w) {env : List AV} {tmps : Array Value} (he : EnvR C w F σ env tmps) {r : ResultVar} {b : AV} (h : resV C env S r = some b) : ∃ v, VR C w F σ b v ∧ ResAt C.P tmps w r v := by
 cases r with
 | tmp t =>
  simp only [resV, Option.some.injEq] at h
  subst h
  exact ⟨_, he.at_ t, rfl⟩
 | cell a T =>
  simp only [resV] at h
  have ha := he.at_ a
  split at h <;> try (cases h; done)
  rename_i id ea
  split at h
  ·rename_i T' v hS
   have hq_ := ite_some h
   clear h
   obtain ⟨rfl, h⟩ := hq_
   simp only [Option.some.injEq] at h
   subst h
   rw [ea] at ha
   have hb := hs.blk id
   rw [hS] at hb
   have hr := ha.one_inv (by simp) (by simp) (by simp)
   generalize hp : tmps.getD a undef = pv at hr
   cases hr with
   | pa g1 => rw [g1] at hb; exact hb.elim
   | p g1 g2 =>
    rw [g1] at hb
    obtain ⟨rfl, hsh, cur, ty, hh, hR⟩ := hb
    obtain ⟨val, q1, q2⟩ := load_ok hl hsh hR (rangeAt_row hh)
    refine ⟨val, q1, ?_⟩
    unfold ResAt
    dsimp only
    rw [hp]
    exact ⟨q2, _, rfl⟩
  ·rename_i e xs hS
   split at h <;> try (cases h; done)
   rename_i n e' hu
   have hq_ := ite_some h
   clear h
   obtain ⟨⟨rfl, rfl⟩, h⟩ := hq_
   simp only [Option.some.injEq] at h
   subst h
   rw [ea] at ha
   have hb := hs.blk id
   rw [hS] at hb
   have hr := ha.one_inv (by simp) (by simp) (by simp)
   generalize hp : tmps.getD a undef = pv at hr
   cases hr with
   | p g1 g2 => rw [g1] at hb; exact hb.elim
   | pa g1 =>
    rw [g1] at hb
    obtain ⟨rfl, rfl, hA⟩ := hb
    obtain ⟨_, cur, t, hh, hz, cells, hxs⟩ := hA
    have css : ∀ (j : Nat) c, ((List.range xs.length).map cells)[j]? = some c → j < xs.length ∧ c = cells j := fun j c hc => by
     have hj := getElem?_lt hc
     simp only [List.length_map, List.length_range] at hj
     rw [List.getElem?_map, List.getElem?_range hj] at hc
     exact ⟨hj, (Option.some.inj hc).symm⟩
    obtain ⟨val, q1, q2⟩ := load_ok hl (w := w) (F := F) (σ := σ) (T := T) (a := .g xs) (cs := ((List.range xs.length).map cells).flatten) (.ga hu rfl fun j x hx => (hxs j x hx).1.1) (.g _ (by simp) fun j x c hx hc => by
      obtain ⟨_, rfl⟩ := css j c hc
      exact noSig_mono (hxs j x hx).2.1 σ) (rangeAt_rows xs.length fun j hj => by
      obtain ⟨x, hx⟩ := getElem?_of_lt (l := xs) hj
      exact ⟨(hxs j x hx).2.2.1, (hxs j x hx).2.2.2⟩).2
    refine ⟨val, q1, ?_⟩
    unfold ResAt
    dsimp only
    rw [hp]
    exact ⟨q2, _, rfl⟩
  ·cases h
theorem resL_vals (hl : layB C = true) (hs : Sim C F σ S w) {env : List AV} {tmps : Array Value} (he : EnvR C w F σ env tmps) : ∀ {rs : List ResultVar} {as : List AV}, resL C env S rs = some as → ∃ vs : List Value, vs.length = rs.length ∧ (∀ (j : Nat) b v, as[j]? = some b → vs[j]? = some v → VR C w F σ b v) ∧ ∀ (j : Nat) r v, rs[j]? = some r → vs[j]? = some v → ResAt C.P tmps w r v
 | [], as, h => by
  simp only [resL, Option.some.injEq] at h
  subst h
  exact ⟨[], rfl, fun j b v hb => by simp at hb, fun j r v hr => by simp at hr⟩
 | r :: rs, as, h => by
  simp only [resL] at h
  obtain ⟨a, h1, h⟩ := Option.bind_eq_some_iff.mp h
  obtain ⟨bs, h2, h⟩ := Option.bind_eq_some_iff.mp h
  simp only [Option.some.injEq] at h
  subst h
  obtain ⟨v, v1, v2⟩ := resV_ok hl hs he h1
  obtain ⟨vs, k1, k2, k3⟩ := resL_vals hl hs he h2
  refine ⟨v :: vs, by simp [k1], fun j b u hb hu => ?_, fun j r' u hr hu => ?_⟩
  ·cases j with
   | zero =>
    simp only [List.getElem?_cons_zero, Option.some.injEq] at hb hu
    subst hb hu
    exact v1
   | succ j => exact k2 j b u (by simpa using hb) (by simpa using hu)
  ·cases j with
   | zero =>
    simp only [List.getElem?_cons_zero, Option.some.injEq] at hr hu
    subst hr hu
    exact v2
   | succ j => exact k3 j r' u (by simpa using hr) (by simpa using hu)
def Leads (σ σ' : Sig) (re re' : Refs) : Prop :=
 re'.length = re.length ∧ ∀ (k : Nat) T a, re[k]? = some (T, a) → ∃ a', re'[k]? = some (T, a') ∧ (a' = .u ∨ ∃ t t', (a = .p t [] ∨ ∃ e, a = .w e t) ∧ (a' = .p t' [] ∨ ∃ e, a' = .w e t') ∧ σ t ≠ .no ∧ σ' t' = σ t)
theorem Leads.trans {σ1 σ2 σ3 : Sig} {r1 r2 r3 : Refs} (h : Leads σ1 σ2 r1 r2) (k : Leads σ2 σ3 r2 r3) : Leads σ1 σ3 r1 r3 := by
 refine ⟨k.1.trans h.1, fun i T a hi => ?_⟩
 obtain ⟨a', h1, h2⟩ := h.2 i T a hi
 obtain ⟨a'', k1, k2⟩ := k.2 i T a' h1
 refine ⟨a'', k1, ?_⟩
 rcases k2 with k2 | ⟨t, t', p1, p2, p3, p4⟩
 ·exact .inl k2
 rcases h2 with rfl | ⟨s, s', q1, q2, q3, q4⟩
 ·rcases p1 with p1 | ⟨_, p1⟩ <;> cases p1
 have : t = s' := by
  rcases p1 with p1 | ⟨_, p1⟩ <;> rcases q2 with q2 | ⟨_, q2⟩ <;> (rw [p1] at q2; cases q2 <;> rfl)
 subst this
 exact .inr ⟨s, t', q1, p2, q3, p4.trans q4⟩
theorem Leads.mono {σ σ1 : Sig} {re : Refs} (h : ∀ (k : Nat) T a, re[k]? = some (T, a) → a = .u ∨ ∃ t, (a = .p t [] ∨ ∃ e, a = .w e t) ∧ σ t ≠ .no) (hσ : ∀ id, σ id ≠ .no → σ1 id = σ id) : Leads σ σ1 re re :=
 ⟨rfl, fun k T a hk => ⟨a, hk, by
  rcases h k T a hk with q | ⟨t, q1, q2⟩
  ·exact .inl q
  ·exact .inr ⟨t, t, q1, q1, q2, hσ t q2⟩⟩⟩
def Led (σ : Sig) (re : Refs) : Prop := ∀ (k : Nat) T a, re[k]? = some (T, a) → a = .u ∨ ∃ t, (a = .p t [] ∨ ∃ e, a = .w e t) ∧ σ t ≠ .no
theorem Leads.led {σ1 σ2 : Sig} {r1 r2 : Refs} (h : Leads σ1 σ2 r1 r2) : Led σ2 r2 := fun k T a hk => by
 have hlt := getElem?_lt hk
 rw [h.1] at hlt
 obtain ⟨⟨T0, a0⟩, h0⟩ := getElem?_of_lt hlt
 obtain ⟨a', h1, h2⟩ := h.2 k T0 a0 h0
 rw [hk] at h1
 cases h1
 rcases h2 with h2 | ⟨t, t', q1, q2, q3, q4⟩
 ·exact .inl h2
 ·exact .inr ⟨t', q2, by rw [q4]; exact q3⟩
def RV (C : Cfg) (w : World) (F : Nat → Prop) (σ : Sig) (re : Refs) : Prop := ∀ (k : Nat) T a, re[k]? = some (T, a) → ∃ v, VR C w F σ a v
theorem RV.list : ∀ {re : Refs}, RV C w F σ re → ∃ vs : List Value, vs.length = re.length ∧ ∀ (k : Nat) a v, (re.map (·.2))[k]? = some a → vs[k]? = some v → VR C w F σ a v
 | [], _ => ⟨[], rfl, fun k a v h => by simp at h⟩
 | (T, a) :: re, h => by
  obtain ⟨v, hv⟩ := h 0 T a rfl
  obtain ⟨vs, h1, h2⟩ := RV.list (re := re) fun k T a hk => h (k + 1) T a (by simpa using hk)
  refine ⟨v :: vs, by simp [h1], fun k b u hb hu => ?_⟩
  cases k with
  | zero =>
   simp only [List.map_cons, List.getElem?_cons_zero, Option.some.injEq] at hb hu
   subst hb hu
   exact hv
  | succ k => exact h2 k b u (by simpa using hb) (by simpa using hu)
theorem passL_at : ∀ {ms : List Nat} {Ts : List TypeId} {as : List AV} {x : List AV × List Nat × List Nat}, passL C S ms Ts as = some x → ∀ (j : Nat) a, as[j]? = some a → ∃ y, passD C S (ms.getD j 0) (Ts.getD j 0) a = some y
 | ms, Ts, [], x, _, j, a, ha => by simp at ha
 | ms, Ts, a0 :: as, x, h, j, a, ha => by
  simp only [passL] at h
  obtain ⟨y, h1, h⟩ := Option.bind_eq_some_iff.mp h
  obtain ⟨z, h2, h⟩ := Option.bind_eq_some_iff.mp h
  cases j with
  | zero =>
   simp only [List.getElem?_cons_zero, Option.some.injEq] at ha
   subst ha
   refine ⟨y, ?_⟩
   cases ms <;> cases Ts <;> exact h1
  | succ j =>
   obtain ⟨u, hu⟩ := passL_at h2 j a (by simpa using ha)
   refine ⟨u, ?_⟩
   cases ms <;> cases Ts <;> simpa using hu
theorem passD_u {T : TypeId} : passD C S 1 T .u = none := by
 simp only [passD]
 split <;> first | rfl | (rename_i h; cases h; done)
theorem finish_ok (hl : layB C = true) {n : FuncId} {f : Func} {re0 re : Refs} {x : X} {o : List AV} {F0 F1 : Nat → Prop} {σ0 σ1 : Sig} {S0 : List Blk} {a : Act} (hre0 : re0 = refE C 0 (C.pm n) (parL f)) (hs : Sim C F1 σ1 x.st w') (he : EnvR C w' F1 σ1 x.env a.tmps) (ht : Stp C F0 σ0 S0 w F1 σ1 x.st w') (hld : Leads σ0 σ1 re0 re) (hrv : RV C w' F1 σ1 re)
  (h : finish C n f re x = some o) : ∃ val, (results f a.tmps).run C.P w' = .ok val w' ∧ Ends C n f o F0 σ0 S0 w val w' := by
 unfold finish at h
 split at h
 ·cases h
 rename_i as has
 split at h
 ·cases h
 rename_i p hp
 obtain ⟨⟨hn, hfr⟩, h⟩ := ite_some h
 obtain ⟨o', ks, src⟩ := p
 simp only [Option.some.injEq] at h
 subst h
 dsimp only at hfr
 obtain ⟨rvals, e1, e2, e3⟩ := resL_vals hl hs he has
 have e4 := (resL_at has).1
 obtain ⟨rvs, r1, r2⟩ := hrv.list
 have hts : rvals.length = f.resultTypes.size := by omega
 have hrl : (rmL (C.rm n) f.resultTypes.toList).length = f.resultTypes.size := by simp [rmL]
 obtain ⟨p1, p2, plss, p3, p4, p5, p6, _⟩ := passL_ok hl hs _ _ _ _ _ _ (rvals ++ rvs) (by simp [r1]; omega) (fun j b v hb hv => by
  rw [List.getElem?_append] at hb hv
  rw [show rvals.length = as.length by omega] at hv
  split at hb
  ·rename_i hlt
   rw [if_pos hlt] at hv
   exact e2 j b v hb hv
  ·rename_i hlt
   rw [if_neg hlt] at hv
   exact r2 _ b v hb hv) hp
 have hlen : o'.length = f.resultTypes.size + re0.length := by rw [p2, List.length_append, hn, List.length_map, hld.1]
 refine ⟨_, results_vals e1 e3, F1, σ1, x.st, rvals ++ rvs, plss, ks, src, hs, ht, by rw [p3, p2], by rw [List.length_append, hts, r1, hlen, hld.1], by rw [hlen, hre0], fun j m T y pls v hj hy hpl hv => ?_, p5, hfr, fun k T b pls hk hpl => ?_, ?_⟩
 ·have := p4 j y pls v hy hpl hv
  rw [List.getElem?_append] at hj
  simp only [List.length_map, hrl] at hj
  split at hj
  ·rename_i hlt
   rw [List.getElem?_map] at hj
   obtain ⟨q, hq, hj⟩ := Option.map_eq_some_iff.mp hj
   simp only [Prod.mk.injEq] at hj
   obtain ⟨rfl, rfl⟩ := hj
   obtain ⟨T', hT'⟩ := getElem?_of_lt (l := f.resultTypes.toList) (j := j) (by simpa using hlt)
   rw [rmL_at hT'] at hq
   cases hq
   have em : ((rmL (C.rm n) f.resultTypes.toList).map (fun q : Nat × TypeId × Option Nat => q.1) ++ re.map fun _ => 1).getD j 0 = (C.rm n).getD j 0 := by
    rw [List.getD_eq_getElem?_getD, List.getElem?_append_left (by simp [hrl, hlt]), List.getElem?_map, rmL_at hT']
    rfl
   have eT : (f.resultTypes.toList ++ re.map (·.1)).getD j 0 = T' := by
    rw [List.getD_eq_getElem?_getD, List.getElem?_append_left (by simpa using hlt), hT']
    rfl
   rw [em, eT] at this
   exact this
  ·rename_i hge
   rw [← hre0, List.getElem?_map] at hj
   obtain ⟨⟨T0, a0⟩, hq, hj⟩ := Option.map_eq_some_iff.mp hj
   simp only [Prod.mk.injEq] at hj
   obtain ⟨rfl, rfl⟩ := hj
   obtain ⟨a', h1, _⟩ := hld.2 _ _ _ hq
   have em : ((rmL (C.rm n) f.resultTypes.toList).map (fun q : Nat × TypeId × Option Nat => q.1) ++ re.map fun _ => 1).getD j 0 = 1 := by
    rw [List.getD_eq_getElem?_getD, List.getElem?_append_right (by simp [hrl]; omega), List.getElem?_map, List.length_map, hrl, h1]
    rfl
   have eT : (f.resultTypes.toList ++ re.map (·.1)).getD j 0 = T0 := by
    rw [List.getD_eq_getElem?_getD, List.getElem?_append_right (by simp; omega), List.getElem?_map]
    simp only [Array.length_toList]
    rw [h1]
    rfl
   rw [em, eT] at this
   exact this
 ·rw [← hre0] at hk
  obtain ⟨a', h1, h2⟩ := hld.2 k T b hk
  have ha' : (as ++ re.map (·.2))[f.resultTypes.size + k]? = some a' := by
   rw [List.getElem?_append_right (by omega), hn, Nat.add_sub_cancel_left, List.getElem?_map, h1]
   rfl
  have em : ((rmL (C.rm n) f.resultTypes.toList).map (fun q : Nat × TypeId × Option Nat => q.1) ++ re.map fun _ => 1).getD (f.resultTypes.size + k) 0 = 1 := by
   rw [List.getD_eq_getElem?_getD, List.getElem?_append_right (by simp [hrl]), List.getElem?_map, List.length_map, hrl, Nat.add_sub_cancel_left, h1]
   rfl
  rcases h2 with rfl | ⟨t, t', q1, q2, q3, q4⟩
  ·obtain ⟨y, hy⟩ := passL_at hp _ _ ha'
   rw [em, passD_u] at hy
   cases hy
  ·have := (p6 _ a' pls ha' hpl (.inl em) t' q2).1
   exact ⟨t, q1, by rw [this, q4]⟩
 ·rw [List.take_append_of_le_length (by simp [hts]), List.take_of_length_le (by simp [hts])]
end
section
variable {C : Cfg} {F : Nat → Prop} {σ : Sig} {S : List Blk} {w w' : World}
theorem enter_at : ∀ (ms : List Nat) (Ts : List TypeId) (xs : List AV) (plss : List (List Place)) (id0 : Nat), plss.length = xs.length → (∀ (j : Nat) pls, plss[j]? = some pls → ∀ t base y, (lay C (ms.getD j 0) (Ts.getD j 0) t base y).2.length = pls.length) → ∀ (j : Nat) a, (enterL C id0 ms Ts xs).1[j]? = some a → (ms.getD j 0 = 1 ∨ ms.getD j 0 = 2 ∨ ms.getD j 0 = 4) →
  ∃ t pls, plss[j]? = some pls ∧ (a = .u ∨ a = .p t [] ∨ ∃ e, a = .w e t) ∧ ∀ (r : Nat) p, pls[r]? = some p → ∀ σ2 : Sig, (∀ i, i < plss.flatten.length → σ2 (id0 + i) = plss.flatten.getD i .no) → σ2 (t + r) = p
 | ms, Ts, [], plss, id0, _, _, j, a, ha, _ => by simp [enterL] at ha
 | ms, Ts, x :: xs, plss, id0, h1, h2, j, a, ha, hm => by
  cases plss with
  | nil => simp at h1
  | cons pls plss =>
   have h0 : ∀ t base y, (lay C (ms.headD 0) (Ts.headD 0) t base y).2.length = pls.length := by
    have := h2 0 pls rfl
    cases ms <;> cases Ts <;> exact this
   simp only [enterL, h0] at ha
   cases j with
   | zero =>
    simp only [List.getElem?_cons_zero, Option.some.injEq] at ha
    have hm' : ms.headD 0 = 1 ∨ ms.headD 0 = 2 ∨ ms.headD 0 = 4 := by cases ms <;> exact hm
    refine ⟨id0, pls, rfl, ?_, fun r p hp σ2 hσ2 => ?_⟩
    ·rw [← ha]
     have hO : ∀ T', (layO C T' id0 (id0 + 1) x).1 = .u ∨ (layO C T' id0 (id0 + 1) x).1 = .p id0 [] ∨ ∃ e, (layO C T' id0 (id0 + 1) x).1 = .w e id0 := fun T' => by
      unfold layO
      split <;> exact .inr (.inl rfl)
     unfold lay
     by_cases h12 : ms.headD 0 = 1 ∨ ms.headD 0 = 2
     ·rw [if_pos h12]
      split
      ·exact .inr (.inr ⟨_, rfl⟩)
      ·exact hO _
      ·exact .inl rfl
     ·rw [if_neg h12, if_pos (by omega)]
      exact hO _
    ·have hlt := getElem?_lt hp
     rw [hσ2 r (by simp only [List.flatten_cons, List.length_append]; omega), List.flatten_cons, getD_app, if_pos hlt, List.getD_eq_getElem?_getD, hp]
     rfl
   | succ j =>
    obtain ⟨t, p, q1, q2, q3⟩ := enter_at ms.tail Ts.tail xs plss (id0 + pls.length) (by simpa using h1) (fun j p hp => by
     have := h2 (j + 1) p (by simpa using hp)
     cases ms <;> cases Ts <;> simpa using this) j a (by simpa using ha) (by cases ms with | nil => simp at hm | cons m ms => simpa using hm)
    refine ⟨t, p, by simpa using q1, q2, fun r u hu σ2 hσ2 => q3 r u hu σ2 fun i hi => ?_⟩
    rw [Nat.add_assoc, hσ2 (pls.length + i) (by simp only [List.flatten_cons, List.length_append]; omega), List.flatten_cons, getD_app, if_neg (by omega)]
    congr 1
    omega
theorem same_ref {a b : AV} (h : sameRef a b = true) : a = b ∧ ∃ id, a = .p id [] ∨ ∃ e, a = .w e id := by
 cases a <;> cases b <;> simp only [sameRef] at h <;> try (cases h; done)
 ·rename_i e id e' id'
  simp only [Bool.and_eq_true, beq_iff_eq] at h
  obtain ⟨rfl, rfl⟩ := h
  exact ⟨rfl, id, .inr ⟨e, rfl⟩⟩
 ·rename_i id path id' path'
  cases path <;> cases path' <;> simp only [sameRef] at h <;> try (cases h; done)
  rw [beq_iff_eq] at h
  subst h
  exact ⟨rfl, id, .inl rfl⟩
theorem passD_ty {m T e id : Nat} {y : AV × List Nat × List Nat} (hm : m = 1 ∨ m = 2 ∨ m = 4) (h : passD C S m T (.w e id) = some y) : (m = 1 ∨ m = 2) ∧ C.und T = some (.slice e) := by
 rcases hm with rfl | rfl | rfl
 ·cases hu : C.und T with
  | none => simp [passD, hu] at h
  | some d =>
   cases d with
   | slice e0 =>
    have h := (by simpa [passD, hu] using h : e = e0 ∧ _)
    obtain ⟨rfl, _⟩ := h
    exact ⟨.inl rfl, rfl⟩
   | _ => simp [passD, hu] at h
 ·cases hu : C.und T with
  | none => simp [passD, hu] at h
  | some d =>
   cases d with
   | slice e0 =>
    have h := (by simpa [passD, hu] using h : e = e0 ∧ _)
    obtain ⟨rfl, _⟩ := h
    exact ⟨.inr rfl, rfl⟩
   | _ => simp [passD, hu] at h
 ·simp [passD] at h
theorem enter_ty : ∀ {ms : List Nat} {Ts : List TypeId} {as : List AV} {x : List AV × List Nat × List Nat} {id0 j e e' id t : Nat}, passL C S ms Ts as = some x → (enterL C id0 ms Ts x.1).1[j]? = some (.w e' t) → as[j]? = some (.w e id) → (ms.getD j 0 = 1 ∨ ms.getD j 0 = 2 ∨ ms.getD j 0 = 4) → e' = e
 | ms, Ts, [], x, id0, j, e, e', id, t, h, h1, h2, h3 => by simp at h2
 | ms, Ts, a :: as, x, id0, j, e, e', id, t, h, h1, h2, h3 => by
  unfold passL at h
  obtain ⟨y, hy, h⟩ := Option.bind_eq_some_iff.mp h
  obtain ⟨z, hz, h⟩ := Option.bind_eq_some_iff.mp h
  simp only [Option.some.injEq] at h
  subst h
  unfold enterL at h1
  dsimp only at h1
  cases j with
  | zero =>
   simp only [List.getElem?_cons_zero, Option.some.injEq] at h1 h2
   subst h2
   have h3' : ms.headD 0 = 1 ∨ ms.headD 0 = 2 ∨ ms.headD 0 = 4 := by cases ms <;> exact h3
   obtain ⟨k1, k2⟩ := passD_ty h3' hy
   unfold lay at h1
   rw [if_pos k1, k2] at h1
   cases h1
   rfl
  | succ j =>
   exact enter_ty hz (by simpa using h1) (by simpa using h2) (by cases ms with | nil => simp at h3 | cons m ms => simpa using h3)
theorem ref_to {a b : AV} (h : refTo a b = true) : sameRef a b = true ∨ ∃ e id off len, a = .w e id ∧ b = .r e id off len := by
 unfold refTo at h
 split at h
 ·simp only [Bool.and_eq_true, beq_iff_eq] at h
  obtain ⟨rfl, rfl⟩ := h
  exact .inr ⟨_, _, _, _, rfl, rfl⟩
 ·exact .inl h
theorem vr_moved {σ' : Sig} {F' : Nat → Prop} {id t : Nat} {a a' : AV} {u v : Value} (hee : ∀ e e', a = .w e id → a' = .w e' t → e' = e) (ha : a = .p id [] ∨ ∃ e, a = .w e id) (ha' : a' = .u ∨ a' = .p t [] ∨ ∃ e, a' = .w e t) (hσ : σ' t = σ id) (hu : VR C w F σ a u) (hu' : VR C w F' σ' a' u) (hv : VR C w F σ a v) : VR C w F' σ' a' v := by
 rcases ha' with rfl | rfl | ⟨e', rfl⟩
 ·exact .u
 ·have hr' := hu'.one_inv (by simp) (by simp) (by simp)
  rcases ha with rfl | ⟨e, rfl⟩
  ·have hr := hv.one_inv (by simp) (by simp) (by simp)
   cases hr with
   | p h1 h2 => exact .one (by simp) (.p (hσ.trans h1) h2)
   | pa h1 => exact .one (by simp) (.pa (hσ.trans h1))
  ·have hr := hu.one_inv (by simp) (by simp) (by simp)
   cases hr <;> cases hr'
 ·have hr' := hu'.one_inv (by simp) (by simp) (by simp)
  rcases ha with rfl | ⟨e, rfl⟩
  ·have hr := hu.one_inv (by simp) (by simp) (by simp)
   cases hr <;> cases hr'
  ·have hr := hv.one_inv (by simp) (by simp) (by simp)
   cases hr with
   | w h1 h2 h3 =>
    cases hr' with
    | w k1 k2 k3 =>
     have := k1.symm.trans (hσ.trans h1)
     cases this
     exact .one (by simp) (.w k1 h2 h3)
    | w0 k1 =>
     have := k1.symm.trans (hσ.trans h1)
     cases this
   | w0 h1 h8 => exact .one (by simp) (.w0 (hσ.trans h1) (by rw [hee e e' rfl rfl]; exact h8))
theorem canon_ok (hl : layB C = true) {keep : List (Nat × Nat × TypeId)} {re re' : Refs} {x x' : X} {tmps : Array Value} (hs : Sim C F σ x.st w) (he : EnvR C w F σ x.env tmps) (hrv : RV C w F σ re) (hld : Led σ re) (h : canonX C keep re x = some (re', x')) :
  ∃ F' σ', Sim C F' σ' x'.st w ∧ EnvR C w F' σ' x'.env tmps ∧ Stp C F σ x.st w F' σ' x'.st w ∧ Leads σ σ' re re' ∧ RV C w F' σ' re' := by
 unfold canonX at h
 dsimp only at h
 generalize hnk : keep.filter (fun q => decide (q.2.1 < 10)) = nk at h
 split at h
 ·cases h
 rename_i p hp
 obtain ⟨⟨hfr, hal⟩, h⟩ := ite_some h
 obtain ⟨xs, ks, src⟩ := p
 dsimp only at hfr h
 simp only [Option.some.injEq, Prod.mk.injEq] at h
 obtain ⟨h1, h2⟩ := h
 obtain ⟨rvs, r1, r2⟩ := hrv.list
 -- the values of all that is handed over
 have hvals : ∀ (j : Nat) b v, (re.map (fun q : TypeId × AV => q.2) ++ nk.map fun q => x.env.getD q.1 .u)[j]? = some b → (rvs ++ nk.map fun q => tmps.getD q.1 undef)[j]? = some v → VR C w F σ b v := fun j b v hb hv => by
  rw [List.getElem?_append, List.length_map] at hb
  rw [List.getElem?_append, r1] at hv
  split at hb
  ·rename_i hlt
   rw [if_pos hlt] at hv
   exact r2 j b v hb hv
  ·rename_i hlt
   rw [if_neg hlt] at hv
   rw [List.getElem?_map] at hb hv
   obtain ⟨q, hq, rfl⟩ := Option.map_eq_some_iff.mp hb
   rw [hq] at hv
   simp only [Option.map_some, Option.some.injEq] at hv
   subst hv
   exact he.at_ q.1
 obtain ⟨p1, p2, plss, p3, p4, p5, p6, p7⟩ := passL_ok hl hs _ _ _ _ _ _ (rvs ++ nk.map fun q => tmps.getD q.1 undef) (by simp [r1]) hvals hp
 have hvl : (rvs ++ nk.map fun q => tmps.getD q.1 undef).length = xs.length := by rw [p2]; simp [r1]
 obtain ⟨e0, e1, e2⟩ := enter_ok hs (by omega) hvl p4 p5 hfr
 have hea := enter_at (C := C) _ _ xs plss 0 (by omega) fun j pls hpl t base y => by
  obtain ⟨z, hz⟩ := getElem?_of_lt (l := xs) (j := j) (by have := getElem?_lt hpl; omega)
  obtain ⟨v, hv⟩ := getElem?_of_lt (l := rvs ++ nk.map fun q => tmps.getD q.1 undef) (j := j) (by have := getElem?_lt hpl; omega)
  exact (p4 j z pls v hz hpl hv).1 t base y
 have hmode : ∀ k, k < re.length → ((re.map fun _ => 1) ++ nk.map (fun q : Nat × Nat × TypeId => q.2.1)).getD k 0 = 1 := fun k hk => by
  obtain ⟨q, hq⟩ := getElem?_of_lt hk
  rw [List.getD_eq_getElem?_getD, List.getElem?_append_left (by simpa using hk), List.getElem?_map, hq]
  rfl
 -- how a reference moves
 have hmove : ∀ (k : Nat) a a', (re.map (fun q : TypeId × AV => q.2) ++ nk.map fun q => x.env.getD q.1 .u)[k]? = some a → (enterL C 0 ((re.map fun _ => 1) ++ nk.map (fun q : Nat × Nat × TypeId => q.2.1)) (re.map (fun q : TypeId × AV => q.1) ++ nk.map (fun q : Nat × Nat × TypeId => q.2.2)) xs).1[k]? = some a' → (((re.map fun _ => 1) ++ nk.map (fun q : Nat × Nat × TypeId => q.2.1)).getD k 0 = 1 ∨ ((re.map fun _ => 1) ++ nk.map (fun q : Nat × Nat × TypeId => q.2.1)).getD k 0 = 2 ∨ ((re.map fun _ => 1) ++ nk.map (fun q : Nat × Nat × TypeId => q.2.1)).getD k 0 = 4) → ∀ id, (a = .p id [] ∨ ∃ e, a = .w e id) →
   ∃ t, (a' = .u ∨ a' = .p t [] ∨ ∃ e, a' = .w e t) ∧ plss.flatten.getD t .no = σ id := fun k a a' ha ha' hm id hid => by
  obtain ⟨t, pls, q1, q2, q3⟩ := hea k a' ha' hm
  exact ⟨t, q2, q3 0 _ (by rw [← List.head?_eq_getElem?]; exact (p6 k a pls ha q1 hm id hid).1) (fun i => plss.flatten.getD i .no) fun i hi => by rw [Nat.zero_add]⟩
 have hzip : ∀ (k : Nat) T a', re'[k]? = some (T, a') → ∃ a, re[k]? = some (T, a) ∧ (enterL C 0 ((re.map fun _ => 1) ++ nk.map (fun q : Nat × Nat × TypeId => q.2.1)) (re.map (fun q : TypeId × AV => q.1) ++ nk.map (fun q : Nat × Nat × TypeId => q.2.2)) xs).1[k]? = some a' := fun k T a' hk => by
  rw [← h1] at hk
  rw [List.getElem?_zip_eq_some] at hk
  obtain ⟨k1, k2⟩ := hk
  rw [List.getElem?_map] at k1
  obtain ⟨q, hq, k1⟩ := Option.map_eq_some_iff.mp k1
  dsimp only at k1
  exact ⟨q.2, by rw [hq, ← k1], k2⟩
 refine ⟨more F σ x.st ks, fun i => plss.flatten.getD i .no, by rw [← h2]; exact e0, ?_, ?_, ?_, fun k T a' hk => ?_⟩
 ·rw [← h2]
  refine ⟨by simp [he.n], fun t => ?_⟩
  dsimp only
  rw [List.getD_eq_getElem?_getD, List.getElem?_map]
  by_cases htl : t < x.env.length
  ·rw [List.getElem?_range htl]
   simp only [Option.map_some, Option.getD_some]
   cases hf : keep.find? fun q => q.1 == t with
   | none => exact .u
   | some q =>
    have hqm := List.mem_of_find?_eq_some hf
    have hqt : q.1 = t := by simpa using List.find?_some hf
    dsimp only
    by_cases hq10 : q.2.1 < 10
    ·rw [if_pos hq10]
     have hmem : t ∈ nk.map (fun q : Nat × Nat × TypeId => q.1) := List.mem_map.mpr ⟨q, by rw [← hnk]; exact List.mem_filter.mpr ⟨hqm, by simpa using hq10⟩, hqt⟩
     have hix := List.idxOf_lt_length_of_mem hmem
     have hge : (nk.map (fun q : Nat × Nat × TypeId => q.1))[(nk.map (fun q : Nat × Nat × TypeId => q.1)).idxOf t]? = some t := by
      rw [List.getElem?_eq_getElem hix]
      simp
     rw [List.getElem?_map] at hge
     obtain ⟨q', hq', hqt'⟩ := Option.map_eq_some_iff.mp hge
     cases hy : (enterL C 0 ((re.map fun _ => 1) ++ nk.map (fun q : Nat × Nat × TypeId => q.2.1)) (re.map (fun q : TypeId × AV => q.1) ++ nk.map (fun q : Nat × Nat × TypeId => q.2.2)) xs).1[re.length + (nk.map (fun q : Nat × Nat × TypeId => q.1)).idxOf t]? with
     | none => rw [List.getD_eq_getElem?_getD, hy]; exact .u
     | some b =>
      rw [List.getD_eq_getElem?_getD, hy]
      refine e1 _ b _ hy ?_
      rw [List.getElem?_append_right (by omega), r1, Nat.add_sub_cancel_left, List.getElem?_map, hq', ← hqt']
      rfl
    ·rw [if_neg hq10]
     have hsr := List.all_eq_true.mp hal q hqm
     rw [Bool.or_eq_true, Bool.or_eq_true] at hsr
     by_cases hq100 : q.2.1 < 100
     ·rw [if_pos hq100]
      have hsr := (hsr.resolve_left (fun hh => by
       rcases hh with hh | hh
       ·exact hq10 (by simpa using hh)
       ·simp only [Bool.and_eq_true, decide_eq_true_eq] at hh
        omega))
      rw [Bool.and_eq_true, Bool.and_eq_true, Bool.or_eq_true, Bool.or_eq_true, beq_iff_eq, beq_iff_eq, beq_iff_eq] at hsr
      obtain ⟨⟨_, hm⟩, hsr⟩ := hsr
      have hm := or_assoc.mp hm
      rcases ref_to hsr with hsr | ⟨e0, id, off, len, s1, s2⟩
      rotate_left
      ·cases hy : (enterL C 0 ((re.map fun _ => 1) ++ nk.map (fun q : Nat × Nat × TypeId => q.2.1)) (re.map (fun q : TypeId × AV => q.1) ++ nk.map (fun q : Nat × Nat × TypeId => q.2.2)) xs).1[q.2.1 - 10]? with
       | none => rw [List.getD_eq_getElem?_getD, hy, ← hqt, s2]; exact .u
       | some b =>
        rw [List.getD_eq_getElem?_getD (l := (enterL C 0 _ _ xs).1), hy]
        have hk : (re.map (fun q : TypeId × AV => q.2) ++ nk.map fun q => x.env.getD q.1 .u)[q.2.1 - 10]? = some (.w e0 id) := by
         rw [List.getD_eq_getElem?_getD] at s1
         cases hz : (re.map (fun q : TypeId × AV => q.2) ++ nk.map fun q => x.env.getD q.1 .u)[q.2.1 - 10]? with
         | none => rw [hz] at s1; cases s1
         | some z => rw [hz] at s1; exact congrArg some s1
        obtain ⟨t', m1, m2⟩ := hmove _ _ b hk hy hm id (.inr ⟨_, rfl⟩)
        have hvt := he.at_ q.1
        rw [s2, hqt] at hvt
        rw [← hqt, s2]
        simp only [Option.getD_some]
        rcases m1 with rfl | rfl | ⟨e', rfl⟩
        ·exact .u
        ·exact .u
        ·have hee : e' = e0 := enter_ty (x := (xs, ks, src)) (id0 := 0) hp hy hk hm
         subst hee
         show VR C w _ _ (.r e' t' off len) _
         have hr := hvt.one_inv (by simp) (by simp) (by simp)
         rw [hqt]
         generalize tmps.getD t undef = tv at hr ⊢
         cases hr with
         | r k1 k2 k3 k4 => exact .one (by simp) (.r (m2.trans k1) k2 k3 k4)
         | r0 => exact .one (by simp) .r0
      obtain ⟨s1, id, s2⟩ := same_ref hsr
      have hmv : ∀ y, moveR y (x.env.getD t .u) = y := fun y => by
       rw [← hqt, ← s1]
       rcases s2 with s2 | ⟨e, s2⟩ <;> rw [s2] <;> rfl
      rw [hmv]
      have hk : (re.map (fun q : TypeId × AV => q.2) ++ nk.map fun q => x.env.getD q.1 .u)[q.2.1 - 10]? = some (x.env.getD q.1 .u) := by
       rw [List.getD_eq_getElem?_getD] at s1 s2
       cases hz : (re.map (fun q : TypeId × AV => q.2) ++ nk.map fun q => x.env.getD q.1 .u)[q.2.1 - 10]? with
       | none => rw [hz] at s2; rcases s2 with s2 | ⟨_, s2⟩ <;> cases s2
       | some z => rw [hz] at s1; exact congrArg some s1
      have hs2' : x.env.getD q.1 .u = .p id [] ∨ ∃ e, x.env.getD q.1 .u = .w e id := by rw [← s1]; exact s2
      cases hy : (enterL C 0 ((re.map fun _ => 1) ++ nk.map (fun q : Nat × Nat × TypeId => q.2.1)) (re.map (fun q : TypeId × AV => q.1) ++ nk.map (fun q : Nat × Nat × TypeId => q.2.2)) xs).1[q.2.1 - 10]? with
      | none => rw [List.getD_eq_getElem?_getD, hy]; exact .u
      | some b =>
       rw [List.getD_eq_getElem?_getD, hy]
       obtain ⟨v, hv⟩ := getElem?_of_lt (l := rvs ++ nk.map fun q => tmps.getD q.1 undef) (j := q.2.1 - 10) (by have := getElem?_lt hy; omega)
       obtain ⟨t', m1, m2⟩ := hmove _ _ b hk hy hm id hs2'
       have hvt := he.at_ q.1
       rw [hqt] at hvt hs2' hk
       exact vr_moved (σ := σ) (σ' := fun i => plss.flatten.getD i .no) (fun e e' q1 q2 => enter_ty (x := (xs, ks, src)) (id0 := 0) hp (hy.trans (congrArg some q2)) (hk.trans (congrArg some q1)) hm) hs2' m1 m2 (hvals _ _ v hk hv) (e1 _ b v hy hv) hvt
     ·rw [if_neg hq100]
      have hsr := (hsr.resolve_right (fun hh => by
       simp only [Bool.and_eq_true, decide_eq_true_eq] at hh
       exact hq100 hh.1.1)).resolve_left (by simpa using hq10)
      rw [Bool.and_eq_true, Bool.and_eq_true, Bool.or_eq_true, beq_iff_eq, beq_iff_eq] at hsr
      obtain ⟨⟨_, hm⟩, hsr⟩ := hsr
      generalize (q.2.1 - 100) / 16 = k at hm hsr ⊢
      generalize (q.2.1 - 100) % 16 = j at hsr ⊢
      obtain ⟨s1, id2, s2⟩ := same_ref hsr
      -- the object's slice
      have hz : ∃ z, (re.map (fun q : TypeId × AV => q.2) ++ nk.map fun q => x.env.getD q.1 .u)[k]? = some z := by
       cases hz : (re.map (fun q : TypeId × AV => q.2) ++ nk.map fun q => x.env.getD q.1 .u)[k]? with
       | none =>
        rw [List.getD_eq_getElem?_getD, hz] at s2
        simp [fieldR] at s2
       | some z => exact ⟨z, rfl⟩
      obtain ⟨z, hz⟩ := hz
      have hzd : (re.map (fun q : TypeId × AV => q.2) ++ nk.map fun q => x.env.getD q.1 .u).getD k .u = z := by rw [List.getD_eq_getElem?_getD, hz]; rfl
      rw [hzd] at s1 s2 ⊢
      unfold fieldR at s1 s2
      split at s2
      ·rename_i id
       dsimp only at s1
       split at s2
       ·rename_i T0 v0 hS0
        rw [hS0] at s1
        dsimp only at s1
        split at s2
        ·rename_i ho
         rw [if_pos ho] at s1
         cases hy : (enterL C 0 ((re.map fun _ => 1) ++ nk.map (fun q : Nat × Nat × TypeId => q.2.1)) (re.map (fun q : TypeId × AV => q.1) ++ nk.map (fun q : Nat × Nat × TypeId => q.2.2)) xs).1[k]? with
         | none => rw [List.getD_eq_getElem?_getD, hy]; exact .u
         | some b =>
          rw [List.getD_eq_getElem?_getD, hy]
          simp only [Option.getD_some]
          obtain ⟨t1, pls, q1, q2, q3⟩ := hea k b hy (hm.elim .inl fun h => .inr (.inr h))
          rcases q2 with rfl | rfl | ⟨e', rfl⟩
          ·exact .u
          ·unfold fieldN
           dsimp only
           rw [hS0]
           dsimp only
           split
           ·rename_i e id3 hfe
            have hpl := p7 k _ pls hz q1 hm id T0 v0 j e id3 rfl hS0 ho hfe
            have hσt := q3 _ _ hpl (fun i => plss.flatten.getD i .no) fun i hi => by rw [Nat.zero_add]
            have hvt := he.at_ q.1
            rw [hqt] at hvt s1
            rw [← s1, hfe] at hvt
            have hr := hvt.one_inv (by simp) (by simp) (by simp)
            generalize tmps.getD t undef = tv at hr ⊢
            cases hr with
            | w k1 k2 k3 => exact .one (by simp) (.w (hσt.trans k1) k2 k3)
            | w0 k1 h8 => exact .one (by simp) (.w0 (hσt.trans k1) h8)
           ·exact .u
          ·exact .u
        ·rcases s2 with s2 | ⟨_, s2⟩ <;> cases s2
       ·rcases s2 with s2 | ⟨_, s2⟩ <;> cases s2
      ·rcases s2 with s2 | ⟨_, s2⟩ <;> cases s2
  ·rw [List.getElem?_eq_none (by simpa using htl)]
   exact .u
 ·rw [← h2]
  refine ⟨rfl, rfl, rfl, .inr (Nat.le_refl _), Nat.le_refl _, fun _ _ _ => rfl, fun _ h => .inl h, fun b hb => ?_, fun i b _ hb => ?_⟩
  ·rcases hb with hb | ⟨id, q1, q2, q3⟩
   ·exact .inl hb
   ·exact .inr (.inr ⟨id, q2, q3⟩)
  ·obtain ⟨⟨id, _, q2, q3⟩, _⟩ := (p5.apart hs hfr).2 i b hb
   exact .inr ⟨id, q2, q3⟩
 ·refine ⟨?_, fun k T a hk => ?_⟩
  ·rw [← h1, List.length_zip, List.length_map, e2, p2]
   simp
  ·have hlt := getElem?_lt hk
   have hka : (re.map (fun q : TypeId × AV => q.2) ++ nk.map fun q => x.env.getD q.1 .u)[k]? = some a := by
    rw [List.getElem?_append_left (by simpa using hlt), List.getElem?_map, hk]
    rfl
   obtain ⟨a', ha'⟩ := getElem?_of_lt (l := (enterL C 0 ((re.map fun _ => 1) ++ nk.map (fun q : Nat × Nat × TypeId => q.2.1)) (re.map (fun q : TypeId × AV => q.1) ++ nk.map (fun q : Nat × Nat × TypeId => q.2.2)) xs).1) (j := k) (by rw [e2, p2]; simp; omega)
   refine ⟨a', ?_, ?_⟩
   ·rw [← h1, List.getElem?_zip_eq_some]
    exact ⟨by rw [List.getElem?_map, hk]; rfl, ha'⟩
   ·rcases hld k T a hk with rfl | ⟨t, q1, q2⟩
    ·obtain ⟨y, hy⟩ := passL_at hp _ _ hka
     rw [hmode k hlt, passD_u] at hy
     cases hy
    ·obtain ⟨t', m1, m2⟩ := hmove k a a' hka ha' (.inl (hmode k hlt)) t q1
     rcases m1 with m1 | m1
     ·exact .inl m1
     ·exact .inr ⟨t, t', q1, m1, q2, m2⟩
 ·obtain ⟨a, k1, k2⟩ := hzip k T a' hk
  obtain ⟨v, hv⟩ := getElem?_of_lt (l := rvs ++ nk.map fun q => tmps.getD q.1 undef) (j := k) (by have := getElem?_lt k2; omega)
  exact ⟨v, e1 k a' v k2 hv⟩
end
section
variable {C : Cfg} {F : Nat → Prop} {σ : Sig} {S : List Blk} {w w' : World}
def itemOf : It → Item
 | .code c => .code c
 | .blk id => .inBlock id
 | .lp c => .inLoop c
theorem exit_ok {id : Nat} : ∀ {its r : List It}, exitI id its = some r → exitTo id (its.map itemOf) = some (r.map itemOf)
 | [], r, h => by simp [exitI] at h
 | .blk id' :: k, r, h => by
  simp only [exitI] at h
  by_cases q : id' = id
  ·rw [if_pos q] at h
   cases h
   simp [exitTo, itemOf, q]
  ·rw [if_neg q] at h
   simp only [List.map_cons, itemOf, exitTo]
   rw [if_neg (by simpa using q)]
   exact exit_ok h
 | .code c :: k, r, h => by
  simp only [exitI] at h
  simp only [List.map_cons, itemOf, exitTo]
  exact exit_ok h
 | .lp c :: k, r, h => by
  simp only [exitI] at h
  simp only [List.map_cons, itemOf, exitTo]
  exact exit_ok h
def CalleeAt (C : Cfg) (n : FuncId) (g : List AV → Out) : Prop :=
 ∀ {f : Func} {xs o : List AV}, C.P.funcs[n]? = some f → f.body.isSome = true → xs.length = f.params.size + f.nfree → g xs = some o → ∀ {F0 : Nat → Prop} {σ0 : Sig} {w : World} {vals : Array Value}, Sim C F0 σ0 (enterL C 0 (C.pm n) (parL f) xs).2 w → vals.size = xs.length → (enterL C 0 (C.pm n) (parL f) xs).1.length = xs.length →
  (∀ (j : Nat) a v, (enterL C 0 (C.pm n) (parL f) xs).1[j]? = some a → vals[j]? = some v → VR C w F0 σ0 a v) → Calls C.P n vals w fun e w' => ∃ val, e = .returned val ∧ Ends C n f o F0 σ0 (enterL C 0 (C.pm n) (parL f) xs).2 w val w'
theorem refE_at : ∀ (ms : List Nat) (Ts : List TypeId) (xs : List AV) (id0 : Nat), xs.length = Ts.length → ∀ (k : Nat) T a, (refE C id0 ms Ts)[k]? = some (T, a) → ∃ j, ms.getD j 0 = 1 ∧ (enterL C id0 ms Ts xs).1[j]? = some a ∧ (a = .u ∨ ∃ t, (a = .p t [] ∨ ∃ e, a = .w e t) ∧ ∃ i B, t = id0 + i ∧ (enterL C id0 ms Ts xs).2[i]? = some B ∧ B ≠ .dead)
 | ms, [], xs, id0, hn, k, T, a, h => by simp [refE] at h
 | ms, T0 :: Ts, xs, id0, hn, k, T, a, h => by
  cases xs with
  | nil => simp at hn
  | cons x xs =>
   have hcnt : ∀ m t base y z, (lay C m T0 t base y).2.length = (lay C m T0 t base z).2.length := fun m t base y z => by
    unfold lay
    split
    ·split
     ·rfl
     ·unfold layO
      split
      ·rfl
      ·simp [ownB]
      ·rfl
     ·rfl
    ·split
     ·unfold layO
      split
      ·rfl
      ·simp [ownB]
      ·rfl
     ·split
      ·rfl
      ·split <;> rfl
   simp only [refE] at h
   have lift : ∀ {k : Nat}, (refE C (id0 + (lay C (ms.headD 0) T0 id0 (id0 + 1) .u).2.length) ms.tail Ts)[k]? = some (T, a) → ∃ j, ms.getD j 0 = 1 ∧ (enterL C id0 ms (T0 :: Ts) (x :: xs)).1[j]? = some a ∧ (a = .u ∨ ∃ t, (a = .p t [] ∨ ∃ e, a = .w e t) ∧ ∃ i B, t = id0 + i ∧ (enterL C id0 ms (T0 :: Ts) (x :: xs)).2[i]? = some B ∧ B ≠ .dead) := fun {k} hk => by
    obtain ⟨j, q1, q2, q3⟩ := refE_at ms.tail Ts xs _ (by simpa using hn) k T a hk
    have e := hcnt (ms.headD 0) id0 (id0 + 1) .u x
    rw [e] at q2 q3
    refine ⟨j + 1, by cases ms with | nil => simp at q1 | cons m ms => simpa using q1, by simpa [enterL] using q2, ?_⟩
    rcases q3 with q3 | ⟨t, q3, i, B, q4, q5, q6⟩
    ·exact .inl q3
    ·refine .inr ⟨t, q3, (lay C (ms.headD 0) T0 id0 (id0 + 1) x).2.length + i, B, by omega, ?_, q6⟩
     simp only [enterL, List.headD_cons, List.tail_cons]
     rw [List.getElem?_append_right (by omega), Nat.add_sub_cancel_left]
     exact q5
   split at h
   ·rename_i hm
    cases k with
    | zero =>
     simp only [List.getElem?_cons_zero, Option.some.injEq, Prod.mk.injEq] at h
     obtain ⟨rfl, rfl⟩ := h
     have e1 : (lay C (ms.headD 0) T0 id0 (id0 + 1) x).1 = (lay C (ms.headD 0) T0 id0 (id0 + 1) .u).1 := by
      rw [hm]
      unfold lay
      rw [if_pos (.inl rfl), if_pos (.inl rfl)]
      split
      ·rfl
      ·unfold layO; split <;> rfl
      ·rfl
     refine ⟨0, by cases ms <;> exact hm, by simp only [enterL, List.getElem?_cons_zero, List.headD_cons]; rw [e1], ?_⟩
     rw [← e1, hm]
     have hh : (lay C 1 T0 id0 (id0 + 1) x).1 = .u ∨ (((lay C 1 T0 id0 (id0 + 1) x).1 = .p id0 [] ∨ ∃ e, (lay C 1 T0 id0 (id0 + 1) x).1 = .w e id0) ∧ ∃ B Bs, (lay C 1 T0 id0 (id0 + 1) x).2 = B :: Bs ∧ B ≠ .dead) := by
      unfold lay
      rw [if_pos (.inl rfl)]
      split
      ·exact .inr ⟨.inr ⟨_, rfl⟩, _, _, rfl, by simp⟩
      ·unfold layO
       split
       ·exact .inr ⟨.inl rfl, _, _, rfl, by simp⟩
       ·exact .inr ⟨.inl rfl, _, _, rfl, by simp⟩
       ·exact .inr ⟨.inl rfl, _, _, rfl, by simp⟩
      ·exact .inl rfl
     rcases hh with hh | ⟨h1, B, Bs, h2, h3⟩
     ·exact .inl hh
     ·refine .inr ⟨id0, h1, 0, B, rfl, ?_, h3⟩
      simp only [enterL, List.headD_cons, List.tail_cons]
      rw [hm, h2]
      rfl
    | succ k => exact lift (by simpa using h)
   ·exact lift h
def DefR (C : Cfg) (w : World) (F : Nat → Prop) (σ : Sig) : DF → List Deferred → Prop
 | [], [] => True
 | q :: df, d :: ds => (∃ cap : Array Value, d.target = .fn (.func q.1) cap ∧ (d.args ++ cap).size = q.2.length ∧ ∀ (j : Nat) a v, q.2[j]? = some a → (d.args ++ cap)[j]? = some v → VR C w F σ a v) ∧ DefR C w F σ df ds
 | _, _ => False
theorem DefR.mono {F' : Nat → Prop} {σ' : Sig} (hk : ∀ b, F b → w'.heap[b]? = w.heap[b]?) (hF : ∀ b, F b → F' b) (hσ : ∀ id, σ id ≠ .no → σ' id = σ id) : ∀ {df : DF} {ds : List Deferred}, DefR C w F σ df ds → DefR C w' F' σ' df ds
 | [], [], _ => trivial
 | [], _ :: _, h => h.elim
 | _ :: _, [], h => h.elim
 | q :: df, d :: ds, ⟨⟨cap, h1, h2, h3⟩, h4⟩ => ⟨⟨cap, h1, h2, fun j a v ha hv => (h3 j a v ha hv).mono hk hF hσ⟩, DefR.mono hk hF hσ h4⟩
theorem DefR.nil {ds : List Deferred} (h : DefR C w F σ [] ds) : ds = [] := by
 cases ds with
 | nil => rfl
 | cons d ds => exact h.elim
def GoI (C : Cfg) (inl : Bool) (F0 : Nat → Prop) (σ0 : Sig) (S0 : List Blk) (w0 : World) (re0 re : Refs) (df : DF) (x : X) (a : Act) (w : World) : Prop :=
 ∃ F σ, Sim C F σ x.st w ∧ EnvR C w F σ x.env a.tmps ∧ DefR C w F σ df a.defers ∧ Stp C F0 σ0 S0 w0 F σ x.st w ∧ Leads σ0 σ re0 re ∧ RV C w F σ re ∧ (inl = true → ∀ id, σ0 id ≠ .no → σ id = σ0 id)
def GoE (C : Cfg) (inl : Bool) (F0 : Nat → Prop) (σ0 : Sig) (S0 : List Blk) (w0 : World) (re0 re : Refs) (x : X) (m : Machine) (b : Frame) (cs : List Frame) : Prop :=
 ∃ todo a' w', Steps C.P m (lone { b.at a' todo with mode := .returning } cs w') ∧ GoI C inl F0 σ0 S0 w0 re0 re [] x a' w'
theorem GoE.steps {inl : Bool} {F0 : Nat → Prop} {σ0 : Sig} {S0 : List Blk} {w0 : World} {re0 re : Refs} {x : X} {m m' : Machine} {b : Frame} {cs : List Frame} (h : Steps C.P m m') (k : GoE C inl F0 σ0 S0 w0 re0 re x m' b cs) : GoE C inl F0 σ0 S0 w0 re0 re x m b cs := by
 obtain ⟨todo, a', w', k1, k2⟩ := k
 exact ⟨todo, a', w', h.trans k1, k2⟩
theorem opsD_nat {α : Type} {out : α} {call : CallF} (hu : SNat call) {all : List Oper} {K : X → Option α} : ∀ (rest : List Oper) (pl : Plan) (slot : Nat) (env : List AV) (S : List Blk) (op : List (List Blk × List Nat)), opsD C call all K rest pl slot env S op = some out → ∃ z, K z = some out ∧ ∀ {β : Type} (K' : X → Option β), opsD C call all K' rest pl slot env S op = K' z
 | [], pl, slot, env, S, op, h => by
  unfold opsD at h
  cases op with
  | nil => exact ⟨_, h, fun K' => by unfold opsD; rfl⟩
  | cons q op => exact ⟨_, h, fun K' => by unfold opsD; rfl⟩
 | o :: rest, pl, slot, env, S, op, h => by
  unfold opsD at h
  obtain ⟨v, S', ks, hK, hst⟩ := stepD_nat hu h
  cases ks with
  | nil =>
   obtain ⟨z, h1, h2⟩ := opsD_nat hu rest _ _ _ _ _ hK
   exact ⟨z, h1, fun K' => by unfold opsD; rw [hst]; exact h2 K'⟩
  | cons k ks =>
   dsimp only at hK
   split at hK
   ·rename_i hp
    obtain ⟨z, h1, h2⟩ := opsD_nat hu rest _ _ _ _ _ hK
    refine ⟨z, h1, fun K' => ?_⟩
    unfold opsD
    rw [hst]
    dsimp only
    rw [hp]
    exact h2 K'
   ·cases hK
theorem regD_nat {α : Type} {out : α} {call : CallF} (hu : SNat call) {K : X → Option α} {ops : Array Oper} {draw : Bool} {x : X} (h : regD C call K ops draw x = some out) : ∃ z, K z = some out ∧ ∀ {β : Type} (K' : X → Option β), regD C call K' ops draw x = K' z := by
 unfold regD at h
 dsimp only at h
 split at h
 ·rename_i hd
  obtain ⟨hok, h⟩ := ite_some h
  obtain ⟨z, h1, h2⟩ := opsD_nat hu _ _ _ _ _ _ h
  exact ⟨z, h1, fun K' => by unfold regD; dsimp only; rw [if_pos hd, if_pos hok]; exact h2 K'⟩
 ·rename_i hd
  obtain ⟨z, h1, h2⟩ := opsD_nat hu _ _ _ _ _ _ h
  exact ⟨z, h1, fun K' => by unfold regD; dsimp only; rw [if_neg hd]; exact h2 K'⟩
theorem finI_nat {α : Type} {out : α} {f : Func} {slot : Nat} {x : X} {K : KV α} (h : finI C f S slot x K = some out) : ∃ v S' ks, K v S' ks = some out ∧ ∀ {β : Type} (K' : KV β), finI C f S slot x K' = K' v S' ks := by
 unfold finI at h
 split at h
 ·cases h
 rename_i as h1
 split at h
 ·cases h
 rename_i q h2
 split at h
 ·cases h
 rename_i bs h3
 obtain ⟨h4, h⟩ := ite_some h
 refine ⟨_, _, _, h, fun K' => ?_⟩
 unfold finI
 simp only [h1, h2, h3]
 rw [if_pos h4]
theorem deferO_eq {ops : List Oper} {c : Call} (h : deferO ops = some c) : ∃ o : Oper, ops.dropLast ++ [o] = ops ∧ o.op = .defer c ∧ o.guard = none ∧ o.dst = none := by
 unfold deferO at h
 cases hl : ops.getLast? with
 | none => rw [hl] at h; cases h
 | some o =>
  rw [hl] at h
  dsimp only at h
  have hs : ops.dropLast ++ [o] = ops := by
   rw [List.getLast?_eq_some_iff] at hl
   obtain ⟨ys, rfl⟩ := hl
   simp
  cases hop : o.op <;> cases hg : o.guard <;> cases hd : o.dst <;> rw [hop, hg, hd] at h <;> try (cases h; done)
  obtain rfl := Option.some.inj h
  exact ⟨o, hs, hop, hg, hd⟩
theorem endD_nat {call : CallF} (hu : SNat call) : ∀ (df : DF) {α : Type} {out : α} {x : X} {K : X → Option α}, endD C call df x K = some out → ∃ z, K z = some out ∧ ∀ {β : Type} (K' : X → Option β), endD C call df x K' = K' z
 | [], α, out, x, K, h => ⟨x, h, fun _ => rfl⟩
 | (n, args) :: ds, α, out, x, K, h => by
  unfold endD at h
  split at h
  ·cases h
  rename_i f hf
  obtain ⟨hc, h⟩ := ite_some h
  by_cases hi : C.idle n = true
  ·rw [if_pos hi] at h
   obtain ⟨z, h1, h2⟩ := endD_nat hu ds h
   refine ⟨z, h1, fun K' => ?_⟩
   unfold endD
   rw [hf]
   dsimp only
   rw [if_pos hc, if_pos hi]
   exact h2 K'
  ·rw [if_neg hi] at h
   obtain ⟨v, S', ks, h1, h2⟩ := hu h
   split at h1
   ·obtain ⟨hl, h1⟩ := ite_some h1
    obtain ⟨z, h3, h4⟩ := endD_nat hu ds h1
    refine ⟨z, h3, fun K' => ?_⟩
    unfold endD
    rw [hf]
    dsimp only
    rw [if_pos hc, if_neg hi, h2]
    dsimp only
    rw [if_pos hl]
    exact h4 K'
   ·cases h1
theorem go_nat : ∀ (k : Nat) {α : Type} {out : α} {inl : Bool} {n : FuncId} {f : Func} {re : Refs} {df : DF} {its : List It} {x : X} {fin : Refs → X → Option α}, go C k α inl n f re df its x fin = some out → ∃ re' x', fin re' x' = some out ∧ ∀ (β : Type) (fin' : Refs → X → Option β), go C k β inl n f re df its x fin' = fin' re' x'
 | 0, α, out, inl, n, f, re, df, its, x, fin, h => by simp [go] at h
 | k + 1, α, out, inl, n, f, re, df, its, x, fin, h => by
  have ih := fun {α : Type} {out : α} {inl : Bool} {n : FuncId} {f : Func} {re : Refs} {df : DF} {its : List It} {x : X} {fin : Refs → X → Option α} => go_nat k (α := α) (out := out) (inl := inl) (n := n) (f := f) (re := re) (df := df) (its := its) (x := x) (fin := fin)
  have hsn : SNat (callG C (go C k)) := by
   intro α n f S slot args K out h
   unfold callG at h
   dsimp only at h
   split at h
   ·cases h
   rename_i c hc
   obtain ⟨hn, h⟩ := ite_some h
   obtain ⟨re', x', h1, h2⟩ := ih h
   obtain ⟨v, S', ks, h3, h4⟩ := finI_nat h1
   refine ⟨v, S', ks, h3, fun {β} K' => ?_⟩
   unfold callG
   dsimp only
   rw [hc]
   dsimp only
   rw [if_pos hn, h2 β fun _ x => finI C f S slot x K']
   exact h4 K'
  have end_ : endD C (callG C (go C k)) df x (fun x => fin re x) = some out → ∃ re' x', fin re' x' = some out ∧ ∀ (β : Type) (fin' : Refs → X → Option β), endD C (callG C (go C k)) df x (fun x => fin' re x) = fin' re' x' := fun hr => by
   obtain ⟨z, h1, h2⟩ := endD_nat hsn df hr
   exact ⟨re, z, h1, fun β fin' => h2 _⟩
  have reg : ∀ {ops : Array Oper} {draw : Bool} {rest : List It} {re1 : Refs} {df : DF} {x1 : X}, regD C (callG C (go C k)) (fun x => go C k α inl n f re1 df rest x fin) ops draw x1 = some out → ∃ re' x', fin re' x' = some out ∧ ∀ (β : Type) (fin' : Refs → X → Option β), regD C (callG C (go C k)) (fun x => go C k β inl n f re1 df rest x fin') ops draw x1 = fin' re' x' := fun {ops draw rest re1 df x1} hr => by
   obtain ⟨z, h1, h2⟩ := regD_nat hsn hr
   obtain ⟨re', x', h3, h4⟩ := ih h1
   exact ⟨re', x', h3, fun β fin' => (h2 _).trans (h4 β fin')⟩
  unfold go at h
  split at h
  ·obtain ⟨re', x', h1, h2⟩ := end_ h
   exact ⟨re', x', h1, fun β fin' => by unfold go; exact h2 β fin'⟩
  ·obtain ⟨re', x', h1, h2⟩ := ih h
   exact ⟨re', x', h1, fun β fin' => by unfold go; exact h2 β fin'⟩
  ·obtain ⟨re', x', h1, h2⟩ := ih h
   exact ⟨re', x', h1, fun β fin' => by unfold go; exact h2 β fin'⟩
  ·split at h
   ·obtain ⟨re', x', h1, h2⟩ := ih h
    exact ⟨re', x', h1, fun β fin' => by unfold go; exact h2 β fin'⟩
   ·split at h
    ·rename_i hk
     split at h
     ·rename_i hd
      obtain ⟨re', x', h1, h2⟩ := reg h
      refine ⟨re', x', h1, fun β fin' => ?_⟩
      unfold go
      dsimp only
      rw [hk]
      dsimp only
      rw [hd]
      exact h2 β fin'
     ·rename_i c hd
      obtain ⟨z, h1, h2⟩ := opsD_nat hsn _ _ _ _ _ _ h
      split at h1
      ·cases h1
      ·rename_i d hda
       obtain ⟨re', x', h3, h4⟩ := ih h1
       refine ⟨re', x', h3, fun β fin' => ?_⟩
       unfold go
       dsimp only
       rw [hk]
       dsimp only
       rw [hd]
       dsimp only
       rw [h2]
       rw [hda]
       exact h4 β fin'
    ·rename_i ks hk
     split at h
     ·split at h
      ·cases h
      ·rename_i z hz
       obtain ⟨re', x', h1, h2⟩ := reg h
       refine ⟨re', x', h1, fun β fin' => ?_⟩
       unfold go
       dsimp only
       rw [hk]
       dsimp only
       rw [hz]
       exact h2 β fin'
     ·cases h
   ·obtain ⟨re', x', h1, h2⟩ := ih h
    exact ⟨re', x', h1, fun β fin' => by unfold go; exact h2 β fin'⟩
   ·rename_i c ca cb
    split at h <;> try (cases h; done)
    rename_i t et
    split at h
    ·rename_i ht
     obtain ⟨re', x', h1, h2⟩ := ih h
     exact ⟨re', x', h1, fun β fin' => by unfold go; dsimp only; rw [et]; dsimp only; rw [if_pos ht]; exact h2 β fin'⟩
    ·rename_i ht
     obtain ⟨re', x', h1, h2⟩ := ih h
     exact ⟨re', x', h1, fun β fin' => by unfold go; dsimp only; rw [et]; dsimp only; rw [if_neg ht]; exact h2 β fin'⟩
   ·obtain ⟨re', x', h1, h2⟩ := ih h
    exact ⟨re', x', h1, fun β fin' => by unfold go; exact h2 β fin'⟩
   ·obtain ⟨re', x', h1, h2⟩ := ih h
    exact ⟨re', x', h1, fun β fin' => by unfold go; exact h2 β fin'⟩
   ·split at h
    ·rename_i r hr
     obtain ⟨re', x', h1, h2⟩ := ih h
     exact ⟨re', x', h1, fun β fin' => by unfold go; dsimp only; rw [hr]; exact h2 β fin'⟩
    ·cases h
   ·obtain ⟨re', x', h1, h2⟩ := end_ h
    exact ⟨re', x', h1, fun β fin' => by unfold go; exact h2 β fin'⟩
   ·cases h
theorem callee_ok (hl : layB C = true) {g : GoF} (hg : ∀ {inl : Bool} {n : FuncId} {f : Func} {re re' : Refs} {df : DF} {its : List It} {x x' : X}, g (Refs × X) inl n f re df its x (fun re x => some (re, x)) = some (re', x') → C.P.funcs[n]? = some f → ∀ {re0 : Refs} {F0 : Nat → Prop} {σ0 : Sig} {S0 : List Blk} {w0 w : World} {a : Act}, GoI C inl F0 σ0 S0 w0 re0 re df x a w → ∀ (b : Frame) (cs : List Frame), b.fn = n → GoE C inl F0 σ0 S0 w0 re0 re' x' (lone (b.at a (its.map itemOf)) cs w) b cs) (hgn : ∀ {α : Type} {out : α} {inl : Bool} {n : FuncId} {f : Func} {re : Refs} {df : DF} {its : List It} {x : X} {fin : Refs → X → Option α}, g α inl n f re df its x fin = some out → ∃ re' x', fin re' x' = some out ∧ ∀ (β : Type) (fin' : Refs → X → Option β), g β inl n f re df its x fin' = fin' re' x') {n : FuncId} :
  CalleeAt C n ((callG C g).f n) := by
 intro f xs o hf hb hn h F0 σ0 w vals hs hv hlen hvr
 unfold callG at h
 dsimp only at h
 rw [hf] at h
 dsimp only at h
 obtain ⟨c, hc⟩ := Option.isSome_iff_exists.mp hb
 rw [hc] at h
 dsimp only at h
 intro cs
 let b : Frame := { (default : Frame) with fn := n, kind := .normal }
 have henter : Frame.enter C.P n vals .normal = b.at { tmps := vals ++ Array.replicate (f.ntmps - vals.size) undef, defers := [] } [.code c] := by
  simp [Frame.enter, Frame.at, hf, hc, b]
 have hlive : ∀ (i : Nat) (B : Blk), (enterL C 0 (C.pm n) (parL f) xs).2[i]? = some B → B ≠ .dead → σ0 i ≠ .no := fun i B hi hB => hs.place (by unfold live; rw [List.getD_eq_getElem?_getD, hi]; exact hB)
 have hI : GoI C false F0 σ0 (enterL C 0 (C.pm n) (parL f) xs).2 w (refE C 0 (C.pm n) (parL f)) (refE C 0 (C.pm n) (parL f)) [] ⟨(enterL C 0 (C.pm n) (parL f) xs).1 ++ List.replicate (f.ntmps - xs.length) .u, (enterL C 0 (C.pm n) (parL f) xs).2⟩ { tmps := vals ++ Array.replicate (f.ntmps - vals.size) undef, defers := [] } w := by
  refine ⟨F0, σ0, hs, ⟨by simp [hlen, hv], fun t => ?_⟩, trivial, .refl, .mono (fun k T a hk => ?_) fun _ _ => rfl, fun k T a hk => ?_, fun h => by cases h⟩
  ·dsimp only
   rw [List.getD_eq_getElem?_getD, Array.getD_eq_getD_getElem?, List.getElem?_append, Array.getElem?_append, hlen, hv]
   split
   ·rename_i hlt
    obtain ⟨y, hy⟩ := getElem?_of_lt (l := (enterL C 0 (C.pm n) (parL f) xs).1) (j := t) (by omega)
    obtain ⟨v, hv'⟩ : ∃ v, vals[t]? = some v := ⟨vals[t]'(by omega), Array.getElem?_eq_getElem (by omega)⟩
    rw [hy, hv']
    exact hvr t y v hy hv'
   ·cases hq : (List.replicate (f.ntmps - xs.length) AV.u)[t - xs.length]? with
    | none => exact .u
    | some z =>
     have := List.mem_of_getElem? hq
     rw [List.mem_replicate] at this
     rw [this.2]
     exact .u
  ·obtain ⟨j, _, _, q⟩ := refE_at (C := C) (C.pm n) (parL f) xs 0 (by simp [parL, hn]) k T a hk
   rcases q with q | ⟨t, q1, i, B, q2, q3, q4⟩
   ·exact .inl q
   ·refine .inr ⟨t, q1, ?_⟩
    rw [q2, Nat.zero_add]
    exact hlive i B q3 q4
  ·obtain ⟨j, _, q2, _⟩ := refE_at (C := C) (C.pm n) (parL f) xs 0 (by simp [parL, hn]) k T a hk
   obtain ⟨v, hv'⟩ : ∃ v, vals[j]? = some v := ⟨vals[j]'(by have := getElem?_lt q2; omega), Array.getElem?_eq_getElem _⟩
   exact ⟨v, hvr j a v q2 hv'⟩
 obtain ⟨re', x', h1, h2⟩ := hgn h
 obtain ⟨todo, a', w', k1, F1, σ1, i1, i2, i3, i4, i5, i6, _⟩ := hg (h2 _ _) hf hI b cs rfl
 have i3 := i3.nil
 obtain ⟨val, k3, k4⟩ := finish_ok hl rfl i1 i2 i4 i5 i6 h1
 refine ⟨.returned val, w', { b.at a' todo with mode := .returning }, ⟨val, rfl, k4⟩, ?_, rfl, rfl, i3, rfl, f, hf, k3⟩
 rw [henter]
 exact k1
theorem inl_core (hl : layB C = true) {g : GoF} (hg : ∀ {inl : Bool} {n : FuncId} {f : Func} {re re' : Refs} {df : DF} {its : List It} {x x' : X}, g (Refs × X) inl n f re df its x (fun re x => some (re, x)) = some (re', x') → C.P.funcs[n]? = some f → ∀ {re0 : Refs} {F0 : Nat → Prop} {σ0 : Sig} {S0 : List Blk} {w0 w : World} {a : Act}, GoI C inl F0 σ0 S0 w0 re0 re df x a w → ∀ (b : Frame) (cs : List Frame), b.fn = n → GoE C inl F0 σ0 S0 w0 re0 re' x' (lone (b.at a (its.map itemOf)) cs w) b cs) (hgn : ∀ {α : Type} {out : α} {inl : Bool} {n : FuncId} {f : Func} {re : Refs} {df : DF} {its : List It} {x : X} {fin : Refs → X → Option α}, g α inl n f re df its x fin = some out → ∃ re' x', fin re' x' = some out ∧ ∀ (β : Type) (fin' : Refs → X → Option β), g β inl n f re df its x fin' = fin' re' x')  {n : FuncId} {f : Func} {S : List Blk} {slot : Nat} {args : List AV} {v : AV} {S' : List Blk} {ks : List Nat} (hf : C.P.funcs[n]? = some f) (hb : f.body.isSome = true) (h : (callG C g).s n f S slot args (fun v S' ks => some (v, S', ks)) = some (v, S', ks)) {F : Nat → Prop} {σ : Sig} {w : World} {vals : Array Value} {o : Oper} (ho : slotsOf o.op = 8) (hs : Sim C F σ S w) (hsl : ∀ j, slot ≤ j → j < slot + 8 → Slot σ S j)
  (hv : vals.size = args.length) (hvr : ∀ (j : Nat) a v, args[j]? = some a → vals[j]? = some v → VR C w F σ a v) (kind : CallKind) (cs : List Frame) : ∃ val w' fr, Steps C.P (lone (Frame.enter C.P n vals kind) cs w) (lone fr cs w') ∧ fr.kind = kind ∧ fr.fn = n ∧ fr.mode = .returning ∧ fr.defers = [] ∧ (results f fr.tmps).run C.P w' = .ok val w' ∧ Post C o F σ S w slot v S' ks val w' := by
 unfold callG at h
 dsimp only at h
 obtain ⟨c, hc⟩ := Option.isSome_iff_exists.mp hb
 rw [hc] at h
 dsimp only at h
 obtain ⟨hn, h⟩ := ite_some h
 obtain ⟨re', x', h1, h2⟩ := hgn h
 let b : Frame := { (default : Frame) with fn := n, kind := kind }
 have henter : Frame.enter C.P n vals kind = b.at { tmps := vals ++ Array.replicate (f.ntmps - vals.size) undef, defers := [] } [.code c] := by
  simp [Frame.enter, Frame.at, hf, hc, b]
 have hI : GoI C true F σ S w [] [] [] ⟨args ++ List.replicate (f.ntmps - args.length) .u, S⟩ { tmps := vals ++ Array.replicate (f.ntmps - vals.size) undef, defers := [] } w := by
  refine ⟨F, σ, hs, ⟨by simp [hv], fun t => ?_⟩, trivial, .refl, ⟨rfl, fun k T a hk => by simp at hk⟩, fun k T a hk => by simp at hk, fun _ _ _ => rfl⟩
  dsimp only
  rw [List.getD_eq_getElem?_getD, Array.getD_eq_getD_getElem?, List.getElem?_append, Array.getElem?_append, hv]
  split
  ·rename_i hlt
   obtain ⟨y, hy⟩ := getElem?_of_lt (l := args) (j := t) hlt
   obtain ⟨v, hv'⟩ : ∃ v, vals[t]? = some v := ⟨vals[t]'(by omega), Array.getElem?_eq_getElem (by omega)⟩
   rw [hy, hv']
   exact hvr t y v hy hv'
  ·cases hq : (List.replicate (f.ntmps - args.length) AV.u)[t - args.length]? with
   | none => exact .u
   | some z =>
    have := List.mem_of_getElem? hq
    rw [List.mem_replicate] at this
    rw [this.2]
    exact .u
 obtain ⟨todo, a', w', k1, F1, σ1, i1, i2, i3, i4, _, _, i7⟩ := hg (h2 _ _) hf hI b cs rfl
 have i3 := i3.nil
 unfold finI at h1
 split at h1
 ·cases h1
 rename_i as has
 split at h1
 ·cases h1
 rename_i q hq
 split at h1
 ·cases h1
 rename_i bs hbs
 obtain ⟨hlen, h1⟩ := ite_some h1
 simp only [Option.some.injEq, Prod.mk.injEq] at h1
 obtain ⟨rfl, rfl, rfl⟩ := h1
 obtain ⟨rvals, e1, e2, e3⟩ := resL_vals hl i1 i2 has
 obtain ⟨lv, S2⟩ := q
 obtain ⟨r1, r2, r3, r4, r5, r6⟩ := renum_ok hs i1 i4 (i7 rfl) hsl hq
 obtain ⟨m1, m2⟩ := mapO_at hbs
 refine ⟨oneV rvals, w', { b.at a' todo with mode := .returning }, ?_, rfl, rfl, rfl, i3, results_vals e1 e3, F1, _, r1, r2, r4, fun id hid => by simp at hid, ?_, r3, fun j hj => r5 j (by rw [ho] at hj; exact hj)⟩
 rotate_left
 ·have e4 := (resL_at has).1
  refine vr_one (by omega) fun j y u hy hu => ?_
  obtain ⟨y0, hy0⟩ := getElem?_of_lt (l := as) (j := j) (by have := getElem?_lt hy; omega)
  exact (e2 j y0 u hy0 hu).ren r6 (m2 j y0 y hy0 hy)
 ·rw [henter]
  exact k1
theorem inl_ok (hl : layB C = true) {g : GoF} (hg : ∀ {inl : Bool} {n : FuncId} {f : Func} {re re' : Refs} {df : DF} {its : List It} {x x' : X}, g (Refs × X) inl n f re df its x (fun re x => some (re, x)) = some (re', x') → C.P.funcs[n]? = some f → ∀ {re0 : Refs} {F0 : Nat → Prop} {σ0 : Sig} {S0 : List Blk} {w0 w : World} {a : Act}, GoI C inl F0 σ0 S0 w0 re0 re df x a w → ∀ (b : Frame) (cs : List Frame), b.fn = n → GoE C inl F0 σ0 S0 w0 re0 re' x' (lone (b.at a (its.map itemOf)) cs w) b cs) (hgn : ∀ {α : Type} {out : α} {inl : Bool} {n : FuncId} {f : Func} {re : Refs} {df : DF} {its : List It} {x : X} {fin : Refs → X → Option α}, g α inl n f re df its x fin = some out → ∃ re' x', fin re' x' = some out ∧ ∀ (β : Type) (fin' : Refs → X → Option β), g β inl n f re df its x fin' = fin' re' x') : SOk C (callG C g) := by
 intro n f S slot args v S' ks hf hb h F σ w vals o ho hs hsl hv hvr cs
 obtain ⟨val, w', fr, k1, k2, k3, k4, k5, k6, k7⟩ := inl_core hl hg hgn hf hb h ho hs hsl hv hvr .normal cs
 exact ⟨.returned val, w', fr, ⟨val, rfl, k7⟩, k1, k3, k4, k5, k2, f, by rw [k3]; exact hf, k6⟩
def IdleOk (C : Cfg) : Prop := ∀ n, C.idle n = true → ∀ f, C.P.funcs[n]? = some f → ∀ (vals : Array Value) (w : World), vals.size = f.params.size + f.nfree → CallsD C.P n vals .returning w fun e u' w' => (∃ v, e = .returned v) ∧ u' = .returning ∧ w'.os = w.os ∧ w'.tape = w.tape ∧ w'.output = w.output ∧ w.drawn ≤ w'.drawn ∧ w.heap.size ≤ w'.heap.size ∧ ∀ b, b < w.heap.size → w'.heap[b]? = w.heap[b]?
theorem Sim.ext (hs : Sim C F σ S w) (h1 : w.heap.size ≤ w'.heap.size) (h2 : ∀ b, b < w.heap.size → w'.heap[b]? = w.heap[b]?) : Sim C F σ S w' where
 blk := fun id => by
  by_cases hl : live S id
  ·exact (hs.blk id).mono (fun b hb => h2 b (hs.fin b hb)) (fun _ h => h) (fun _ _ => rfl) fun b hb => h2 b (hs.lt hl hb)
  ·rw [not_live hl]; exact trivial
 inj := hs.inj
 out := hs.out
 top := hs.top
 fin := fun b hb => Nat.lt_of_lt_of_le (hs.fin b hb) h1
 tab := hs.tabk (fun b hb => h2 b (hs.fin b hb)) fun _ h => h
def anO : Oper := { dst := none, op := .call { callee := .value (.tmp 0), args := #[], argTypes := #[] }, type := 0, pos := "", after := #[], guard := none }
theorem endD_ok (hl : layB C = true) (hnm : namesB C = true) (hid : IdleOk C) {call : CallF} (hcall : ∀ {n : FuncId} {f : Func} {S : List Blk} {slot : Nat} {args : List AV} {v : AV} {S' : List Blk} {ks : List Nat} (hf : C.P.funcs[n]? = some f) (hb : f.body.isSome = true) (h : call.s n f S slot args (fun v S' ks => some (v, S', ks)) = some (v, S', ks)) {F : Nat → Prop} {σ : Sig} {w : World} {vals : Array Value} {o : Oper} (ho : slotsOf o.op = 8) (hs : Sim C F σ S w) (hsl : ∀ j, slot ≤ j → j < slot + 8 → Slot σ S j)
  (hv : vals.size = args.length) (hvr : ∀ (j : Nat) a v, args[j]? = some a → vals[j]? = some v → VR C w F σ a v) (kind : CallKind) (cs : List Frame), ∃ val w' fr, Steps C.P (lone (Frame.enter C.P n vals kind) cs w) (lone fr cs w') ∧ fr.kind = kind ∧ fr.fn = n ∧ fr.mode = .returning ∧ fr.defers = [] ∧ (results f fr.tmps).run C.P w' = .ok val w' ∧ Post C o F σ S w slot v S' ks val w') (hu : SNat call) :
  ∀ (df : DF) {x x' : X}, endD C call df x some = some x' → ∀ {inl : Bool} {re0 re : Refs} {F0 : Nat → Prop} {σ0 : Sig} {S0 : List Blk} {w0 w : World} {a : Act}, GoI C inl F0 σ0 S0 w0 re0 re df x a w → ∀ (b : Frame) (todo : List Item) (cs : List Frame), ∃ a' w', Steps C.P (lone { b.at a todo with mode := .returning } cs w) (lone { b.at a' todo with mode := .returning } cs w') ∧ GoI C inl F0 σ0 S0 w0 re0 re [] x' a' w'
 | [], x, x', h, inl, re0, re, F0, σ0, S0, w0, w, a, hI, b, todo, cs => by
  simp only [endD, Option.some.injEq] at h
  subst h
  exact ⟨a, w, Steps.refl _ _, hI⟩
 | (n, args) :: df, x, x', h, inl, re0, re, F0, σ0, S0, w0, w, a, hI, b, todo, cs => by
  obtain ⟨F, σ, i1, i2, i3, i4, i5, i6, i7⟩ := hI
  cases hds : a.defers with
  | nil => rw [hds] at i3; exact i3.elim
  | cons d ds =>
   rw [hds] at i3
   obtain ⟨⟨cap, d1, d2, d3⟩, d4⟩ := i3
   dsimp only at d1 d2 d3
   unfold endD at h
   split at h
   ·cases h
   rename_i f hf
   obtain ⟨⟨hb, hn⟩, h⟩ := ite_some h
   have hinv : (invoke d.target d.args).run C.P w = .ok (.enter n (d.args ++ cap)) w := by
    rw [d1]
    exact run_enter hnm hf hb
   have hfr : ({ b.at a todo with mode := .returning } : Frame).defers = d :: ds := hds
   have h1 := step_defer (P := C.P) (cs := cs) (w := w) (fr := { b.at a todo with mode := .returning }) (by simp) hfr d1 hinv
   have hcfr : ({ ({ b.at a todo with mode := .returning } : Frame) with defers := ds } : Frame) = { b.at { a with defers := ds } todo with mode := .returning } := rfl
   rw [hcfr] at h1
   -- what follows the call
   have go_on : ∀ {x1 : X} {w1 : World} {F1 : Nat → Prop} {σ1 : Sig} {fr : Frame} {v : Value}, endD C call df x1 some = some x' → Steps C.P (lone (Frame.enter C.P n (d.args ++ cap) .deferred) ({ b.at { a with defers := ds } todo with mode := .returning } :: cs) w) (lone fr ({ b.at { a with defers := ds } todo with mode := .returning } :: cs) w1) → fr.kind = .deferred → fr.going C.P w1 (.returned v) →
     x1.env = x.env → Sim C F1 σ1 x1.st w1 → Stp C F σ x.st w F1 σ1 x1.st w1 → (∀ id, σ id ≠ .no → σ1 id = σ id) → ∃ a' w', Steps C.P (lone { b.at a todo with mode := .returning } cs w) (lone { b.at a' todo with mode := .returning } cs w') ∧ GoI C inl F0 σ0 S0 w0 re0 re [] x' a' w' := fun {x1 w1 F1 σ1 fr v} he hst hk hgo e1 s1 s2 s3 => by
    have h2 := step_going_returned (P := C.P) (c := { b.at { a with defers := ds } todo with mode := .returning }) (cs := cs) hk hgo
    obtain ⟨a', w', t1, t2⟩ := endD_ok hl hnm hid hcall hu df he (inl := inl) (re0 := re0) (re := re) (F0 := F0) (σ0 := σ0) (S0 := S0) (w0 := w0) (w := w1) (a := { a with defers := ds }) ⟨F1, σ1, s1, by rw [e1]; exact i2.mono (s2.dat i1) s2.grow s3, d4.mono (s2.dat i1) s2.grow s3, i4.trans s2, i5.trans (.mono i5.led s3), fun k T y hk => by
     obtain ⟨v, hv⟩ := i6 k T y hk
     exact ⟨v, hv.mono (s2.dat i1) s2.grow s3⟩, fun hi id hid => by rw [s3 id (by rw [i7 hi id hid]; exact hid), i7 hi id hid]⟩ b todo cs
    exact ⟨a', w', .head h1 (hst.trans (.head h2 t1)), t2⟩
   by_cases hidle : C.idle n = true
   ·rw [if_pos hidle] at h
    obtain ⟨e, u', w1, fr, ⟨⟨v, rfl⟩, rfl, q1, q2, q3, q6, q4, q5⟩, hst, hk, hgo⟩ := hid n hidle f hf (d.args ++ cap) w (by rw [d2]; exact hn) { b.at { a with defers := ds } todo with mode := .returning } cs rfl
    refine go_on h hst hk hgo rfl (i1.ext q4 q5) ⟨q1, q2, q3, .inr q6, q4, fun b hb _ => q5 b hb, fun _ h => h, fun _ h => .inl h, fun id b h1 h2 => .inr ⟨id, h1, h2⟩⟩ fun _ _ => rfl
   ·rw [if_neg hidle] at h
    obtain ⟨v, S', ks, h3, h4⟩ := hu h
    split at h3
    ·obtain ⟨hlen, h3⟩ := ite_some h3
     have hrm := i1.room 8
     obtain ⟨val, w1, fr, k1, k2, k3, k4, k5, k6, F1, σ1, p1, p2, p3, _⟩ := hcall hf hb (h4 _) (o := anO) rfl hrm (fun j q1 q2 => ⟨by simp; omega, by rw [getD_more, List.getD_eq_getElem?_getD, List.getElem?_eq_none q1]; rfl, i1.top j q1⟩) d2 d3 .deferred ({ b.at { a with defers := ds } todo with mode := .returning } :: cs)
     exact go_on h3 k1 k2 ⟨k4, k5, f, by rw [k3]; exact hf, k6⟩ rfl p1 p2.room p3
    ·cases h3
theorem go_ok (hl : layB C = true) (hnm : namesB C = true) (hm : C.P.follows .mixedOrders = true) (hps : PrimSOk C) (hx : ExtOk C) (hid : IdleOk C) (hprim : ∀ n pf, C.prim n = some pf → CalleeAt C n pf) : ∀ (k : Nat) {inl : Bool} {n : FuncId} {f : Func} {re re' : Refs} {df : DF} {its : List It} {x x' : X}, go C k (Refs × X) inl n f re df its x (fun re x => some (re, x)) = some (re', x') → C.P.funcs[n]? = some f → ∀ {re0 : Refs} {F0 : Nat → Prop} {σ0 : Sig} {S0 : List Blk} {w0 w : World} {a : Act}, GoI C inl F0 σ0 S0 w0 re0 re df x a w → ∀ (b : Frame) (cs : List Frame), b.fn = n → GoE C inl F0 σ0 S0 w0 re0 re' x' (lone (b.at a (its.map itemOf)) cs w) b cs
 | 0, inl, n, f, re, re', df, its, x, x', h, _ => by simp [go] at h
 | k + 1, inl, n, f, re, re', df, its, x, x', h, hf => by
  intro hI b cs hbn
  rename_i re0 F0 σ0 S0 w0 w a
  have ih := fun {inl : Bool} {n : FuncId} {f : Func} {re re' : Refs} {df : DF} {its : List It} {x x' : X} => go_ok hl hnm hm hps hx hid hprim k (inl := inl) (n := n) (f := f) (re := re) (re' := re') (df := df) (its := its) (x := x) (x' := x')
  have hcallee : CalleeOk C (callP C (callG C (go C k))) := by
   intro n f xs o hf hb hn h
   unfold callP at h
   cases hp : C.prim n with
   | some pf =>
    rw [hp] at h
    exact hprim n pf hp hf hb hn h
   | none =>
    rw [hp] at h
    exact callee_ok hl (fun {inl n f re re' df its x x'} h hf => ih h hf) (go_nat k) hf hb hn h
  have hsn : SNat (callG C (go C k)) := by
   intro α n f S slot args K out h
   unfold callG at h
   dsimp only at h
   split at h
   ·cases h
   rename_i c hc
   obtain ⟨hn, h⟩ := ite_some h
   obtain ⟨re', x', h1, h2⟩ := go_nat k h
   obtain ⟨v, S', ks, h3, h4⟩ := finI_nat h1
   refine ⟨v, S', ks, h3, fun {β} K' => ?_⟩
   unfold callG
   dsimp only
   rw [hc]
   dsimp only
   rw [if_pos hn, h2 β fun _ x => finI C f S slot x K']
   exact h4 K'
  have hcalled : Called C (callG C (go C k)) := called_of hl hps hx hcallee hsn (inl_ok hl (fun {inl n f re re' df its x x'} h hf => ih h hf) (go_nat k))
  obtain ⟨F, σ, i1, i2, i3, i4, i5, i6, i7⟩ := hI
  have hI' : GoI C inl F0 σ0 S0 w0 re0 re df x a w := ⟨F, σ, i1, i2, i3, i4, i5, i6, i7⟩
  have fin : ∀ {todo : List Item}, endD C (callG C (go C k)) df x (fun x => some (re, x)) = some (re', x') → Steps C.P (lone (b.at a (its.map itemOf)) cs w) (lone { b.at a todo with mode := .returning } cs w) → GoE C inl F0 σ0 S0 w0 re0 re' x' (lone (b.at a (its.map itemOf)) cs w) b cs := fun {todo} hfi hst => by
   obtain ⟨z, h1, h2⟩ := endD_nat hsn df hfi
   simp only [Option.some.injEq, Prod.mk.injEq] at h1
   obtain ⟨rfl, rfl⟩ := h1
   obtain ⟨a', w', t1, t2⟩ := endD_ok hl hnm hid (fun {n f S slot args v S' ks} => inl_core hl (fun {inl n f re re' df its x x'} h hf => ih h hf) (go_nat k)) hsn df (h2 some) hI' b todo cs
   exact ⟨todo, a', w', hst.trans t1, t2⟩
  have reg : ∀ {id : Nat} {ops : Array Oper} {draw : Bool} {rest : List It} {re1 : Refs} {df : DF} {x1 : X}, GoI C inl F0 σ0 S0 w0 re0 re1 df x1 a w → regD C (callG C (go C k)) (fun x => go C k (Refs × X) inl n f re1 df rest x fun re x => some (re, x)) ops draw x1 = some (re', x') → GoE C inl F0 σ0 S0 w0 re0 re' x' (lone (b.at a (.code (.region id ops draw) :: rest.map itemOf)) cs w) b cs := fun {id ops draw rest re1 df x1} hI1 hr => by
   obtain ⟨F1, σ1, j1, j2, j3, j4, j5, j6, j7⟩ := hI1
   obtain ⟨e, a', w', hq, harr⟩ := regD_ok (id := id) hl hnm hm hcalled j1 j2 hr b (rest.map itemOf) cs
   obtain ⟨rfl, env', S', F', σ', q1, q2, q3, q4, q5, q6⟩ := hq
   refine GoE.steps harr (ih q1 hf ⟨F', σ', q3, q4, (by rw [q2]; exact j3.mono (q5.dat j1) q5.grow q6), j4.trans q5, j5.trans (.mono j5.led q6), fun k T a hk => ?_, fun hi id hid => by rw [q6 id (by rw [j7 hi id hid]; exact hid), j7 hi id hid]⟩ b cs hbn)
   obtain ⟨v, hv⟩ := j6 k T a hk
   exact ⟨v, hv.mono (fun b hb => q5.dat j1 b hb) q5.grow q6⟩
  unfold go at h
  split at h
  ·exact fin h (.one step_end)
  ·exact GoE.steps (.one step_inBlock) (ih h hf hI' b cs hbn)
  ·exact GoE.steps (.one step_inLoop) (ih h hf hI' b cs hbn)
  ·split at h
   ·exact GoE.steps (.one step_skip) (ih h hf hI' b cs hbn)
   ·split at h
    ·split at h
     ·exact reg hI' h
     ·rename_i its0 rest0 c0 id0 ops draw _ hk0 _ c hdo
      obtain ⟨hdr, hdo⟩ := ite_no hdo
      obtain rfl : draw = false := by simpa using hdr
      obtain ⟨o, hsplit, hop, hg, hdst⟩ := deferO_eq hdo
      have hs1 := i1.room (ops.toList.dropLast.map fun o => slotsOf o.op).sum
      have hsl : ∀ j, x.st.length ≤ j → j < x.st.length + (ops.toList.dropLast.map fun o => slotsOf o.op).sum → Slot σ (x.st ++ List.replicate (ops.toList.dropLast.map fun o => slotsOf o.op).sum Blk.dead) j := fun j h1 h2 => ⟨by rw [List.length_append, List.length_replicate]; exact h2, by rw [getD_more, List.getD_eq_getElem?_getD, List.getElem?_eq_none h1]; rfl, i1.top j h1⟩
      have hsz : ops.size = ops.toList.dropLast.length + 1 := by
       have := congrArg List.length hsplit
       simp only [List.length_append, List.length_cons, List.length_nil, Array.length_toList] at this
       omega
      have hi : ops[ops.size - 1]? = some o := by
       rw [← Array.getElem?_toList, ← hsplit, List.getElem?_append_right (by omega)]
       rw [show ops.size - 1 - ops.toList.dropLast.length = 0 by omega]
       rfl
      have hwp : (Code.region id0 ops false).wp C.P (fun e a' w' => e = .normal ∧ ∃ df1 x1, go C k (Refs × X) inl n f re df1 rest0 x1 (fun re x => some (re, x)) = some (re', x') ∧ GoI C inl F0 σ0 S0 w0 re0 re df1 x1 a' w') a w := by
       refine wp_region ?_
       rw [List.range_eq_range', show ops.size = ops.toList.dropLast.length + [o].length from hsz]
       refine opsD_seqT (ds := a.defers) hl hnm hcalled [o] (fun a1 w1 hq => ?_) ops.toList.dropLast 0 x.st.length x.env _ [] a w F σ hsplit.symm hs1 i2 hsl (fun q hq => by simp at hq) rfl .refl (fun _ _ => rfl) rfl h
       obtain ⟨env', S1, F1, σ1, q1, q2, q3, q4, q5, q6, _⟩ := hq
       simp only [List.length_cons, List.length_nil, Nat.zero_add]
       rw [show List.range' (ops.size - 1) 1 = [ops.size - 1] from rfl, wpOps_cons]
       dsimp only at q1
       split at q1
       ·cases q1
       rename_i d hda
       unfold deferA at hda
       split at hda <;> try (cases hda; done)
       rename_i fo hco
       split at hda <;> try (cases hda; done)
       rename_i m first cap ef
       have hqa := ite_some hda
       clear hda
       obtain ⟨hones, hda⟩ := hqa
       obtain rfl := Option.some.inj hda
       have hfo := ev_ok q4 fo
       rw [ef] at hfo
       rw [Bool.and_eq_true, List.all_eq_true, List.all_eq_true] at hones
       have hr := hfo.one_inv (by simp) (by simp) (by simp)
       generalize hv : a1.eval fo = fv at hr
       cases hr with
       | fn cs' ds' c1 c2 c3 c4 =>
        have hrun : (execOp a1.eval o).run C.P w1 = .ok (.defer { target := .fn (.func m) ds'.toArray, args := cs'.toArray ++ c.args.map a1.eval }) w1 := by
         simp [execOp, hop, resolve, hco, hv, Deferred.ofValue, Sem.run_bind, pure, Sem.run]
        unfold wpOp
        rw [hi]
        dsimp only
        rw [if_pos (by unfold Region.wanted; rw [hg])]
        refine .inl ?_
        unfold Oper.wp
        rw [hrun, Oper.upon_defer, hdst]
        refine ⟨rfl, _, _, q1, F1, σ1, q3, q4, ⟨⟨ds'.toArray, rfl, by simp [c1, c2], fun j b v hb hv => ?_⟩, (by rw [q2]; exact i3.mono (q5.room.dat i1) q5.grow q6)⟩, i4.trans q5.room, i5.trans (.mono i5.led q6), fun k T y hk => ?_, fun hi id hid => by rw [q6 id (by rw [i7 hi id hid]; exact hid), i7 hi id hid]⟩
        ·have hone : ∀ {b : AV} {v : Value}, isOne b = true → R C w1 F1 σ1 b [v] → VR C w1 F1 σ1 b v := fun {b v} h1 hb => .one (fun fs e => by rw [e] at h1; simp [isOne] at h1) hb
         have hv' : (cs' ++ c.args.toList.map a1.eval ++ ds')[j]? = some v := by
          have e : cs'.toArray ++ c.args.map a1.eval ++ ds'.toArray = (cs' ++ c.args.toList.map a1.eval ++ ds').toArray := by
           apply Array.ext'
           simp
          have hv2 : (cs'.toArray ++ c.args.map a1.eval ++ ds'.toArray)[j]? = some v := hv
          rw [e, List.getElem?_toArray] at hv2
          exact hv2
         clear hv
         dsimp only at hb
         rw [List.getElem?_append] at hb hv'
         simp only [List.length_append, List.length_map, c1] at hb hv'
         by_cases q1 : j < first.length + c.args.toList.length
         ·rw [if_pos q1] at hb hv'
          rw [List.getElem?_append] at hb hv'
          rw [c1] at hv'
          by_cases q2 : j < first.length
          ·rw [if_pos q2] at hb hv'
           exact hone (hones.1 b (List.mem_of_getElem? hb)) (c3 j b v hb hv')
          ·rw [if_neg q2] at hb hv'
           rw [List.getElem?_map] at hb hv'
           cases hq : c.args.toList[j - first.length]? with
           | none => rw [hq] at hb; cases hb
           | some q =>
            rw [hq] at hb hv'
            simp only [Option.map_some, Option.some.injEq] at hb hv'
            subst hb hv'
            exact ev_ok q4 q
         ·rw [if_neg q1] at hb hv'
          exact hone (hones.2 b (List.mem_of_getElem? hb)) (c4 _ b v hb hv')
        ·obtain ⟨v, hv⟩ := i6 k T y hk
         exact ⟨v, hv.mono (fun b hb => q5.room.dat i1 b hb) q5.grow q6⟩
      obtain ⟨e, a', w', ⟨rfl, df', x1, hgo, hI1⟩, harr⟩ := hwp b _ cs
      exact GoE.steps harr (ih hgo hf hI1 b cs hbn)
    ·rename_i ks hk
     split at h
     ·split at h
      ·cases h
      ·rename_i z hz
       have hni : inl = false := by
        cases inl with
        | false => rfl
        | true => simp at hk
       obtain ⟨F1, σ1, c1, c2, c3, c4, c5⟩ := canon_ok hl (re' := z.1) (x' := z.2) i1 i2 i6 i5.led hz
       exact reg ⟨F1, σ1, c1, c2, by rw [i3.nil]; exact trivial, i4.trans c3, i5.trans c4, c5, fun hi => by rw [hni] at hi; cases hi⟩ h
     ·cases h
   ·exact GoE.steps (.one step_seq) (ih h hf hI' b cs hbn)
   ·rename_i c ca cb
    have hc := ev_ok i2 c
    split at h <;> try (cases h; done)
    rename_i t et
    rw [et] at hc
    have hc := hc.b_inv
    split at h
    ·rename_i ht
     subst ht
     exact GoE.steps (.one (step_cond hc)) (ih h hf hI' b cs hbn)
    ·rename_i ht
     obtain rfl : t = false := by simpa using ht
     exact GoE.steps (.one (step_cond hc)) (ih h hf hI' b cs hbn)
   ·exact GoE.steps (.one step_block) (ih h hf hI' b cs hbn)
   ·exact GoE.steps (.one step_loop) (ih h hf hI' b cs hbn)
   ·split at h
    ·rename_i r hr
     exact GoE.steps (.one (step_exit (exit_ok hr))) (ih h hf hI' b cs hbn)
    ·cases h
   ·exact fin h (.one step_ret)
   ·cases h
theorem call_ok (hl : layB C = true) (hnm : namesB C = true) (hm : C.P.follows .mixedOrders = true) (hps : PrimSOk C) (hx : ExtOk C) (hid : IdleOk C) (hprim : ∀ n pf, C.prim n = some pf → CalleeAt C n pf) (k : Nat) (n : FuncId) : CalleeAt C n (call C k n) :=
 callee_ok hl (fun {inl n f re re' df its x x'} h hf => go_ok hl hnm hm hps hx hid hprim k h hf) (go_nat k)
end
end Go.Proofs.YteklakapimggeaaGreatDoor.Den
