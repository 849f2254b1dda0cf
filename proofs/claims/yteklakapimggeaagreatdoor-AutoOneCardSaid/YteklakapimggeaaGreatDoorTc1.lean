/- Proved here: a part of the proof, told one step at a time: ThAutoA, ThAutoB, ThAutoC, ThAutoD, ThAutoE, ThAutoF, ThAutoH, ThAutoG, ThOne. No condition but those each theorem names. -/
import Derived.Test.YteklakapimggeaaGreatDoorTb1
namespace Go.Proofs.YteklakapimggeaaGreatDoor.Den
open Go Go.Proofs
set_option linter.unusedVariables false
set_option linter.unusedSimpArgs false
def valD (l : List UInt8) : Nat := l.foldl (fun a c => a * 10 + (c.toNat - 48)) 0
theorem dd_lt {u : Nat} (h : u < 10) : Lib.decDigits u = [UInt8.ofNat (48 + u)] := Lib.decDigits_one h
theorem dd_ge {u : Nat} (h : ¬ u < 10) : Lib.decDigits u = Lib.decDigits (u / 10) ++ [UInt8.ofNat (48 + u % 10)] := by
 rw [Lib.decDigits, dif_neg h]
theorem dgt {d : Nat} (h : d < 10) : (UInt8.ofNat (48 + d)).toNat = 48 + d := by
 rw [UInt8.toNat_ofNat']
 exact Nat.mod_eq_of_lt (by omega)
theorem valD_dd (u : Nat) : valD (Lib.decDigits u) = u := by
 induction u using Nat.strongRecOn with
 | ind u ih =>
  by_cases h : u < 10
  ·rw [dd_lt h]
   show 0 * 10 + ((UInt8.ofNat (48 + u)).toNat - 48) = u
   rw [dgt h]
   omega
  ·have := ih (u / 10) (by omega)
   rw [dd_ge h]
   unfold valD at this ⊢
   rw [List.foldl_append, this]
   show u / 10 * 10 + ((UInt8.ofNat (48 + u % 10)).toNat - 48) = u
   rw [dgt (by omega)]
   omega
theorem dd_mem (u : Nat) : ∀ c ∈ Lib.decDigits u, 48 ≤ c.toNat ∧ c.toNat ≤ 57 := by
 induction u using Nat.strongRecOn with
 | ind u ih =>
  intro c hc
  by_cases h : u < 10
  ·rw [dd_lt h, List.mem_singleton] at hc
   rw [hc, dgt h]
   omega
  ·rw [dd_ge h, List.mem_append] at hc
   rcases hc with hc | hc
   ·exact ih _ (by omega) c hc
   ·rw [List.mem_singleton] at hc
    rw [hc, dgt (by omega)]
    omega
theorem itoa_mem (n : Int) : ∀ c ∈ Lib.itoa n, (48 ≤ c.toNat ∧ c.toNat ≤ 57) ∨ c.toNat = 45 := by
 intro c hc
 unfold Lib.itoa at hc
 split at hc
 ·rcases List.mem_cons.mp hc with rfl | h
  ·exact .inr rfl
  ·exact .inl (dd_mem _ c h)
 ·exact .inl (dd_mem _ c hc)
theorem itoa_inj {n m : Int} (h : Lib.itoa n = Lib.itoa m) : n = m := by
 have key : ∀ u : Nat, ∀ l : List UInt8, Lib.decDigits u ≠ 45 :: l := fun u l hh => by
  have := dd_mem u 45 (by rw [hh]; simp)
  exact absurd this.1 (by decide)
 unfold Lib.itoa at h
 by_cases h1 : n < 0 <;> by_cases h2 : m < 0
 ·rw [if_pos h1, if_pos h2, List.cons.injEq] at h
  have := congrArg valD h.2
  rw [valD_dd, valD_dd] at this
  omega
 ·rw [if_pos h1, if_neg h2] at h
  exact absurd h.symm (key _ _)
 ·rw [if_neg h1, if_pos h2] at h
  exact absurd h (key _ _)
 ·rw [if_neg h1, if_neg h2] at h
  have := congrArg valD h
  rw [valD_dd, valD_dd] at this
  omega
theorem sep_inj {α : Type} (s : α) : ∀ {a b r t : List α}, a ++ s :: r = b ++ s :: t → s ∉ a → s ∉ b → a = b ∧ r = t
 | [], [], r, t, h, _, _ => ⟨rfl, by simpa using h⟩
 | [], y :: b, r, t, h, _, hb => by
  simp only [List.nil_append, List.cons_append, List.cons.injEq] at h
  exact absurd (by simp [h.1]) hb
 | x :: a, [], r, t, h, ha, _ => by
  simp only [List.nil_append, List.cons_append, List.cons.injEq] at h
  exact absurd (by simp [h.1]) ha
 | x :: a, y :: b, r, t, h, ha, hb => by
  simp only [List.cons_append, List.cons.injEq] at h
  obtain ⟨h1, h2⟩ := sep_inj s h.2 (fun q => ha (by simp [q])) (fun q => hb (by simp [q]))
  exact ⟨by rw [h.1, h1], h2⟩
theorem itoa_not (n : Int) (c : UInt8) (h : ¬ ((48 ≤ c.toNat ∧ c.toNat ≤ 57) ∨ c.toNat = 45)) : c ∉ Lib.itoa n := fun hc => h (itoa_mem n c hc)
def keyL : List Itm → List UInt8
 | [] => []
 | x :: K => Lib.itoa x.1 ++ 46 :: (Lib.itoa x.2 ++ 32 :: keyL K)
def keyB (K : List Itm) : ByteArray := ⟨(keyL K).toArray⟩
theorem keyL_inj : ∀ {K L : List Itm}, keyL K = keyL L → K = L
 | [], [], _ => rfl
 | [], y :: L, h => by simp [keyL] at h
 | x :: K, [], h => by simp [keyL] at h
 | x :: K, y :: L, h => by
  unfold keyL at h
  obtain ⟨h1, h2⟩ := sep_inj 46 h (itoa_not _ _ (by decide)) (itoa_not _ _ (by decide))
  obtain ⟨h3, h4⟩ := sep_inj 32 h2 (itoa_not _ _ (by decide)) (itoa_not _ _ (by decide))
  rw [keyL_inj h4, Prod.ext (itoa_inj h1) (itoa_inj h3)]
theorem keyB_inj {K L : List Itm} (h : keyB K = keyB L) : K = L := by
 unfold keyB at h
 simp only [ByteArray.mk.injEq] at h
 exact keyL_inj (by simpa using congrArg Array.toList h)
theorem itoa_len {n : Int} (h : -9223372036854775808 ≤ n) (h2 : n ≤ 9223372036854775807) : (Lib.itoa n).length ≤ 20 := by
 have key : ∀ u : Nat, u ≤ 9223372036854775808 → (Lib.decDigits u).length ≤ 19 := fun u hu => by
  rw [Lib.decDigits_length]
  by_cases h : u = 0
  ·subst h
   rw [Lib.nDigits_small (by omega)]
   omega
  ·have : ∀ k v : Nat, v < 10 ^ k → 1 ≤ k → Lib.nDigits v ≤ k := fun k => by
    induction k with
    | zero => intro v _ h; omega
    | succ k ih =>
     intro v hv _
     by_cases hs : v < 10
     ·rw [Lib.nDigits_small hs]; omega
     ·rw [Lib.nDigits_big hs]
      have hk : 1 ≤ k := by
       rcases Nat.eq_zero_or_pos k with rfl | h
       ·simp at hv; omega
       ·exact h
      have := ih (v / 10) (by rw [Nat.pow_succ] at hv; omega) hk
      omega
   exact this 19 u (by omega) (by omega)
 unfold Lib.itoa
 split
 ·rw [List.length_cons]
  have := key n.natAbs (by omega)
  omega
 ·have := key n.toNat (by omega)
  omega
theorem itoa1 {n : Int} (h : -9223372036854775808 ≤ n) (h2 : n ≤ 9223372036854775807) : D strconv_Itoa [.i .i64 n] = some [.s ⟨(Lib.itoa n).toArray⟩] := by
 rw [D_prim (pf := itoaD) (by rfl)]
 show (if IntKind.i64 = .i64 ∧ -9223372036854775808 ≤ n ∧ n ≤ 9223372036854775807 then some [AV.s ⟨(Lib.itoa n).toArray⟩] else none) = _
 rw [if_pos ⟨rfl, h, h2⟩]
def u8s (l : List UInt8) : List AV := l.map fun c => AV.i .u8 (c.toNat : Int)
theorem isB_u8s (l : List UInt8) : (u8s l).all isByte = true := by
 rw [List.all_eq_true]
 intro a ha
 unfold u8s at ha
 rw [List.mem_map] at ha
 obtain ⟨c, _, rfl⟩ := ha
 have := c.toNat_lt
 simp [isByte]
 omega
theorem bytesOf_u8s (l : List UInt8) : bytesOf (u8s l) = ⟨l.toArray⟩ := by
 unfold bytesOf u8s
 rw [List.map_map]
 have e : ((AV.int ∘ fun (c : UInt8) => AV.i .u8 (c.toNat : Int)) : UInt8 → Int) = fun c => (c.toNat : Int) := rfl
 rw [e]
 have : ∀ (l : List UInt8) (r : ByteArray), (l.map fun (c : UInt8) => (c.toNat : Int)).foldl (fun r n => r.push (UInt8.ofNat n.toNat)) r = ⟨r.data ++ l.toArray⟩ := by
  intro l
  induction l with
  | nil => intro r; simp
  | cons c l ih =>
   intro r
   rw [List.map_cons, List.foldl_cons, ih]
   have : UInt8.ofNat (Int.toNat (c.toNat : Int)) = c := by simp
   rw [this]
   simp [ByteArray.push]
 rw [this]
 simp [ByteArray.empty, ByteArray.emptyWithCapacity]
 rfl
def mkB (l : List UInt8) : ByteArray := ⟨l.toArray⟩
theorem mkB_app (a b : List UInt8) : mkB a ++ mkB b = mkB (a ++ b) := by
 unfold mkB
 apply ByteArray.ext
 rw [ByteArray.data_append]
 simp
theorem mkB_size (a : List UInt8) : (mkB a).size = a.length := by simp [mkB, ByteArray.size]
theorem mkB_list (a : List UInt8) : (mkB a).data.toList = a := by simp [mkB]
def Rng (K : List Itm) : Prop := ∀ x ∈ K, (-9223372036854775808 ≤ x.1 ∧ x.1 ≤ 9223372036854775807) ∧ (-9223372036854775808 ≤ x.2 ∧ x.2 ≤ 9223372036854775807)
theorem keyL_len {K : List Itm} (h : Rng K) : (keyL K).length ≤ 42 * K.length := by
 induction K with
 | nil => simp [keyL]
 | cons x K ih =>
  have h1 := h x (by simp)
  have := ih fun y hy => h y (by simp [hy])
  have := itoa_len h1.1.1 h1.1.2
  have := itoa_len h1.2.1 h1.2.2
  simp only [keyL, List.length_append, List.length_cons]
  omega
theorem key_x1 (K : List Itm) (hR : Rng K) (hb : K.length ≤ 10000) : ∀ j, j ≤ K.length → ∀ buf : List UInt8, buf.length ≤ 42 * j → L_auto_key_r3_x1 (u8s buf) (K.map itemAV) (K.length : Int) (j : Int) = some [.s (mkB (buf ++ keyL (K.drop j)))] := by
 refine upTo _ ?_ fun j hj ih => ?_
 ·intro buf hbuf
  apply d_auto_key_r3_x1
  have h1 : (u8s buf).length ≤ 16777216 := by simp [u8s]; omega
  simp [t_auto_key_r3_x1, h1, isB_u8s, bytesOf_u8s, keyL, mkB]
 ·intro buf hbuf
  have hd : K.drop j = K[j] :: K.drop (j + 1) := List.drop_eq_getElem_cons hj
  have hx := hR _ (List.getElem_mem hj)
  have l1 := itoa_len hx.1.1 hx.1.2
  have l2 := itoa_len hx.2.1 hx.2.2
  have i1 : D strconv_Itoa [.i .i64 K[j].1] = some [.s (mkB (Lib.itoa K[j].1))] := itoa1 hx.1.1 hx.1.2
  have i2 : D strconv_Itoa [.i .i64 K[j].2] = some [.s (mkB (Lib.itoa K[j].2))] := itoa1 hx.2.1 hx.2.2
  have h2 := ih (buf ++ (Lib.itoa K[j].1 ++ [46] ++ Lib.itoa K[j].2 ++ [32])) (by simp only [List.length_append, List.length_cons, List.length_nil]; omega)
  have e : buf ++ (Lib.itoa K[j].1 ++ [46] ++ Lib.itoa K[j].2 ++ [32]) ++ keyL (K.drop (j + 1)) = buf ++ keyL (K.drop j) := by
   rw [hd, keyL]
   simp
  rw [e] at h2
  have e2 : u8s (buf ++ (Lib.itoa K[j].1 ++ [46] ++ Lib.itoa K[j].2 ++ [32])) = u8s buf ++ (Lib.itoa K[j].1 ++ [46] ++ Lib.itoa K[j].2 ++ [32]).map fun (c : UInt8) => AV.i .u8 (c.toNat : Int) := by simp [u8s]
  rw [e2] at h2
  have e3 : (⟨#[46]⟩ : ByteArray) = mkB [46] := rfl
  have e4 : (⟨#[32]⟩ : ByteArray) = mkB [32] := rfl
  have lu : (u8s buf).length = buf.length := by simp [u8s]
  apply d_auto_key_r3_x1
  simp only [t_auto_key_r3_x1, wsucc (j := j) (by omega), List.getD_eq_getElem?_getD, List.getElem?_map, Int.toNat_natCast, o_1, o_2, List.getElem?_eq_getElem hj, Option.getD_some, i1, i2, Option.bind_some, List.headD_cons, str_s, e3, e4, mkB_app, mkB_size, mkB_list, h2, List.length_map, lu, List.length_append, List.length_cons, List.length_nil]
  simp [hj]
  omega
theorem key1 (K : List Itm) (hR : Rng K) (hb : K.length ≤ 10000) : D auto_key [its K] = some [.s (keyB K)] := by
 apply d_auto_key
 have h0 : L_auto_key_r3 [] (K.map itemAV) (K.length : Int) 0 = some [.s (keyB K)] := by
  apply d_auto_key_r3
  match K, hR, hb with
  | [], _, _ => simp [t_auto_key_r3, keyB, keyL, bytesOf]; rfl
  | x :: K, hR, hb =>
   have hx := hR x (by simp)
   have l1 := itoa_len hx.1.1 hx.1.2
   have l2 := itoa_len hx.2.1 hx.2.2
   have i1 : D strconv_Itoa [.i .i64 x.1] = some [.s (mkB (Lib.itoa x.1))] := itoa1 hx.1.1 hx.1.2
   have i2 : D strconv_Itoa [.i .i64 x.2] = some [.s (mkB (Lib.itoa x.2))] := itoa1 hx.2.1 hx.2.2
   have h2 := key_x1 (x :: K) hR hb 1 (by simp) (Lib.itoa x.1 ++ [46] ++ Lib.itoa x.2 ++ [32]) (by simp only [List.length_append, List.length_cons, List.length_nil]; omega)
   have e : Lib.itoa x.1 ++ [46] ++ Lib.itoa x.2 ++ [32] ++ keyL ((x :: K).drop 1) = keyL (x :: K) := by
    rw [keyL]
    simp
   rw [e] at h2
   have e3 : (⟨#[46]⟩ : ByteArray) = mkB [46] := rfl
   have e4 : (⟨#[32]⟩ : ByteArray) = mkB [32] := rfl
   have w : IntKind.wrap .i64 ((0 : Int) + 1) = ((1 : Nat) : Int) := by decide
   unfold u8s at h2
   rw [List.map_cons] at h2
   simp only [itemAV] at h2
   simp only [t_auto_key_r3, List.map_cons, itemAV, List.getD_eq_getElem?_getD, List.getElem?_cons_zero, Int.toNat_zero, Option.getD_some, fld_g, List.getElem?_cons_succ, int_i, i1, i2, Option.bind_some, List.headD_cons, str_s, e3, e4, mkB_app, mkB_size, mkB_list, w, List.length_map, List.length_append, List.length_cons, List.length_nil, List.nil_append, List.length_cons, h2]
   simp [keyB, mkB]
   refine ⟨by omega, by omega, by omega, by omega, ?_⟩
   simpa [mkB] using h2
 simpa [t_auto_key] using h0
theorem ofI {g : Gr} (hS : Snd g) {x : Itm} (h : IsI g x) : (-9223372036854775808 ≤ x.1 ∧ x.1 ≤ 9223372036854775807) ∧ (-9223372036854775808 ≤ x.2 ∧ x.2 ≤ 9223372036854775807) := by
 have := hS.prods
 have := side_dot hS h
 obtain ⟨h1, h2, h3, h4⟩ := h
 omega
theorem wants3 (g : Gr) (hu : us g = true) (l : List Itm) (hl : ∀ x ∈ l, IsI g x) (hb : l.length ≤ 10000) (n : Nat) (hn : n = alls g + 1) : ∀ j, j ≤ l.length → ∀ bs : List Bool, bs.length = n → ∃ cs : List Bool, cs.length = n ∧ (∀ s : Nat, 0 < s → s < n → (cs.getD s false = true ↔ (bs.getD s false = true ∨ ∃ x ∈ l.drop j, nxt g x = (s : Int)))) ∧
  L_auto_wants_r3 (g.rules.map Rul.av) (g.nonts.map AV.s) (g.levels.map itemAV) (g.prods.map Prd.av) g.start (bs.map AV.b) (l.map itemAV) (l.length : Int) (j : Int) = some [.l T_bool (cs.map AV.b)] := by
 have hS := us_snd hu
 have hne : g.nonts.length ≠ 0 := by
  unfold us at hu
  simp only [Bool.and_eq_true, decide_eq_true_eq] at hu
  omega
 refine upTo _ ?_ fun j hj ih => ?_
 ·intro bs hbs
  refine ⟨bs, hbs, fun s _ _ => by simp, ?_⟩
  apply d_auto_wants_r3
  simp [t_auto_wants_r3]
 ·intro bs hbs
  have hd : l.drop j = l[j] :: l.drop (j + 1) := List.drop_eq_getElem_cons hj
  have hx := hl _ (List.getElem_mem hj)
  have hn1 := Next1 g l[j] hu hx
  simp only [itemAV] at hn1
  by_cases q : nxt g l[j] = 0
  ·obtain ⟨cs, c1, c2, c3⟩ := ih bs hbs
   refine ⟨cs, c1, fun s h1 h2 => ?_, ?_⟩
   ·rw [c2 s h1 h2, hd]
    simp only [List.mem_cons, exists_eq_or_imp, q]
    constructor
    ·rintro (h | h)
     ·exact .inl h
     ·exact .inr (.inr h)
    ·rintro (h | h | h)
     ·exact .inl h
     ·omega
     ·exact .inr h
   ·apply d_auto_wants_r3
    simp only [t_auto_wants_r3, wsucc (j := j) (by omega), c3]
    simp [hj, hn1, q]
  ·have hp := nxt_pos hS hne hx q
   obtain ⟨v, hv⟩ : ∃ v : Nat, nxt g l[j] = (v : Int) := ⟨(nxt g l[j]).toNat, by omega⟩
   rw [hv] at hp hn1
   obtain ⟨cs, c1, c2, c3⟩ := ih (bs.set v true) (by rw [List.length_set]; exact hbs)
   refine ⟨cs, c1, fun s h1 h2 => ?_, ?_⟩
   ·rw [c2 s h1 h2, hd]
    simp only [List.mem_cons, exists_eq_or_imp, hv]
    by_cases e : v = s
    ·subst e
     simp only [true_or, or_true, iff_true]
     refine .inl ?_
     rw [List.getD_eq_getElem?_getD, List.getElem?_set_self (by omega)]
     rfl
    ·have e' : ¬ (v : Int) = (s : Int) := by omega
     rw [List.getD_eq_getElem?_getD, List.getElem?_set_ne e, ← List.getD_eq_getElem?_getD]
     simp only [e', false_or]
   ·apply d_auto_wants_r3
    rw [List.map_set] at c3
    have h0 : (0 : Int) < (v : Int) := by omega
    have h0' : 0 < v := by omega
    have h1 : v < n := by omega
    simp only [t_auto_wants_r3, wsucc (j := j) (by omega), List.getD_eq_getElem?_getD, List.getElem?_map, o_1, o_2, List.getElem?_eq_getElem hj, Option.getD_some, hn1, Option.bind_some, List.headD_cons, int_i, Int.toNat_natCast, c3]
    simp [hj, h0', h1, hbs]
theorem wants1 (g : Gr) (hu : us g = true) (l : List Itm) (hl : ∀ x ∈ l, IsI g x) (hb : l.length ≤ 10000) : ∃ cs : List Bool, cs.length = alls g + 1 ∧ (∀ s : Nat, 0 < s → s < alls g + 1 → (cs.getD s false = true ↔ ∃ x ∈ l, nxt g x = (s : Int))) ∧
  D auto_wants [g.av, its l, .i .i64 ((alls g + 1 : Nat) : Int)] = some [.l T_bool (cs.map AV.b)] := by
 have hS := us_snd hu
 have hsz : alls g ≤ 32 := by
  have := terms_le g
  have := hS.rules
  have := hS.nonts
  unfold alls
  omega
 obtain ⟨cs, c1, c2, c3⟩ := wants3 g hu l hl hb (alls g + 1) rfl 0 (by omega) (List.replicate (alls g + 1) false) (by simp)
 refine ⟨cs, c1, fun s h1 h2 => ?_, ?_⟩
 ·rw [c2 s h1 h2]
  simp [List.getElem?_replicate, h2]
 ·apply d_auto_wants
  rw [List.map_replicate] at c3
  simp only [t_auto_wants, Int.toNat_natCast, List.length_map]
  rw [show ((0 : Nat) : Int) = 0 from rfl] at c3
  rw [c3]
  simp
  omega
structure St where
 ker : List Itm
 nx : List Int
instance : Inhabited St := ⟨⟨[], []⟩⟩
def St.av (s : St) : AV := .g [its s.ker, nums s.nx]
abbrev sts (l : List St) : AV := .l T_api_State (l.map St.av)
@[simp] theorem av_k (s : St) : s.av.fld 0 = its s.ker := rfl
@[simp] theorem av_x (s : St) : s.av.fld 1 = nums s.nx := rfl
@[simp] theorem o_k (o : Option St) : AV.list (AV.fld ((Option.map St.av o).getD .u) 0) = (o.getD default).ker.map itemAV := by cases o <;> rfl
@[simp] theorem o_x (o : Option St) : AV.list (AV.fld ((Option.map St.av o).getD .u) 1) = (o.getD default).nx.map (AV.i .i64) := by cases o <;> rfl
theorem same2_loop (a b : List Itm) (hl : a.length = b.length) (hb : a.length ≤ 16777216) : ∀ j, j ≤ a.length → L_ref16_Same_r4 (a.map itemAV) (b.map itemAV) (j : Int) = some [.b (decide (a.drop j = b.drop j))] := by
 refine upTo _ ?_ fun j hj ih => ?_
 ·apply d_ref16_Same_r4
  simp [t_ref16_Same_r4]
  omega
 ·have hd : a.drop j = a[j] :: a.drop (j + 1) := List.drop_eq_getElem_cons hj
  have hj2 : j < b.length := by omega
  have hd2 : b.drop j = b[j] :: b.drop (j + 1) := List.drop_eq_getElem_cons hj2
  rw [hd, hd2]
  apply d_ref16_Same_r4
  simp only [t_ref16_Same_r4, wsucc (j := j) (by omega), ih]
  by_cases q : a[j] = b[j]
  ·simp [hj, hj2, q, -List.getElem_cons_drop]
  ·have q' : ¬ (a[j].1 = b[j].1 ∧ a[j].2 = b[j].2) := fun h => q (Prod.ext h.1 h.2)
   simp [hj, hj2, q, -List.getElem_cons_drop]
   intro h1 h2
   exact absurd ⟨h1, h2⟩ q'
theorem same2 (a b : List Itm) (hb : a.length ≤ 16777216) : D ref16_Same [its a, its b] = some [.b (decide (a = b))] := by
 apply d_ref16_Same
 by_cases hl : a.length = b.length
 ·have := same2_loop a b hl hb 0 (by omega)
  rw [List.drop_zero, List.drop_zero, show ((0 : Nat) : Int) = 0 from rfl] at this
  simp [t_ref16_Same, hl, this]
 ·have : ¬ a = b := fun h => hl (by rw [h])
  have h2 : ¬ (a.length : Int) = (b.length : Int) := by omega
  simp [t_ref16_Same, hl, this]
  exact fun h => absurd h h2
def ordN : List Int → List Int → Int
 | [], [] => 0
 | [], _ :: _ => -1
 | _ :: _, [] => 1
 | x :: a, y :: b => if x < y then -1 else if y < x then 1 else ordN a b
theorem ordN_zero : ∀ a b : List Int, ordN a b = 0 ↔ a = b
 | [], [] => by simp [ordN]
 | [], _ :: _ => by simp [ordN]
 | _ :: _, [] => by simp [ordN]
 | x :: a, y :: b => by
  unfold ordN
  by_cases h1 : x < y
  ·rw [if_pos h1]
   simp
   intro h
   omega
  by_cases h2 : y < x
  ·rw [if_neg h1, if_pos h2]
   simp
   intro h
   omega
  ·rw [if_neg h1, if_neg h2, ordN_zero a b]
   have : x = y := by omega
   simp [this]
theorem order2_loop (a b : List Int) (hb : a.length ≤ 16777216) : ∀ j, j ≤ a.length → L_ref04_Order_r2 (a.map (AV.i .i64)) (b.map (AV.i .i64)) (j : Int) = some [.i .i64 (if j ≤ b.length then ordN (a.drop j) (b.drop j) else 1)] := by
 refine upTo _ ?_ fun j hj ih => ?_
 ·apply d_ref04_Order_r2
  rw [List.drop_length]
  by_cases h1 : a.length = b.length
  ·rw [if_pos (by omega), h1, List.drop_length]
   simp [t_ref04_Order_r2, h1, ordN]
  ·by_cases h2 : a.length < b.length
   ·rw [if_pos (by omega), List.drop_eq_getElem_cons h2]
    simp [t_ref04_Order_r2, h2, ordN]
   ·rw [if_neg (by omega)]
    have h3 : b.length < a.length := by omega
    simp [t_ref04_Order_r2, h2, h3]
 ·have hd : a.drop j = a[j] :: a.drop (j + 1) := List.drop_eq_getElem_cons hj
  apply d_ref04_Order_r2
  simp only [t_ref04_Order_r2, wsucc (j := j) (by omega), ih]
  by_cases h1 : j < b.length
  ·have hd2 : b.drop j = b[j] :: b.drop (j + 1) := List.drop_eq_getElem_cons h1
   rw [if_pos (show j ≤ b.length by omega), if_pos (show j + 1 ≤ b.length by omega), hd, hd2, ordN]
   simp [hj, h1, -List.getElem_cons_drop]
   repeat' split
   all_goals first
    | rfl
    | omega
  ·by_cases h2 : j = b.length
   ·rw [if_pos (show j ≤ b.length by omega), h2, List.drop_length]
    have h3 : b.length < a.length := by omega
    have h4 : ¬ a.length < b.length := by omega
    rw [← h2, hd]
    simp [hj, h1, ordN, h2, h3, h4, -List.getElem_cons_drop]
   ·rw [if_neg (show ¬ j ≤ b.length by omega)]
    have h3 : b.length < a.length := by omega
    have h4 : ¬ a.length < b.length := by omega
    simp [hj, h1, h3, h4]
theorem order2 (a b : List Int) (hb : a.length ≤ 16777216) : D ref04_Order [nums a, nums b] = some [.i .i64 (ordN a b)] := by
 apply d_ref04_Order
 have := order2_loop a b hb 0 (by omega)
 rw [List.drop_zero, List.drop_zero, if_pos (by omega), show ((0 : Nat) : Int) = 0 from rfl] at this
 simp only [t_ref04_Order, this]
theorem same04 (a b : List Int) (hb : a.length ≤ 16777216) : D ref04_Same [nums a, nums b] = some [.b (decide (a = b))] := by
 apply d_ref04_Same
 have h := order2 a b hb
 have e : (ordN a b == 0) = decide (a = b) := by rw [beqI, decide_eq_decide.mpr (ordN_zero a b)]
 simp only [t_ref04_Same, h, Option.bind_some, List.headD_cons, int_i, e]
def sameS (a b : List St) : Prop := a.map (·.ker) = b.map (·.ker) ∧ a.map (·.nx) = b.map (·.nx)
theorem St.ext' {a b : St} (h : a.ker = b.ker) (h2 : a.nx = b.nx) : a = b := by cases a; cases b; simp at h h2; simp [h, h2]
theorem same17_loop (a b : List St) (hl : a.length = b.length) (hb : a.length ≤ 16777216) (hz : ∀ s ∈ a, s.ker.length ≤ 16777216 ∧ s.nx.length ≤ 16777216) : ∀ j, j ≤ a.length → ∃ r, L_ref17_Same_r4 (a.map St.av) (b.map St.av) (j : Int) = some [.b r] ∧ (r = true ↔ a.drop j = b.drop j) := by
 refine upTo _ ⟨true, ?_, by simp; omega⟩ fun j hj ⟨r, h1, h2⟩ => ?_
 ·apply d_ref17_Same_r4
  simp [t_ref17_Same_r4]
 ·have hd : a.drop j = a[j] :: a.drop (j + 1) := List.drop_eq_getElem_cons hj
  have hj2 : j < b.length := by omega
  have hd2 : b.drop j = b[j] :: b.drop (j + 1) := List.drop_eq_getElem_cons hj2
  have hz1 := hz _ (List.getElem_mem hj)
  have s1 := same2 a[j].ker b[j].ker hz1.1
  have s2 := same04 a[j].nx b[j].nx hz1.2
  refine ⟨decide (a[j].ker = b[j].ker) && (decide (a[j].nx = b[j].nx) && r), ?_, ?_⟩
  ·apply d_ref17_Same_r4
   simp only [t_ref17_Same_r4, wsucc (j := j) (by omega), h1]
   by_cases q : a[j].ker = b[j].ker
   ·rw [q] at s1
    by_cases q2 : a[j].nx = b[j].nx
    ·rw [q2] at s2
     simp [hj, hj2, s1, s2, q, q2]
    ·simp [hj, hj2, s1, s2, q, q2]
   ·simp [hj, hj2, s1, q]
  ·rw [hd, hd2, List.cons.injEq, ← h2]
   simp only [Bool.and_eq_true, decide_eq_true_eq]
   constructor
   ·rintro ⟨q1, q2, q3⟩
    exact ⟨St.ext' q1 q2, q3⟩
   ·rintro ⟨q1, q3⟩
    exact ⟨by rw [q1], by rw [q1], q3⟩
theorem same17 (a b : List St) (hb : a.length ≤ 16777216) (hz : ∀ s ∈ a, s.ker.length ≤ 16777216 ∧ s.nx.length ≤ 16777216) : ∃ r, D ref17_Same [sts a, sts b] = some [.b r] ∧ (r = true ↔ a = b) := by
 by_cases hl : a.length = b.length
 ·obtain ⟨r, h1, h2⟩ := same17_loop a b hl hb hz 0 (by omega)
  rw [List.drop_zero, List.drop_zero] at h2
  rw [show ((0 : Nat) : Int) = 0 from rfl] at h1
  refine ⟨r, ?_, h2⟩
  apply d_ref17_Same
  simp [t_ref17_Same, hl, h1]
 ·refine ⟨false, ?_, by simp; exact fun h => hl (by rw [h])⟩
  apply d_ref17_Same
  have : ¬ (a.length : Int) = (b.length : Int) := by omega
  simp [t_ref17_Same, hl]
  exact fun h => absurd h this
def fndK (k : List Itm) : List (List Itm) → Nat → Option Nat
 | [], _ => none
 | K :: l, j => if K = k then some j else fndK k l (j + 1)
def idx : Option Nat → Int
 | some j => (j : Int)
 | none => -1
theorem fndK_lt (k : List Itm) : ∀ (l : List (List Itm)) (j i : Nat), fndK k l j = some i → j ≤ i ∧ i < j + l.length
 | [], j, i, h => by simp [fndK] at h
 | K :: l, j, i, h => by
  rw [fndK] at h
  split at h
  ·obtain rfl := Option.some.inj h
   simp
  ·have := fndK_lt k l (j + 1) i h
   simp only [List.length_cons]
   omega
theorem find17 (out : List St) (k : List Itm) (hb : out.length ≤ 10000) (hk : ∀ s ∈ out, s.ker.length ≤ 10000) : D ref17_find [sts out, its k] = some [.i .i64 (idx (fndK k (out.map (·.ker)) 0))] := by
 have loop : ∀ j, j ≤ out.length → L_ref17_find_r2 (out.map St.av) (k.map itemAV) (j : Int) = some [.i .i64 (idx (fndK k ((out.drop j).map (·.ker)) j))] := by
  refine upTo _ ?_ fun j hj ih => ?_
  ·apply d_ref17_find_r2
   simp [t_ref17_find_r2, fndK, idx]
  ·have hd : out.drop j = out[j] :: out.drop (j + 1) := List.drop_eq_getElem_cons hj
   have s1 := same2 out[j].ker k (Nat.le_trans (hk _ (List.getElem_mem hj)) (by omega))
   rw [hd, List.map_cons, fndK]
   apply d_ref17_find_r2
   simp only [t_ref17_find_r2, wsucc (j := j) (by omega), ih]
   by_cases q : out[j].ker = k
   ·rw [q] at s1
    simp [hj, s1, q, idx]
   ·simp [hj, s1, q]
 have := loop 0 (by omega)
 rw [List.drop_zero, show ((0 : Nat) : Int) = 0 from rfl] at this
 apply d_ref17_find
 simp only [t_ref17_find, this]
def keyM : List (List Itm) → Nat → List (AV × AV)
 | [], _ => []
 | K :: l, j => (.s (keyB K), .i .i64 (j : Int)) :: keyM l (j + 1)
theorem eqK_s (a b : ByteArray) : eqK (.s a) (.s b) = decide (a = b) := by
 rw [← eqb_iff]
 show (a.toList == b.toList) = _
 rfl
theorem keyB_dec (K L : List Itm) : decide (keyB K = keyB L) = decide (L = K) := by
 by_cases h : L = K
 ·simp [h]
 ·rw [decide_eq_false h, decide_eq_false fun q => h (keyB_inj q).symm]
theorem findM_key (k : List Itm) : ∀ (l : List (List Itm)) (j : Nat), findM (.s (keyB k)) (keyM l j) = (fndK k l j).map fun i => AV.i .i64 (i : Int)
 | [], j => rfl
 | K :: l, j => by
  rw [keyM, findM, fndK, eqK_s, keyB_dec]
  by_cases h : K = k
  ·simp [h]
  ·simp [h, findM_key k l (j + 1)]
theorem hasM_key (k : List Itm) (l : List (List Itm)) (j : Nat) : hasM (.s (keyB k)) (keyM l j) = (fndK k l j).isSome := by
 unfold hasM
 rw [findM_key]
 cases fndK k l j <;> rfl
theorem getM_key {k : List Itm} {l : List (List Itm)} {j i : Nat} (h : fndK k l j = some i) : getM (.s (keyB k)) (keyM l j) = .i .i64 (i : Int) := by
 unfold getM
 rw [findM_key, h]
 rfl
theorem putM_key (k : List Itm) (v : AV) : ∀ (l : List (List Itm)) (j : Nat), fndK k l j = none → putM (.s (keyB k)) v (keyM l j) = keyM l j ++ [(.s (keyB k), v)]
 | [], j, _ => rfl
 | K :: l, j, h => by
  rw [fndK] at h
  by_cases q : K = k
  ·rw [if_pos q] at h; cases h
  ·rw [if_neg q] at h
   rw [keyM, putM, eqK_s, keyB_dec, decide_eq_false q]
   simp [putM_key k v l (j + 1) h]
theorem keyM_app (k : List Itm) : ∀ (l : List (List Itm)) (j : Nat), keyM (l ++ [k]) j = keyM l j ++ [(.s (keyB k), .i .i64 ((j + l.length : Nat) : Int))]
 | [], j => rfl
 | K :: l, j => by
  rw [List.cons_append, keyM, keyM_app k l (j + 1), keyM, List.cons_append, List.length_cons]
  rw [show j + 1 + l.length = j + (l.length + 1) by omega]
noncomputable def stp (g : Gr) (K : List Itm) (out : List St) (row : List Int) (s : Nat) : List St × List Int :=
 if gto g K s = [] then (out, row.set s (-1)) else
  match fndK (gto g K s) (out.map (·.ker)) 0 with
  | some j => (out, row.set s (j : Int))
  | none => (out ++ [⟨gto g K s, []⟩], row.set s (out.length : Int))
noncomputable def inn (g : Gr) (K : List Itm) : Nat → Nat → List St → List Int → List St × List Int
 | 0, _, out, row => (out, row)
 | m + 1, s, out, row => inn g K m (s + 1) (stp g K out row s).1 (stp g K out row s).2
def row0 (n : Nat) : List Int := (List.replicate n 0).set 0 (-1)
def putR (i : Nat) (q : List St × List Int) : List St := q.1.set i ⟨(q.1.getD i default).ker, q.2⟩
noncomputable def bld (g : Gr) (n : Nat) : Nat → Nat → List St → Option (List St)
 | 0, _, out => some out
 | m + 1, i, out => if i < out.length then
   (if 240 < (putR i (inn g (out.getD i default).ker (n - 1) 1 out (row0 n))).length then none else bld g n m (i + 1) (putR i (inn g (out.getD i default).ker (n - 1) 1 out (row0 n))))
  else some out
def resB : Option (List St) → List AV
 | some l => [sts l, .i .i64 0]
 | none => [sts [], .i .i64 3]
structure Gd (g : Gr) (out : List St) : Prop where
 is : ∀ s ∈ out, ∀ x ∈ s.ker, IsI g x
 ne : ∀ s ∈ out, s.ker ≠ []
 le : ∀ s ∈ out, s.ker.length ≤ 400
theorem Gd.add {g : Gr} (hS : Snd g) {out : List St} (h : Gd g out) {K : List Itm} {s : Int} {r : List Int} (hne : gto g K s ≠ []) : Gd g (out ++ [⟨gto g K s, r⟩]) := by
 refine ⟨fun t ht => ?_, fun t ht => ?_, fun t ht => ?_⟩ <;> rcases List.mem_append.mp ht with k | k
 ·exact h.is t k
 ·rw [List.mem_singleton] at k; subst k; exact gto_is
 ·exact h.ne t k
 ·rw [List.mem_singleton] at k; subst k; exact hne
 ·exact h.le t k
 ·rw [List.mem_singleton] at k; subst k; exact pick_len hS _
theorem stp_gd {g : Gr} (hS : Snd g) {K : List Itm} {out : List St} {row : List Int} {s : Nat} (h : Gd g out) : Gd g (stp g K out row s).1 := by
 unfold stp
 split
 ·exact h
 ·rename_i hne
  split
  ·exact h
  ·exact h.add hS hne
theorem stp_len {g : Gr} {K : List Itm} {out : List St} {row : List Int} {s : Nat} : (stp g K out row s).1.length ≤ out.length + 1 ∧ out.length ≤ (stp g K out row s).1.length ∧ (stp g K out row s).2.length = row.length := by
 unfold stp
 split
 ·simp
 ·split <;> simp
theorem stp_get {g : Gr} {K : List Itm} {out : List St} {row : List Int} {s i : Nat} (hi : i < out.length) : (stp g K out row s).1.getD i default = out.getD i default := by
 unfold stp
 split
 ·rfl
 ·split
  ·rfl
  ·simp only [List.getD_eq_getElem?_getD]
   rw [List.getElem?_append_left hi]
theorem inn_gd {g : Gr} (hS : Snd g) {K : List Itm} : ∀ m s out row, Gd g out → Gd g (inn g K m s out row).1
 | 0, s, out, row, h => h
 | m + 1, s, out, row, h => inn_gd hS m (s + 1) _ _ (stp_gd hS h)
theorem inn_len {g : Gr} {K : List Itm} : ∀ m s out row, (inn g K m s out row).1.length ≤ out.length + m ∧ out.length ≤ (inn g K m s out row).1.length ∧ (inn g K m s out row).2.length = row.length
 | 0, s, out, row => by simp [inn]
 | m + 1, s, out, row => by
  have h1 := inn_len (g := g) (K := K) m (s + 1) (stp g K out row s).1 (stp g K out row s).2
  have h2 := stp_len (g := g) (K := K) (out := out) (row := row) (s := s)
  rw [inn]
  omega
theorem inn_get {g : Gr} {K : List Itm} {i : Nat} : ∀ m s out row, i < out.length → (inn g K m s out row).1.getD i default = out.getD i default
 | 0, s, out, row, h => rfl
 | m + 1, s, out, row, h => by
  rw [inn, inn_get m (s + 1) _ _ (Nat.lt_of_lt_of_le h (stp_len (g := g) (K := K)).2.1), stp_get h]
theorem putR_len (i : Nat) (q : List St × List Int) : (putR i q).length = q.1.length := by simp [putR]
theorem putR_gd {g : Gr} {i : Nat} {q : List St × List Int} (hi : i < q.1.length) (h : Gd g q.1) : Gd g (putR i q) := by
 have key : ∀ t ∈ putR i q, ∃ s ∈ q.1, t.ker = s.ker := fun t ht => by
  unfold putR at ht
  rcases List.mem_or_eq_of_mem_set ht with k | k
  ·exact ⟨t, k, rfl⟩
  ·refine ⟨q.1.getD i default, ?_, by rw [k]⟩
   rw [List.getD_eq_getElem?_getD, List.getElem?_eq_getElem hi]
   exact List.getElem_mem hi
 refine ⟨fun t ht => ?_, fun t ht => ?_, fun t ht => ?_⟩ <;> obtain ⟨s, hs, e⟩ := key t ht <;> rw [e]
 ·exact h.is s hs
 ·exact h.ne s hs
 ·exact h.le s hs
theorem alls_le {g : Gr} (hS : Snd g) : alls g ≤ 32 := by
 have := terms_le g
 have := hS.rules
 have := hS.nonts
 unfold alls
 omega
theorem us_ne {g : Gr} (hu : us g = true) : g.nonts.length ≠ 0 := by
 unfold us at hu
 simp only [Bool.and_eq_true, decide_eq_true_eq] at hu
 omega
theorem gto_ne {g : Gr} {K : List Itm} (hK : ∀ x ∈ K, IsI g x) {s : Int} (hs : s ≠ 0) : gto g K s ≠ [] ↔ ∃ x ∈ clo g K, nxt g x = s := by
 constructor
 ·intro h
  obtain ⟨y, l, e⟩ := List.exists_cons_of_ne_nil h
  have hy : y ∈ gto g K s := by rw [e]; simp
  obtain ⟨x, hx, hn, _, _⟩ := (mem_gto hK).mp hy
  exact ⟨x, (mem_clo hK).mpr hx, hn⟩
 ·rintro ⟨x, hx, hn⟩ h
  have : (x.1, x.2 + 1) ∈ gto g K s := (mem_gto hK).mpr ⟨x, (mem_clo hK).mp hx, hn, hs, rfl⟩
  rw [h] at this
  simp at this
section
variable (g : Gr) (hu : us g = true)
include hu in
theorem prog15 (n : Nat) (hn : n = alls g + 1) (i : Nat) (K : List Itm) (hK : ∀ x ∈ K, IsI g x) (hK0 : K ≠ []) (hi : i < 1000) (bs : List Bool) (hcl : bs.length = n) (hcs : ∀ s : Nat, 0 < s → s < n → (bs.getD s false = true ↔ ∃ x ∈ clo g K, nxt g x = (s : Int))) (r : List AV) :
  ∀ s, s ≤ n → 1 ≤ s → ∀ (out : List St) (row : List Int), Gd g out → i < out.length → out.length ≤ 240 + s → row.length = n →
  (putR i (inn g K (n - s) s out row)).length > 240 ∧ r = resB none ∨ (putR i (inn g K (n - s) s out row)).length ≤ 240 ∧ L_auto_Build_r8 (g.rules.map Rul.av) (g.nonts.map AV.s) (g.levels.map itemAV) (g.prods.map Prd.av) g.start (n : Int) ((putR i (inn g K (n - s) s out row)).map St.av) ((keyM ((putR i (inn g K (n - s) s out row)).map (·.ker)) 0).map fun q => AV.g [q.1, q.2]) ((i + 1 : Nat) : Int) = some r →
  L_auto_Build_r15 (g.rules.map Rul.av) (g.nonts.map AV.s) (g.levels.map itemAV) (g.prods.map Prd.av) g.start (n : Int) (out.map St.av) ((keyM (out.map (·.ker)) 0).map fun q => AV.g [q.1, q.2]) (i : Int) (row.map (AV.i .i64)) ((clo g K).map itemAV) (bs.map AV.b) (s : Int) = some r := by
 have hS := us_snd hu
 have hal := alls_le hS
 refine upTo _ ?_ fun s hs ih => ?_
 ·intro _ out row hG hio hlen hrow hr
  rw [Nat.sub_self, inn, putR_len] at hr
  dsimp only at hr
  have e : (putR i (out, row)).map St.av = (out.map St.av).set i (.g [its (out.getD i default).ker, nums row]) := by
   unfold putR
   rw [List.map_set]
   rfl
  have e2 : (putR i (out, row)).map (·.ker) = out.map (·.ker) := by
   unfold putR
   rw [List.map_set]
   dsimp only
   rw [List.getD_eq_getElem?_getD, List.getElem?_eq_getElem hio, Option.getD_some]
   have hio' : i < (out.map (·.ker)).length := by simpa using hio
   have : (out.map (·.ker)).set i ((out.map (·.ker))[i]'hio') = out.map (·.ker) := List.set_getElem_self _
   rw [List.getElem_map] at this
   exact this
  rw [e, e2] at hr
  apply d_auto_Build_r15
  simp only [t_auto_Build_r15, unM_map]
  rcases hr with ⟨h1, h2⟩ | ⟨h1, h2⟩
  ·subst h2
   have h1' : (240 : Int) < (out.length : Int) := by omega
   simp [hio, resB, h1']
  ·rw [cs] at h2
   have h3 : ¬ 240 < out.length := by omega
   have w : IntKind.wrap .i64 ((i : Int) + 1) = ((i + 1 : Nat) : Int) := wsucc (by omega)
   simp only [w]
   rw [cs]
   simp only [List.getD_eq_getElem?_getD, List.getElem?_map, Int.toNat_natCast, o_k, List.length_set, List.length_map] at h2 ⊢
   rw [h2]
   simp [hio]
   omega
 ·intro hs1 out row hG hio hlen hrow hr
  obtain ⟨m, hm⟩ : ∃ m, n - s = m + 1 := ⟨n - s - 1, by omega⟩
  have hm2 : n - (s + 1) = m := by omega
  rw [hm, inn] at hr
  rw [hm2] at ih
  have hst := stp_len (g := g) (K := K) (out := out) (row := row) (s := s)
  have h2 := ih (by omega) (stp g K out row s).1 (stp g K out row s).2 (stp_gd hS hG) (by omega) (by omega) (by omega) hr
  have hw := hcs s (by omega) hs
  have hne := gto_ne hK (s := (s : Int)) (by omega)
  have hscs : s < bs.length := by omega
  have hsrow : s < row.length := by omega
  apply d_auto_Build_r15
  unfold stp at h2
  by_cases q : gto g K s = []
  ·rw [if_pos q] at h2
   dsimp only at h2
   rw [List.map_set] at h2
   have hf : bs.getD s false = false := by
    rw [Bool.eq_false_iff]
    intro h
    exact hne.mpr (hw.mp h) q
   rw [List.getD_eq_getElem?_getD, List.getElem?_eq_getElem hscs, Option.getD_some] at hf
   simp only [t_auto_Build_r15, unM_map, wsucc (j := s) (by omega), Int.toNat_natCast, h2]
   simp [hs, hf, hscs, hsrow]
  ·rw [if_neg q] at h2
   have ht : bs.getD s false = true := hw.mpr (hne.mp q)
   rw [List.getD_eq_getElem?_getD, List.getElem?_eq_getElem hscs, Option.getD_some] at ht
   have hg := Goto1 g hu (clo g K) clo_is (clo_ne hK hK0) (Nat.le_trans (pick_len hS _) (by omega)) (s : Int)
   rw [gto_clo hK] at hg
   have hk := key1 (gto g K s) (fun x hx => ofI hS (gto_is x hx)) (Nat.le_trans (pick_len hS _) (by omega))
   cases hf : fndK (gto g K s) (out.map (·.ker)) 0 with
   | some j =>
    rw [hf] at h2
    dsimp only at h2
    rw [List.map_set] at h2
    simp only [t_auto_Build_r15, unM_map, wsucc (j := s) (by omega), Int.toNat_natCast, hg, Option.bind_some, List.headD_cons, list_l, hk, str_s, hasM_key, hf, getM_key hf, int_i, Option.isSome_some, List.set_set, h2]
    simp [hs, ht, hscs, hsrow]
   | none =>
    rw [hf] at h2
    dsimp only at h2
    rw [List.map_set, List.map_append, List.map_cons, List.map_nil, List.map_append, List.map_cons, List.map_nil, keyM_app, List.length_map, Nat.zero_add] at h2
    simp only [St.av, nums, List.map_nil] at h2
    simp only [t_auto_Build_r15, unM_map, wsucc (j := s) (by omega), Int.toNat_natCast, hg, Option.bind_some, List.headD_cons, list_l, hk, str_s, hasM_key, hf, int_i, Option.isSome_none, List.set_set, putM_key _ _ _ _ hf, List.length_map, h2]
    have hlo : out.length ≤ 16777215 := by omega
    simp [hs, ht, hscs, hsrow, hlo]
end
theorem row0_av (n : Nat) : (row0 n).map (AV.i .i64) = (List.replicate n (AV.i .i64 0)).set 0 (AV.i .i64 (-1)) := by
 unfold row0
 rw [List.map_set, List.map_replicate]
section
variable (g : Gr) (hu : us g = true)
include hu in
theorem prog8 (n : Nat) (hn : n = alls g + 1) : ∀ (m i : Nat) (out : List St), 241 ≤ i + m → i ≤ out.length → out.length ≤ 240 → Gd g out →
  L_auto_Build_r8 (g.rules.map Rul.av) (g.nonts.map AV.s) (g.levels.map itemAV) (g.prods.map Prd.av) g.start (n : Int) (out.map St.av) ((keyM (out.map (·.ker)) 0).map fun q => AV.g [q.1, q.2]) (i : Int) = some (resB (bld g n m i out)) := by
 have hS := us_snd hu
 have hal := alls_le hS
 intro m
 induction m with
 | zero => intro i out h1 h2 h3; omega
 | succ m ih =>
  intro i out h1 h2 h3 hG
  apply d_auto_Build_r8
  by_cases hlt : i < out.length
  ·have hm := List.getElem_mem hlt
   have hK := hG.is _ hm
   have hK0 := hG.ne _ hm
   have hKl := hG.le _ hm
   have hc := Closure1 g hu out[i].ker hK hK0 (by omega)
   obtain ⟨bs, b1, b2, b3⟩ := wants1 g hu (clo g out[i].ker) clo_is (Nat.le_trans (pick_len hS _) (by omega))
   rw [← hn] at b1 b2 b3
   have hgd : out.getD i default = out[i] := by rw [List.getD_eq_getElem?_getD, List.getElem?_eq_getElem hlt]; rfl
   have hI := inn_len (g := g) (K := out[i].ker) (n - 1) 1 out (row0 n)
   have hiI : i < (inn g out[i].ker (n - 1) 1 out (row0 n)).1.length := by omega
   have h4 := prog15 g hu n hn i out[i].ker hK hK0 (by omega) bs b1 b2 (resB (bld g n (m + 1) i out)) 1 (by omega) (by omega) out (row0 n) hG hlt (by omega) (by simp [row0]) (by
    rw [bld, if_pos hlt, hgd]
    by_cases q : 240 < (putR i (inn g out[i].ker (n - 1) 1 out (row0 n))).length
    ·rw [if_pos q]
     exact .inl ⟨q, rfl⟩
    ·rw [if_neg q]
     exact .inr ⟨by omega, ih (i + 1) _ (by omega) (by rw [putR_len]; omega) (by omega) (putR_gd hiI (inn_gd hS _ _ _ _ hG))⟩)
   rw [row0_av] at h4
   simp only [t_auto_Build_r8, unM_map, List.getD_eq_getElem?_getD, List.getElem?_map, Int.toNat_natCast, o_k, List.getElem?_eq_getElem hlt, Option.getD_some, hc, Option.bind_some, List.headD_cons, list_l, b3]
   rw [show ((1 : Nat) : Int) = 1 from rfl] at h4
   rw [h4]
   simp [hlt]
   omega
  ·rw [bld, if_neg hlt]
   simp [t_auto_Build_r8, hlt, resB]
theorem first_is {g : Gr} (hu : us g = true) : IsI g (-1, 0) := by
 refine ⟨by decide, ?_, by decide, ?_⟩
 ·show (-1 : Int) < _
  omega
 ·show (0 : Int) ≤ _
  omega
noncomputable def auto (g : Gr) : Option (List St) := bld g (alls g + 1) 241 0 [⟨[(-1, 0)], []⟩]
theorem gd_first {g : Gr} (hu : us g = true) : Gd g [⟨[(-1, 0)], []⟩] := by
 refine ⟨fun s hs x hx => ?_, fun s hs => ?_, fun s hs => ?_⟩ <;> rw [List.mem_singleton] at hs <;> subst hs
 ·rw [List.mem_singleton] at hx
  subst hx
  exact first_is hu
 ·simp
 ·simp
noncomputable def built (g : Gr) : List AV := if us g = true then resB (auto g) else [sts [], .i .i64 10]
theorem build1 (g : Gr) : D auto_Build [g.av] = some (built g) := by
 unfold built
 have hr : D items_Right [g.av, .l T_api_Item [.g [.i .i64 (-1), .i .i64 0]]] = _ := right1 g [(-1, 0)] (by simp)
 apply d_auto_Build
 by_cases hu : us g = true
 ·have hS := us_snd hu
  have hal := alls_le hS
  have ht := tm1 g (by have := hS.rules; omega)
  have hk : D auto_key [.l T_api_Item [.g [.i .i64 (-1), .i .i64 0]]] = _ := key1 [(-1, 0)] (fun x hx => by rw [List.mem_singleton] at hx; subst hx; decide) (by simp)
  have w1 : IntKind.wrap .i64 ((terms g : Int) + (g.nonts.length : Int)) = ((alls g : Nat) : Int) := by
   have := terms_le g
   have := hS.rules
   have := hS.nonts
   rw [w64 (by omega) (by omega)]; simp [alls]
  have h1 := prog8 g hu (alls g + 1) rfl 241 0 [⟨[(-1, 0)], []⟩] (by omega) (by simp) (by simp) (gd_first hu)
  have hf : ([(-1, 0)] : List Itm).all (fun x => decide (IsI g x)) = true := by simp [first_is hu]
  rw [hu, hf] at hr
  rw [if_pos hu]
  unfold auto
  rw [show ((0 : Nat) : Int) = 0 from rfl] at h1
  simp only [List.map_cons, List.map_nil, St.av, itemAV, its, nums, keyM] at h1
  simp only [t_auto_Build, hr, ht, hk, Option.bind_some, List.headD_cons, bool_b, int_i, str_s, List.length_map, w1, wsucc (j := alls g) (by omega), putM, List.map_cons, List.map_nil, h1]
  simp
  exact h1
 ·rw [Bool.not_eq_true] at hu
  rw [hu, Bool.false_and] at hr
  rw [hu]
  simp [t_auto_Build, hr]
include hu in
theorem ref14 (n : Nat) (hn : n = alls g + 1) (i : Nat) (K : List Itm) (hK : ∀ x ∈ K, IsI g x) (hKl : K.length ≤ 400) (hi : i < 1000) (r : List AV) :
  ∀ s, s ≤ n → 1 ≤ s → ∀ (out : List St) (row : List Int), Gd g out → i < out.length → (out.getD i default).ker = K → out.length ≤ 240 + s → row.length = n →
  (putR i (inn g K (n - s) s out row)).length > 240 ∧ r = resB none ∨ (putR i (inn g K (n - s) s out row)).length ≤ 240 ∧ L_ref17_Build_r9 (g.rules.map Rul.av) (g.nonts.map AV.s) (g.levels.map itemAV) (g.prods.map Prd.av) g.start (n : Int) ((putR i (inn g K (n - s) s out row)).map St.av) ((i + 1 : Nat) : Int) = some r →
  L_ref17_Build_r14 (g.rules.map Rul.av) (g.nonts.map AV.s) (g.levels.map itemAV) (g.prods.map Prd.av) g.start (n : Int) (out.map St.av) (i : Int) (row.map (AV.i .i64)) (s : Int) = some r := by
 have hS := us_snd hu
 have hal := alls_le hS
 refine upTo _ ?_ fun s hs ih => ?_
 ·intro _ out row hG hio hKi hlen hrow hr
  rw [Nat.sub_self, inn, putR_len] at hr
  dsimp only at hr
  have e : (putR i (out, row)).map St.av = (out.map St.av).set i (.g [its (out.getD i default).ker, nums row]) := by
   unfold putR
   rw [List.map_set]
   rfl
  rw [e] at hr
  apply d_ref17_Build_r14
  simp only [t_ref17_Build_r14]
  rcases hr with ⟨h1, h2⟩ | ⟨h1, h2⟩
  ·subst h2
   have h1' : (240 : Int) < (out.length : Int) := by omega
   simp [hio, resB, h1']
  ·have h3 : ¬ 240 < out.length := by omega
   have w : IntKind.wrap .i64 ((i : Int) + 1) = ((i + 1 : Nat) : Int) := wsucc (by omega)
   simp only [w]
   simp only [List.getD_eq_getElem?_getD, List.getElem?_map, Int.toNat_natCast, o_k, List.length_set, List.length_map] at h2 ⊢
   rw [h2]
   simp [hio]
   omega
 ·intro hs1 out row hG hio hKi hlen hrow hr
  obtain ⟨m, hm⟩ : ∃ m, n - s = m + 1 := ⟨n - s - 1, by omega⟩
  have hm2 : n - (s + 1) = m := by omega
  rw [hm, inn] at hr
  rw [hm2] at ih
  have hst := stp_len (g := g) (K := K) (out := out) (row := row) (s := s)
  have h2 := ih (by omega) (stp g K out row s).1 (stp g K out row s).2 (stp_gd hS hG) (by omega) (by rw [stp_get hio]; exact hKi) (by omega) (by omega) hr
  have hsrow : s < row.length := by omega
  have hg := Goto2 g hS K hK (by omega) (s : Int) (by omega)
  have hfi := find17 out (gto g K s) (by omega) fun t ht => Nat.le_trans (hG.le t ht) (by omega)
  apply d_ref17_Build_r14
  unfold stp at h2
  simp only [List.getD_eq_getElem?_getD] at hKi
  by_cases q : gto g K s = []
  ·rw [if_pos q] at h2
   dsimp only at h2
   rw [List.map_set] at h2
   rw [q] at hg hfi
   simp only [t_ref17_Build_r14, wsucc (j := s) (by omega), Int.toNat_natCast, List.getD_eq_getElem?_getD, List.getElem?_map, o_k, hKi, hg, Option.bind_some, List.headD_cons, list_l, hfi, int_i, List.set_set, h2]
   simp [hs, hsrow, hio]
  ·rw [if_neg q] at h2
   have q' : ¬ ((gto g K s).length : Int) = 0 := fun h => q (List.length_eq_zero_iff.mp (by omega))
   cases hf : fndK (gto g K s) (out.map (·.ker)) 0 with
   | some j =>
    rw [hf] at h2 hfi
    dsimp only at h2
    rw [List.map_set] at h2
    simp only [idx] at hfi
    have hsr : s < (row.map (AV.i .i64)).length := by simpa using hsrow
    have hj0 : ¬ ((j : Nat) : Int) < 0 := by omega
    simp only [t_ref17_Build_r14, wsucc (j := s) (by omega), Int.toNat_natCast, List.getD_eq_getElem?_getD, List.getElem?_map, o_k, hKi, hg, Option.bind_some, List.headD_cons, list_l, hfi, int_i, List.set_set, List.getElem?_set_self hsr, Option.getD_some, h2, hj0, decide_false]
    simp [hs, hsrow, hio, q]
   | none =>
    rw [hf] at h2 hfi
    dsimp only at h2
    rw [List.map_set, List.map_append, List.map_cons, List.map_nil] at h2
    simp only [St.av, nums, List.map_nil] at h2
    simp only [idx] at hfi
    have hsr : s < (row.map (AV.i .i64)).length := by simpa using hsrow
    have hlo : out.length ≤ 16777215 := by omega
    simp only [t_ref17_Build_r14, wsucc (j := s) (by omega), Int.toNat_natCast, List.getD_eq_getElem?_getD, List.getElem?_map, o_k, hKi, hg, Option.bind_some, List.headD_cons, list_l, hfi, int_i, List.set_set, List.getElem?_set_self hsr, Option.getD_some, List.length_map, h2]
    simp [hs, hsrow, hio, q, hlo]
include hu in
theorem ref9 (n : Nat) (hn : n = alls g + 1) : ∀ (m i : Nat) (out : List St), 241 ≤ i + m → i ≤ out.length → out.length ≤ 240 → Gd g out →
  L_ref17_Build_r9 (g.rules.map Rul.av) (g.nonts.map AV.s) (g.levels.map itemAV) (g.prods.map Prd.av) g.start (n : Int) (out.map St.av) (i : Int) = some (resB (bld g n m i out)) := by
 have hS := us_snd hu
 have hal := alls_le hS
 intro m
 induction m with
 | zero => intro i out h1 h2 h3; omega
 | succ m ih =>
  intro i out h1 h2 h3 hG
  apply d_ref17_Build_r9
  by_cases hlt : i < out.length
  ·have hm := List.getElem_mem hlt
   have hgd : out.getD i default = out[i] := by rw [List.getD_eq_getElem?_getD, List.getElem?_eq_getElem hlt]; rfl
   have hI := inn_len (g := g) (K := out[i].ker) (n - 1) 1 out (row0 n)
   have hiI : i < (inn g out[i].ker (n - 1) 1 out (row0 n)).1.length := by omega
   have h4 := ref14 g hu n hn i out[i].ker (hG.is _ hm) (hG.le _ hm) (by omega) (resB (bld g n (m + 1) i out)) 1 (by omega) (by omega) out (row0 n) hG hlt (by rw [hgd]) (by omega) (by simp [row0]) (by
    rw [bld, if_pos hlt, hgd]
    by_cases q : 240 < (putR i (inn g out[i].ker (n - 1) 1 out (row0 n))).length
    ·rw [if_pos q]
     exact .inl ⟨q, rfl⟩
    ·rw [if_neg q]
     exact .inr ⟨by omega, ih (i + 1) _ (by omega) (by rw [putR_len]; omega) (by omega) (putR_gd hiI (inn_gd hS _ _ _ _ hG))⟩)
   rw [row0_av, show ((1 : Nat) : Int) = 1 from rfl] at h4
   simp only [t_ref17_Build_r9, Int.toNat_natCast, h4]
   simp [hlt]
   omega
  ·rw [bld, if_neg hlt]
   simp [t_ref17_Build_r9, hlt, resB]
theorem build2 (g : Gr) : D ref17_Build [g.av] = some (built g) := by
 unfold built
 have hr := us2 g
 apply d_ref17_Build
 by_cases hu : us g = true
 ·have hS := us_snd hu
  have hal := alls_le hS
  have ht := tm2 g (by have := hS.rules; omega)
  have w1 : IntKind.wrap .i64 ((terms g : Int) + (g.nonts.length : Int)) = ((alls g : Nat) : Int) := by
   have := terms_le g
   have := hS.rules
   have := hS.nonts
   rw [w64 (by omega) (by omega)]; simp [alls]
  have h1 := ref9 g hu (alls g + 1) rfl 241 0 [⟨[(-1, 0)], []⟩] (by omega) (by simp) (by simp) (gd_first hu)
  rw [hu] at hr
  rw [if_pos hu]
  unfold auto
  rw [show ((0 : Nat) : Int) = 0 from rfl] at h1
  simp only [List.map_cons, List.map_nil, St.av, itemAV, its, nums] at h1
  simp only [t_ref17_Build, hr, ht, Option.bind_some, List.headD_cons, bool_b, int_i, List.length_map, w1, wsucc (j := alls g) (by omega), List.nil_append, h1]
  simp
 ·rw [Bool.not_eq_true] at hu
  rw [hu] at hr ⊢
  simp [t_ref17_Build, hr]
end
theorem fndK_get {k : List Itm} : ∀ {l : List (List Itm)} {j i : Nat}, fndK k l j = some i → l.getD (i - j) [] = k
 | [], j, i, h => by simp [fndK] at h
 | K :: l, j, i, h => by
  have hh := fndK_lt k (K :: l) j i h
  rw [fndK] at h
  by_cases q : K = k
  ·rw [if_pos q] at h
   obtain rfl := Option.some.inj h
   simp [q]
  ·rw [if_neg q] at h
   have h2 := fndK_lt k l (j + 1) i h
   have := fndK_get h
   obtain ⟨d, hd⟩ : ∃ d, i - j = d + 1 := ⟨i - j - 1, by omega⟩
   rw [hd, List.getD_cons_succ, ← this]
   congr 1
   omega
theorem fndK_none {k : List Itm} : ∀ {l : List (List Itm)} {j : Nat}, fndK k l j = none → k ∉ l
 | [], j, h => by simp
 | K :: l, j, h => by
  rw [fndK] at h
  by_cases q : K = k
  ·rw [if_pos q] at h; cases h
  ·rw [if_neg q] at h
   have := fndK_none h
   simp only [List.mem_cons, not_or]
   exact ⟨fun e => q e.symm, this⟩
def kerOf (out : List St) (j : Nat) : List Itm := (out.getD j default).ker
def nxOf (out : List St) (j s : Nat) : Int := (out.getD j default).nx.getD s 0
def Ent (g : Gr) (out : List St) (K : List Itm) (t : Nat) (v : Int) : Prop :=
 (gto g K t = [] ∧ v = -1) ∨ (gto g K t ≠ [] ∧ ∃ j : Nat, j < out.length ∧ v = (j : Int) ∧ kerOf out j = gto g K t)
structure Row (g : Gr) (out : List St) (K : List Itm) (row : List Int) (s : Nat) : Prop where
 len : row.length = alls g + 1
 zero : row.getD 0 0 = -1
 ent : ∀ t, 1 ≤ t → t < s → Ent g out K t (row.getD t 0)
theorem kerOf_app {out m : List St} {j : Nat} (h : j < out.length) : kerOf (out ++ m) j = kerOf out j := by
 unfold kerOf
 simp only [List.getD_eq_getElem?_getD]
 rw [List.getElem?_append_left h]
theorem Ent.app {g : Gr} {out m : List St} {K : List Itm} {t : Nat} {v : Int} (h : Ent g out K t v) : Ent g (out ++ m) K t v := by
 rcases h with h | ⟨h1, j, h2, h3, h4⟩
 ·exact .inl h
 ·exact .inr ⟨h1, j, by rw [List.length_append]; omega, h3, by rw [kerOf_app h2]; exact h4⟩
structure Mid (g : Gr) (i : Nat) (K : List Itm) (out : List St) (row : List Int) (s : Nat) : Prop where
 gd : Gd g out
 hi : i < out.length
 ker : kerOf out i = K
 first : kerOf out 0 = [(-1, 0)]
 nd : (out.map (·.ker)).Nodup
 rows : ∀ i', i' < i → Row g out (kerOf out i') (out.getD i' default).nx (alls g + 1)
 rowp : Row g out K row s
 pre : ∀ j, 1 ≤ j → j < out.length → (∃ i', i' < i ∧ i' < j ∧ ∃ t, 1 ≤ t ∧ t ≤ alls g ∧ nxOf out i' t = (j : Int)) ∨ (i < j ∧ ∃ t, 1 ≤ t ∧ t < s ∧ row.getD t 0 = (j : Int))
theorem rowD_ne {row : List Int} {s t : Nat} {v : Int} (h : s ≠ t) : (row.set s v).getD t 0 = row.getD t 0 := by
 simp only [List.getD_eq_getElem?_getD]
 rw [List.getElem?_set_ne h]
theorem rowD_eq {row : List Int} {s : Nat} {v : Int} (h : s < row.length) : (row.set s v).getD s 0 = v := by
 simp only [List.getD_eq_getElem?_getD]
 rw [List.getElem?_set_self h]
 rfl
theorem Row.set {g : Gr} {out : List St} {K : List Itm} {row : List Int} {s : Nat} {v : Int} (h : Row g out K row s) (hs : 1 ≤ s) (hs2 : s ≤ alls g) (hv : Ent g out K s v) : Row g out K (row.set s v) (s + 1) := by
 refine ⟨by rw [List.length_set]; exact h.len, by rw [rowD_ne (by omega)]; exact h.zero, fun t h1 h2 => ?_⟩
 by_cases e : s = t
 ·subst e
  rw [rowD_eq (by rw [h.len]; omega)]
  exact hv
 ·rw [rowD_ne e]
  exact h.ent t h1 (by omega)
theorem Row.app {g : Gr} {out m : List St} {K : List Itm} {row : List Int} {s : Nat} (h : Row g out K row s) : Row g (out ++ m) K row s := ⟨h.len, h.zero, fun t h1 h2 => (h.ent t h1 h2).app⟩
theorem Mid.step {g : Gr} (hS : Snd g) {i : Nat} {K : List Itm} {out : List St} {row : List Int} {s : Nat} (h : Mid g i K out row s) (h1 : 1 ≤ s) (h2 : s ≤ alls g) : Mid g i K (stp g K out row s).1 (stp g K out row s).2 (s + 1) := by
 have hrow : s < row.length := by rw [h.rowp.len]; omega
 have keep : ∀ v, (∀ j, 1 ≤ j → j < out.length → (∃ i', i' < i ∧ i' < j ∧ ∃ t, 1 ≤ t ∧ t ≤ alls g ∧ nxOf out i' t = (j : Int)) ∨ (i < j ∧ ∃ t, 1 ≤ t ∧ t < s + 1 ∧ (row.set s v).getD t 0 = (j : Int))) := fun v j j1 j2 => by
  rcases h.pre j j1 j2 with k | ⟨k1, t, k2, k3, k4⟩
  ·exact .inl k
  ·exact .inr ⟨k1, t, k2, by omega, by rw [rowD_ne (by omega)]; exact k4⟩
 unfold stp
 by_cases q : gto g K s = []
 ·rw [if_pos q]
  exact ⟨h.gd, h.hi, h.ker, h.first, h.nd, h.rows, h.rowp.set h1 h2 (.inl ⟨q, rfl⟩), keep _⟩
 ·rw [if_neg q]
  cases hf : fndK (gto g K s) (out.map (·.ker)) 0 with
  | some j =>
   have hj := fndK_lt _ _ _ _ hf
   have hg := fndK_get hf
   rw [List.length_map] at hj
   have hk : kerOf out j = gto g K s := by
    rw [Nat.sub_zero] at hg
    rw [← hg]
    unfold kerOf
    simp only [List.getD_eq_getElem?_getD, List.getElem?_map]
    rw [List.getElem?_eq_getElem (by omega)]
    rfl
   exact ⟨h.gd, h.hi, h.ker, h.first, h.nd, h.rows, h.rowp.set h1 h2 (.inr ⟨q, j, by omega, rfl, hk⟩), keep _⟩
  | none =>
   have hn := fndK_none hf
   have hlen : (out ++ [(⟨gto g K s, []⟩ : St)]).length = out.length + 1 := by simp
   refine ⟨h.gd.add hS q, by rw [hlen]; have := h.hi; omega, by rw [kerOf_app h.hi]; exact h.ker, by rw [kerOf_app (by have := h.hi; omega)]; exact h.first, ?_, fun i' hi' => ?_, ?_, fun j j1 j2 => ?_⟩
   ·rw [List.map_append, List.map_cons, List.map_nil]
    rw [List.nodup_append]
    refine ⟨h.nd, by simp, fun a ha b hb => ?_⟩
    rw [List.mem_singleton] at hb
    subst hb
    intro e
    rw [e] at ha
    exact hn ha
   ·have hlt : i' < out.length := by have := h.hi; omega
    have e : (out ++ [(⟨gto g K s, []⟩ : St)]).getD i' default = out.getD i' default := by
     simp only [List.getD_eq_getElem?_getD]
     rw [List.getElem?_append_left hlt]
    rw [kerOf_app hlt, e]
    exact (h.rows i' hi').app
   ·refine (h.rowp.app).set h1 h2 (.inr ⟨q, out.length, by rw [hlen]; omega, rfl, ?_⟩)
    unfold kerOf
    simp
   ·rw [hlen] at j2
    by_cases e : j = out.length
    ·refine .inr ⟨by have := h.hi; omega, s, h1, by omega, ?_⟩
     rw [rowD_eq hrow, e]
    ·rcases keep (out.length : Int) j j1 (by omega) with ⟨i', k1, k2, t, k3, k4, k5⟩ | k
     ·refine .inl ⟨i', k1, k2, t, k3, k4, ?_⟩
      have hlt : i' < out.length := by have := h.hi; omega
      unfold nxOf at k5 ⊢
      have e : (out ++ [(⟨gto g K s, []⟩ : St)]).getD i' default = out.getD i' default := by
       simp only [List.getD_eq_getElem?_getD]
       rw [List.getElem?_append_left hlt]
      rw [e]
      exact k5
     ·exact .inr k
theorem Mid.all {g : Gr} (hS : Snd g) {i : Nat} {K : List Itm} : ∀ (m s : Nat) (out : List St) (row : List Int), Mid g i K out row s → 1 ≤ s → s + m = alls g + 1 → Mid g i K (inn g K m s out row).1 (inn g K m s out row).2 (alls g + 1)
 | 0, s, out, row, h, h1, h2 => by rw [inn]; rw [Nat.add_zero] at h2; rw [← h2]; exact h
 | m + 1, s, out, row, h, h1, h2 => by
  rw [inn]
  exact Mid.all hS m (s + 1) _ _ (h.step hS h1 (by omega)) (by omega) (by omega)
structure Bt (g : Gr) (i : Nat) (out : List St) : Prop where
 gd : Gd g out
 pos : 0 < out.length
 first : kerOf out 0 = [(-1, 0)]
 nd : (out.map (·.ker)).Nodup
 rows : ∀ i', i' < i → Row g out (kerOf out i') (out.getD i' default).nx (alls g + 1)
 pre : ∀ j, 1 ≤ j → j < out.length → ∃ i', i' < i ∧ i' < j ∧ ∃ t, 1 ≤ t ∧ t ≤ alls g ∧ nxOf out i' t = (j : Int)
theorem Bt.mid {g : Gr} {i : Nat} {out : List St} (h : Bt g i out) (hi : i < out.length) : Mid g i (kerOf out i) out (row0 (alls g + 1)) 1 := by
 refine ⟨h.gd, hi, rfl, h.first, h.nd, h.rows, ⟨by simp [row0], ?_, fun t h1 h2 => by omega⟩, fun j j1 j2 => .inl (h.pre j j1 j2)⟩
 unfold row0
 rw [rowD_eq (by simp)]
theorem putR_ker {i : Nat} {q : List St × List Int} (hi : i < q.1.length) (j : Nat) : kerOf (putR i q) j = kerOf q.1 j := by
 unfold kerOf putR
 simp only [List.getD_eq_getElem?_getD]
 by_cases e : i = j
 ·subst e
  rw [List.getElem?_set_self hi]
  rfl
 ·rw [List.getElem?_set_ne e]
theorem putR_at {i : Nat} {q : List St × List Int} (hi : i < q.1.length) : ((putR i q).getD i default).nx = q.2 := by
 unfold putR
 simp only [List.getD_eq_getElem?_getD]
 rw [List.getElem?_set_self hi]
 rfl
theorem putR_ne {i j : Nat} {q : List St × List Int} (e : i ≠ j) : (putR i q).getD j default = q.1.getD j default := by
 unfold putR
 simp only [List.getD_eq_getElem?_getD]
 rw [List.getElem?_set_ne e]
theorem putR_kers {i : Nat} {q : List St × List Int} (hi : i < q.1.length) : (putR i q).map (·.ker) = q.1.map (·.ker) := by
 unfold putR
 rw [List.map_set]
 dsimp only
 rw [List.getD_eq_getElem?_getD, List.getElem?_eq_getElem hi, Option.getD_some]
 have hi' : i < (q.1.map (·.ker)).length := by simpa using hi
 have : (q.1.map (·.ker)).set i ((q.1.map (·.ker))[i]'hi') = q.1.map (·.ker) := List.set_getElem_self _
 rw [List.getElem_map] at this
 exact this
theorem Ent.put {g : Gr} {i : Nat} {q : List St × List Int} (hi : i < q.1.length) {K : List Itm} {t : Nat} {v : Int} (h : Ent g q.1 K t v) : Ent g (putR i q) K t v := by
 rcases h with h | ⟨h1, j, h2, h3, h4⟩
 ·exact .inl h
 ·exact .inr ⟨h1, j, by rw [putR_len]; exact h2, h3, by rw [putR_ker hi]; exact h4⟩
theorem Row.put {g : Gr} {i : Nat} {q : List St × List Int} (hi : i < q.1.length) {K : List Itm} {row : List Int} {s : Nat} (h : Row g q.1 K row s) : Row g (putR i q) K row s := ⟨h.len, h.zero, fun t h1 h2 => (h.ent t h1 h2).put hi⟩
theorem Mid.bt {g : Gr} {i : Nat} {K : List Itm} {out : List St} {row : List Int} (h : Mid g i K out row (alls g + 1)) : Bt g (i + 1) (putR i (out, row)) := by
 have hi : i < (out, row).1.length := h.hi
 refine ⟨putR_gd hi h.gd, by rw [putR_len]; have := h.hi; show 0 < out.length; omega, by rw [putR_ker hi]; exact h.first, by rw [putR_kers hi]; exact h.nd, fun i' hi' => ?_, fun j j1 j2 => ?_⟩
 ·rw [putR_ker hi]
  by_cases e : i = i'
  ·subst e
   rw [putR_at hi]
   have := h.rowp.put (q := (out, row)) hi
   rw [← h.ker] at this
   exact this
  ·rw [putR_ne e]
   exact (h.rows i' (by omega)).put hi
 ·rw [putR_len] at j2
  rcases h.pre j j1 j2 with ⟨i', k1, k2, t, k3, k4, k5⟩ | ⟨k1, t, k2, k3, k4⟩
  ·refine ⟨i', by omega, k2, t, k3, k4, ?_⟩
   unfold nxOf at k5 ⊢
   rw [putR_ne (by omega)]
   exact k5
  ·refine ⟨i, by omega, k1, t, k2, by omega, ?_⟩
   unfold nxOf
   rw [putR_at hi]
   exact k4
theorem bld_bt {g : Gr} (hS : Snd g) : ∀ (m i : Nat) (out l : List St), 241 ≤ i + m → i ≤ out.length → out.length ≤ 240 → Bt g i out → bld g (alls g + 1) m i out = some l → Bt g l.length l ∧ l.length ≤ 240
 | 0, i, out, l, h1, h2, h3, hB, h => by omega
 | m + 1, i, out, l, h1, h2, h3, hB, h => by
  rw [bld] at h
  by_cases hlt : i < out.length
  ·rw [if_pos hlt] at h
   have hI := inn_len (g := g) (K := kerOf out i) (alls g) 1 out (row0 (alls g + 1))
   have hm : Bt g (i + 1) (putR i (inn g (kerOf out i) (alls g) 1 out (row0 (alls g + 1)))) := (Mid.all hS (alls g) 1 _ _ (hB.mid hlt) (by omega) (by omega)).bt
   rw [show alls g + 1 - 1 = alls g by omega] at h
   change (if 240 < (putR i (inn g (kerOf out i) (alls g) 1 out (row0 (alls g + 1)))).length then none else bld g (alls g + 1) m (i + 1) (putR i (inn g (kerOf out i) (alls g) 1 out (row0 (alls g + 1))))) = some l at h
   by_cases q : 240 < (putR i (inn g (kerOf out i) (alls g) 1 out (row0 (alls g + 1)))).length
   ·rw [if_pos q] at h; cases h
   ·rw [if_neg q] at h
    exact bld_bt hS m (i + 1) _ l (by omega) (by rw [putR_len]; omega) (by omega) hm h
  ·rw [if_neg hlt] at h
   obtain rfl := Option.some.inj h
   have e : i = out.length := by omega
   rw [e] at hB
   exact ⟨hB, h3⟩
theorem auto_bt {g : Gr} (hu : us g = true) {l : List St} (h : auto g = some l) : Bt g l.length l ∧ l.length ≤ 240 := by
 have hS := us_snd hu
 refine bld_bt hS 241 0 _ l (by omega) (by simp) (by simp) ⟨gd_first hu, by simp, rfl, by simp, fun i' hi' => by omega, fun j j1 j2 => ?_⟩ h
 simp at j2
 omega
theorem heavy1 (g : Gr) : ∃ b, D law17_heavy [g.av] = some [.b b] ∧ (b = false → g.rules.length ≤ 10 ∧ g.nonts.length ≤ 10 ∧ g.prods.length ≤ 24 ∧ g.levels.length ≤ 20) := by
 by_cases h1 : g.prods.length ≤ 24 ∧ g.rules.length ≤ 10 ∧ g.nonts.length ≤ 10 ∧ g.levels.length ≤ 20
 ·obtain ⟨p1, p2, p3, p4⟩ := h1
  have l17 : ∀ j, j ≤ g.prods.length → ∀ n : Nat, n ≤ 8 * j → ∃ b, L_law17_heavy_r17 (g.rules.map Rul.av) (g.nonts.map AV.s) (g.levels.map itemAV) (g.prods.map Prd.av) g.start (n : Int) (g.prods.length : Int) (j : Int) = some [.b b] := by
   refine upTo _ (fun n hn => ⟨decide ((n : Int) > 60), ?_⟩) fun j hj ih n hn => ?_
   ·apply d_law17_heavy_r17
    simp [t_law17_heavy_r17]
   ·by_cases q : g.prods[j].right.length ≤ 8
    ·obtain ⟨b, hb⟩ := ih (n + g.prods[j].right.length) (by omega)
     refine ⟨b, ?_⟩
     have w : IntKind.wrap .i64 ((n : Int) + (g.prods[j].right.length : Int)) = ((n + g.prods[j].right.length : Nat) : Int) := by rw [w64 (by omega) (by omega)]; simp
     have q' : ¬ (8 : Int) < (g.prods[j].right.length : Int) := by omega
     apply d_law17_heavy_r17
     simp only [t_law17_heavy_r17, List.getD_eq_getElem?_getD, List.getElem?_map, Int.toNat_natCast, o_r, List.getElem?_eq_getElem hj, Option.getD_some, List.length_map, w, wsucc (j := j) (by omega), hb]
     simp [hj, q']
    ·refine ⟨true, ?_⟩
     have q' : (8 : Int) < (g.prods[j].right.length : Int) := by omega
     apply d_law17_heavy_r17
     simp [t_law17_heavy_r17, hj, q']
  have l10 : ∀ j, j ≤ g.nonts.length → ∃ b, L_law17_heavy_r10 (g.rules.map Rul.av) (g.nonts.map AV.s) (g.levels.map itemAV) (g.prods.map Prd.av) g.start (g.nonts.length : Int) (j : Int) = some [.b b] := by
   obtain ⟨b, hb⟩ := l17 0 (by omega) 0 (by omega)
   rw [show ((0 : Nat) : Int) = 0 from rfl] at hb
   refine upTo _ ⟨b, ?_⟩ fun j hj ⟨b, hb⟩ => ?_
   ·apply d_law17_heavy_r10
    simp [t_law17_heavy_r10, hb]
   ·by_cases q : 40 < g.nonts[j].size
    ·refine ⟨true, ?_⟩
     have q' : (40 : Int) < (g.nonts[j].size : Int) := by omega
     apply d_law17_heavy_r10
     simp [t_law17_heavy_r10, hj, q']
    ·refine ⟨b, ?_⟩
     have q' : ¬ (40 : Int) < (g.nonts[j].size : Int) := by omega
     apply d_law17_heavy_r10
     simp only [t_law17_heavy_r10, wsucc (j := j) (by omega), hb]
     simp [hj, q']
  have l4 : ∀ j, j ≤ g.rules.length → ∃ b, L_law17_heavy_r4 (g.rules.map Rul.av) (g.nonts.map AV.s) (g.levels.map itemAV) (g.prods.map Prd.av) g.start (g.rules.length : Int) (j : Int) = some [.b b] := by
   obtain ⟨b, hb⟩ := l10 0 (by omega)
   rw [show ((0 : Nat) : Int) = 0 from rfl] at hb
   refine upTo _ ⟨b, ?_⟩ fun j hj ⟨b, hb⟩ => ?_
   ·apply d_law17_heavy_r4
    simp [t_law17_heavy_r4, hb]
   ·by_cases q1 : 30 < g.rules[j].re.length
    ·refine ⟨true, ?_⟩
     have q' : (30 : Int) < (g.rules[j].re.length : Int) := by omega
     apply d_law17_heavy_r4
     simp [t_law17_heavy_r4, hj, q']
    have q1' : ¬ (30 : Int) < (g.rules[j].re.length : Int) := by omega
    by_cases q : 40 < g.rules[j].name.size
    ·refine ⟨true, ?_⟩
     have q' : (40 : Int) < (g.rules[j].name.size : Int) := by omega
     apply d_law17_heavy_r4
     simp [t_law17_heavy_r4, hj, q', q1']
    ·refine ⟨b, ?_⟩
     have q' : ¬ (40 : Int) < (g.rules[j].name.size : Int) := by omega
     apply d_law17_heavy_r4
     simp only [t_law17_heavy_r4, wsucc (j := j) (by omega), hb]
     simp [hj, q', q1']
  obtain ⟨b, hb⟩ := l4 0 (by omega)
  rw [show ((0 : Nat) : Int) = 0 from rfl] at hb
  refine ⟨b, ?_, fun _ => ⟨p2, p3, p1, p4⟩⟩
  apply d_law17_heavy
  have a1 : ¬ (24 : Int) < (g.prods.length : Int) := by omega
  have a2 : ¬ (10 : Int) < (g.rules.length : Int) := by omega
  have a3 : ¬ (10 : Int) < (g.nonts.length : Int) := by omega
  have a4 : ¬ (20 : Int) < (g.levels.length : Int) := by omega
  simp [t_law17_heavy, a1, a2, a3, a4, hb]
 ·refine ⟨true, ?_, fun h => by cases h⟩
  apply d_law17_heavy
  simp [t_law17_heavy]
  intros
  omega
theorem Row.nxlen {g : Gr} {l : List St} (h : Bt g l.length l) {s : St} (hs : s ∈ l) : s.nx.length = alls g + 1 := by
 obtain ⟨j, hj, rfl⟩ := List.mem_iff_getElem.mp hs
 have := (h.rows j hj).len
 rw [List.getD_eq_getElem?_getD, List.getElem?_eq_getElem hj] at this
 exact this
theorem built_is (g : Gr) : ∃ (l : List St) (e : Int), built g = [sts l, .i .i64 e] ∧ (e = 0 ∧ us g = true ∧ Bt g l.length l ∧ l.length ≤ 240 ∨ e ≠ 0 ∧ l = []) := by
 unfold built
 by_cases hu : us g = true
 ·rw [if_pos hu]
  cases h : auto g with
  | none => exact ⟨[], 3, rfl, .inr ⟨by decide, rfl⟩⟩
  | some l =>
   have := auto_bt hu h
   exact ⟨l, 0, rfl, .inl ⟨rfl, hu, this.1, this.2⟩⟩
 ·rw [if_neg hu]
  exact ⟨[], 10, rfl, .inr ⟨by decide, rfl⟩⟩
section
variable (hw : D law17_wakes [] = some [.b true])
include hw
theorem AutoBuilds_D (g : Gr) : D law17_AutoBuilds [g.av] = some [.b true] := by
 obtain ⟨b, h1, h2⟩ := heavy1 g
 apply d_law17_AutoBuilds
 cases b with
 | true => simp [t_law17_AutoBuilds, hw, h1]
 | false =>
  have b1 := build1 g
  have b2 := build2 g
  obtain ⟨l, e, hb, hc⟩ := built_is g
  have hz : l.length ≤ 16777216 ∧ ∀ s ∈ l, s.ker.length ≤ 16777216 ∧ s.nx.length ≤ 16777216 := by
   rcases hc with ⟨_, hu, hB, hl⟩ | ⟨_, rfl⟩
   ·have := alls_le (us_snd hu)
    exact ⟨by omega, fun s hs => ⟨Nat.le_trans (hB.gd.le s hs) (by omega), by rw [Row.nxlen hB hs]; omega⟩⟩
   ·exact ⟨by simp, fun s hs => by simp at hs⟩
  rw [hb] at b1 b2
  obtain ⟨r, r1, r2⟩ := same17 l l hz.1 hz.2
  rw [r2.mpr rfl] at r1
  simp [t_law17_AutoBuilds, hw, h1, b1, b2, r1]
end
def isSym (g : Gr) (k : List Itm) (s : Int) : Prop := k ≠ [] ∧ s ≠ 0 ∧ ∀ y ∈ k, 1 ≤ y.2 ∧ y.2 ≤ ((side g y.1).length : Int) ∧ (side g y.1).getD (y.2 - 1).toNat 0 = s
theorem isSym_uniq {g : Gr} {k : List Itm} {s t : Int} (h : isSym g k s) (h2 : isSym g k t) : s = t := by
 obtain ⟨hk, _, h3⟩ := h
 obtain ⟨_, _, h4⟩ := h2
 cases k with
 | nil => exact absurd rfl hk
 | cons y k => exact (h3 y (by simp)).2.2.symm.trans (h4 y (by simp)).2.2
theorem isSym_gto {g : Gr} {K : List Itm} (hK : ∀ x ∈ K, IsI g x) {s : Int} (h : gto g K s ≠ []) : isSym g (gto g K s) s := by
 have key : ∀ y ∈ gto g K s, s ≠ 0 ∧ 1 ≤ y.2 ∧ y.2 ≤ ((side g y.1).length : Int) ∧ (side g y.1).getD (y.2 - 1).toNat 0 = s := fun y hy => by
  obtain ⟨x, hx, hn, hs, rfl⟩ := (mem_gto hK).mp hy
  have hI := hx.is hK
  have hlt := nxt_lt (by rw [hn]; exact hs)
  have e : nxt g x = (side g x.1).getD x.2.toNat 0 := by unfold nxt; rw [if_pos hlt]
  have h0 := hI.2.2.1
  refine ⟨hs, by show (1 : Int) ≤ x.2 + 1; omega, by show x.2 + 1 ≤ ((side g x.1).length : Int); omega, ?_⟩
  show (side g x.1).getD (x.2 + 1 - 1).toNat 0 = s
  rw [show x.2 + 1 - 1 = x.2 by omega, ← e, hn]
 obtain ⟨y, hy⟩ := List.exists_mem_of_ne_nil _ h
 exact ⟨h, (key y hy).1, fun y hy => (key y hy).2⟩
structure On (g : Gr) (l : List St) (i s : Nat) (B F : List Int) : Prop where
 lb : B.length = l.length
 lf : F.length = l.length
 ok : ∀ j, j < l.length → B.getD j 0 = 0 ∨ (isSym g (kerOf l j) (B.getD j 0) ∧ F.getD j 0 ≤ (i : Int))
 did : ∀ j, j < l.length → ∀ i' t : Nat, 1 ≤ t → t ≤ alls g → (i' < i ∨ (i' = i ∧ t < s)) → nxOf l i' t = (j : Int) → B.getD j 0 ≠ 0 ∧ F.getD j 0 ≤ (i' : Int)
theorem numsD (l : List Int) (i : Nat) (h : i < l.length) : (l.map (AV.i .i64)).getD i .u = .i .i64 (l.getD i 0) := by
 rw [List.getD_eq_getElem?_getD, List.getElem?_map, List.getElem?_eq_getElem h, List.getD_eq_getElem?_getD, List.getElem?_eq_getElem h]
 rfl
theorem getD_setI (l : List Int) (i j : Nat) (v : Int) (h : i < l.length) : (l.set i v).getD j 0 = if i = j then v else l.getD j 0 := by
 simp only [List.getD_eq_getElem?_getD, List.getElem?_set]
 split
 ·rename_i e; subst e; simp [h]
 ·rfl
theorem On.next {g : Gr} {l : List St} {i s : Nat} {B F : List Int} (h : On g l i s B F) (hn : ∀ j, j < l.length → 1 ≤ s → s ≤ alls g → nxOf l i s = (j : Int) → B.getD j 0 ≠ 0) : On g l i (s + 1) B F := by
 refine ⟨h.lb, h.lf, h.ok, fun j hj i' t t1 t2 hc hx => ?_⟩
 rcases hc with hc | ⟨rfl, hc⟩
 ·exact h.did j hj i' t t1 t2 (.inl hc) hx
 ·by_cases e : t = s
  ·subst e
   have hb := hn j hj t1 t2 hx
   rcases h.ok j hj with q | ⟨_, q⟩
   ·exact absurd q hb
   ·exact ⟨hb, q⟩
  ·exact h.did j hj i' t t1 t2 (.inr ⟨rfl, by omega⟩) hx
theorem On.put {g : Gr} {l : List St} {i s j0 : Nat} {B F : List Int} (h : On g l i s B F) (hj : j0 < l.length) (h1 : 1 ≤ s) (hx : nxOf l i s = (j0 : Int)) (hb : B.getD j0 0 = 0) (hs : isSym g (kerOf l j0) (s : Int)) : On g l i (s + 1) (B.set j0 (s : Int)) (F.set j0 (i : Int)) := by
 have lb := h.lb
 have lf := h.lf
 refine ⟨by simp [lb], by simp [lf], fun j hjl => ?_, fun j hjl i' t t1 t2 hc hxt => ?_⟩
 ·rw [getD_setI _ _ _ _ (by omega), getD_setI _ _ _ _ (by omega)]
  by_cases e : j0 = j
  ·subst e
   rw [if_pos rfl, if_pos rfl]
   exact .inr ⟨hs, Int.le_refl _⟩
  ·rw [if_neg e, if_neg e]
   exact h.ok j hjl
 ·rw [getD_setI _ _ _ _ (by omega), getD_setI _ _ _ _ (by omega)]
  by_cases e : j0 = j
  ·subst e
   rw [if_pos rfl, if_pos rfl]
   refine ⟨by omega, ?_⟩
   rcases hc with hc | ⟨rfl, hc⟩
   ·exact absurd hb (h.did j0 hj i' t t1 t2 (.inl hc) hxt).1
   ·exact Int.le_refl _
  ·rw [if_neg e, if_neg e]
   rcases hc with hc | ⟨rfl, hc⟩
   ·exact h.did j hjl i' t t1 t2 (.inl hc) hxt
   ·by_cases e2 : t = s
    ·subst e2
     rw [hx] at hxt
     exact absurd (Int.ofNat.inj hxt) e
    ·exact h.did j hjl i' t t1 t2 (.inr ⟨rfl, by omega⟩) hxt
theorem On.row {g : Gr} {l : List St} {i : Nat} {B F : List Int} (h : On g l i (alls g + 1) B F) : On g l (i + 1) 0 B F := by
 refine ⟨h.lb, h.lf, fun j hj => ?_, fun j hj i' t t1 t2 hc hx => ?_⟩
 ·rcases h.ok j hj with q | ⟨q1, q2⟩
  ·exact .inl q
  ·exact .inr ⟨q1, by omega⟩
 ·refine h.did j hj i' t t1 t2 ?_ hx
  rcases hc with hc | ⟨_, hc⟩
  ·by_cases e : i' = i
   ·exact .inr ⟨e, by omega⟩
   ·exact .inl (by omega)
  ·omega
structure Dn (g : Gr) (l : List St) (B F : List Int) : Prop where
 lb : B.length = l.length
 lf : F.length = l.length
 ok : ∀ j, 1 ≤ j → j < l.length → isSym g (kerOf l j) (B.getD j 0) ∧ B.getD j 0 ≠ 0 ∧ F.getD j 0 < (j : Int)
theorem st_at (l : List St) (j : Nat) (hj : j < l.length) : (l.map St.av).getD j .u = (l.getD j default).av := by
 rw [List.getD_eq_getElem?_getD, List.getElem?_map, List.getElem?_eq_getElem hj, List.getD_eq_getElem?_getD, List.getElem?_eq_getElem hj]
 rfl
theorem ker_len {g : Gr} {l : List St} (hB : Bt g l.length l) (j : Nat) (hj : j < l.length) : (kerOf l j).length ≤ 400 := by
 have hjm := List.getElem_mem hj
 have e : kerOf l j = l[j].ker := by unfold kerOf; rw [List.getD_eq_getElem?_getD, List.getElem?_eq_getElem hj]; rfl
 rw [e]
 exact hB.gd.le _ hjm
theorem ent_at {g : Gr} {l : List St} (hB : Bt g l.length l) (i : Nat) (hi : i < l.length) (s : Nat) (hs : s < alls g + 1) : nxOf l i s < 0 ∨ ∃ j : Nat, j < l.length ∧ j ≠ 0 ∧ nxOf l i s = (j : Int) ∧ 1 ≤ s ∧ isSym g (kerOf l j) (s : Int) := by
 have hr := hB.rows i hi
 have hK : ∀ x ∈ kerOf l i, IsI g x := by
  have e : kerOf l i = l[i].ker := by unfold kerOf; rw [List.getD_eq_getElem?_getD, List.getElem?_eq_getElem hi]; rfl
  rw [e]
  exact hB.gd.is _ (List.getElem_mem hi)
 by_cases h0 : s = 0
 ·subst h0
  left
  have : nxOf l i 0 = -1 := hr.zero
  omega
 ·rcases hr.ent s (by omega) hs with ⟨_, h⟩ | ⟨h1, j, h2, h3, h4⟩
  ·left
   have : nxOf l i s = -1 := h
   omega
  ·right
   have hsy : isSym g (kerOf l j) (s : Int) := by rw [h4]; exact isSym_gto hK h1
   refine ⟨j, h2, fun e => ?_, h3, by omega, hsy⟩
   subst e
   have := (hsy.2.2 (-1, 0) (by rw [hB.first]; simp)).1
   simp at this
section
variable (g : Gr) (hu : us g = true) (l : List St) (hB : Bt g l.length l) (hl : l.length ≤ 240)
include hu hB hl
theorem one36 (B F : List Int) (hlb : B.length = l.length) (hlf : F.length = l.length) (j : Nat) (hj : j < l.length) (hs : isSym g (kerOf l j) (B.getD j 0))
  (hnext : L_law17_AutoOne_r25 (g.rules.map Rul.av) (g.nonts.map AV.s) (g.levels.map itemAV) (g.prods.map Prd.av) g.start (l.map St.av) (B.map (AV.i .i64)) (F.map (AV.i .i64)) ((j + 1 : Nat) : Int) = some [.b true]) :
  ∀ m, m ≤ (kerOf l j).length → L_law17_AutoOne_r36 (g.rules.map Rul.av) (g.nonts.map AV.s) (g.levels.map itemAV) (g.prods.map Prd.av) g.start (l.map St.av) (B.map (AV.i .i64)) (F.map (AV.i .i64)) (j : Int) ((kerOf l j).map itemAV) ((kerOf l j).length : Int) (m : Int) = some [.b true] := by
 have hS := us_snd hu
 refine upTo _ ?_ fun m hm ih => ?_
 ·apply d_law17_AutoOne_r36
  simp only [t_law17_AutoOne_r36, wsucc (j := j) (by omega), hnext]
  simp
 ·have hmem := List.getElem_mem hm
  obtain ⟨y1, y2, y3⟩ := hs.2.2 _ hmem
  have hI : IsI g (kerOf l j)[m] := by
   have hjm := List.getElem_mem hj
   have e : kerOf l j = l[j].ker := by unfold kerOf; rw [List.getD_eq_getElem?_getD, List.getElem?_eq_getElem hj]; rfl
   exact hB.gd.is _ hjm _ (by simp only [e]; exact List.getElem_mem _)
  have hkl : (kerOf l j).length ≤ 400 := by
   have hjm := List.getElem_mem hj
   have e : kerOf l j = l[j].ker := by unfold kerOf; rw [List.getD_eq_getElem?_getD, List.getElem?_eq_getElem hj]; rfl
   rw [e]
   exact hB.gd.le _ hjm
  have hs2 := side2 g hS (kerOf l j)[m].1 hI.1 hI.2.1
  have hbj : (B.map (AV.i .i64)).getD j .u = .i .i64 (B.getD j 0) := by
   have : j < B.length := by omega
   simp [List.getD_eq_getElem?_getD, this]
  have hbl : j < B.length := by omega
  generalize hx : (kerOf l j)[m] = x at *
  have hkm : ((kerOf l j).map itemAV).getD m .u = itemAV x := by
   rw [List.getD_eq_getElem?_getD, List.getElem?_map, List.getElem?_eq_getElem hm, hx]; rfl
  have w1 : IntKind.wrap .i64 (x.2 - 1) = x.2 - 1 := w64 (by omega) (by
   have := hI.2.2.2
   have := side_len hS hI.1 hI.2.1
   omega)
  have hsd : ((side g x.1).map (AV.i .i64)).getD (x.2 - 1).toNat .u = .i .i64 (B.getD j 0) := by
   have hlt : (x.2 - 1).toNat < (side g x.1).length := by omega
   rw [numsD _ _ hlt, y3]
  apply d_law17_AutoOne_r36
  simp only [t_law17_AutoOne_r36, wsucc (j := m) (by omega), ih, Int.toNat_natCast, hkm]
  have f0 : (itemAV x).fld 0 = .i .i64 x.1 := rfl
  have f1 : (itemAV x).fld 1 = .i .i64 x.2 := rfl
  have c1 : ¬ x.2 < 1 := by omega
  have c2 : (0 : Int) ≤ x.2 - 1 := by omega
  have c3 : x.2 - 1 < ((side g x.1).length : Int) := by omega
  simp only [f0, f1, int_i, hs2, Option.bind_some, List.headD_cons, list_l, w1, hbj, hsd]
  simp [hm, hbl, c1, c2, c3]
theorem one30 (B F : List Int) (hD : Dn g l B F) (j : Nat) (h1 : 1 ≤ j) (hj : j < l.length)
  (hnext : L_law17_AutoOne_r25 (g.rules.map Rul.av) (g.nonts.map AV.s) (g.levels.map itemAV) (g.prods.map Prd.av) g.start (l.map St.av) (B.map (AV.i .i64)) (F.map (AV.i .i64)) ((j + 1 : Nat) : Int) = some [.b true]) :
  ∀ k, k ≤ j → L_law17_AutoOne_r30 (g.rules.map Rul.av) (g.nonts.map AV.s) (g.levels.map itemAV) (g.prods.map Prd.av) g.start (l.map St.av) (B.map (AV.i .i64)) (F.map (AV.i .i64)) (j : Int) (j : Int) (k : Int) = some [.b true] := by
 have e1 := st_at l j hj
 refine upTo _ ?_ fun k hk ih => ?_
 ·have h36 := one36 g hu l hB hl B F hD.lb hD.lf j hj (hD.ok j h1 hj).1 hnext 0 (by omega)
  rw [show ((0 : Nat) : Int) = 0 from rfl] at h36
  apply d_law17_AutoOne_r30
  simp only [t_law17_AutoOne_r30, Int.toNat_natCast, e1, av_k, list_l, List.length_map]
  unfold kerOf at h36
  simp [hj, h36, -List.getD_eq_getElem?_getD]
 ·have e2 := st_at l k (by omega)
  have hne : kerOf l j ≠ kerOf l k := fun e => by
   have hjk : j ≠ k := by omega
   refine hjk ?_
   have hnd := hB.nd
   have hj' : j < (l.map (·.ker)).length := by simpa using hj
   have hk' : k < (l.map (·.ker)).length := by simp; omega
   refine (List.getElem_inj (h₀ := hj') (h₁ := hk') hnd).mp ?_
   have a1 : kerOf l j = l[j].ker := by unfold kerOf; rw [List.getD_eq_getElem?_getD, List.getElem?_eq_getElem hj]; rfl
   have a2 : kerOf l k = (l[k]'(by omega)).ker := by unfold kerOf; rw [List.getD_eq_getElem?_getD, List.getElem?_eq_getElem (by omega)]; rfl
   simpa [← a1, ← a2] using e
  have hs := same2 (kerOf l j) (kerOf l k) (by have := ker_len hB j hj; omega)
  rw [decide_eq_false hne] at hs
  unfold kerOf at hs
  apply d_law17_AutoOne_r30
  simp only [t_law17_AutoOne_r30, Int.toNat_natCast, e1, e2, av_k, list_l, List.length_map, wsucc (j := k) (by omega), ih, hs, Option.bind_some, List.headD_cons, bool_b]
  have hkl : k < l.length := by omega
  simp [hj, hk, hkl, -List.getD_eq_getElem?_getD]
theorem one25 (B F : List Int) (hD : Dn g l B F) : ∀ j, j ≤ l.length → 1 ≤ j → L_law17_AutoOne_r25 (g.rules.map Rul.av) (g.nonts.map AV.s) (g.levels.map itemAV) (g.prods.map Prd.av) g.start (l.map St.av) (B.map (AV.i .i64)) (F.map (AV.i .i64)) (j : Int) = some [.b true] := by
 have hS := us_snd hu
 refine upTo _ ?_ fun j hj ih => ?_
 ·intro _
  have h0 := hB.pos
  have e1 := st_at l 0 h0
  have ht := tm2 g (by have := hS.rules; omega)
  have hr := (hB.rows 0 h0).len
  have hal := alls_le hS
  have w1 : IntKind.wrap .i64 ((terms g : Int) + (g.nonts.length : Int)) = ((alls g : Nat) : Int) := by
   have := terms_le g
   have := hS.rules
   have := hS.nonts
   rw [w64 (by omega) (by omega)]; simp [alls]
  apply d_law17_AutoOne_r25
  simp only [t_law17_AutoOne_r25, e1, av_x, list_l, List.length_map, ht, Option.bind_some, List.headD_cons, int_i, w1, wsucc (j := alls g) (by omega), hr]
  simp [h0]
 ·intro h1
  obtain ⟨q1, q2, q3⟩ := hD.ok j h1 hj
  have h30 := one30 g hu l hB hl B F hD j h1 hj (ih (by omega)) 0 (by omega)
  rw [show ((0 : Nat) : Int) = 0 from rfl] at h30
  have lb := hD.lb
  have lf := hD.lf
  apply d_law17_AutoOne_r25
  simp only [t_law17_AutoOne_r25, Int.toNat_natCast, List.length_map, numsD B j (by omega), numsD F j (by omega), int_i, h30]
  have c1 : j < B.length := by omega
  have c2 : j < F.length := by omega
  have c3 : ¬ (j : Int) ≤ F.getD j 0 := by omega
  generalize B.getD j 0 = b at *
  generalize F.getD j 0 = f at *
  simp [hj, c1, c2, c3, q2]
theorem one14 (i : Nat) (hi : i < l.length) (hnext : ∀ B F : List Int, On g l (i + 1) 0 B F → L_law17_AutoOne_r11 (g.rules.map Rul.av) (g.nonts.map AV.s) (g.levels.map itemAV) (g.prods.map Prd.av) g.start (l.map St.av) (B.map (AV.i .i64)) (F.map (AV.i .i64)) (l.length : Int) ((i + 1 : Nat) : Int) = some [.b true]) :
  ∀ s, s ≤ alls g + 1 → ∀ B F : List Int, On g l i s B F → L_law17_AutoOne_r14 (g.rules.map Rul.av) (g.nonts.map AV.s) (g.levels.map itemAV) (g.prods.map Prd.av) g.start (l.map St.av) (B.map (AV.i .i64)) (F.map (AV.i .i64)) (i : Int) (l.length : Int) (i : Int) ((l.getD i default).nx.map (AV.i .i64)) ((alls g + 1 : Nat) : Int) (s : Int) = some [.b true] := by
 have hS := us_snd hu
 have hal := alls_le hS
 have hrl : (l.getD i default).nx.length = alls g + 1 := (hB.rows i hi).len
 refine upTo _ ?_ fun s hs ih => ?_
 ·intro B F hO
  apply d_law17_AutoOne_r14
  simp only [t_law17_AutoOne_r14, wsucc (j := i) (by omega), hnext B F hO.row]
  simp
 ·intro B F hO
  have lb := hO.lb
  have lf := hO.lf
  have hv : ((l.getD i default).nx.map (AV.i .i64)).getD s .u = .i .i64 (nxOf l i s) := numsD _ _ (by omega)
  have hle : ((s : Int) < ((alls g + 1 : Nat) : Int)) := by omega
  have hle2 : ((s : Int) < (((l.getD i default).nx.map (AV.i .i64)).length : Int)) := by rw [List.length_map]; omega
  apply d_law17_AutoOne_r14
  rcases ent_at hB i hi s hs with hneg | ⟨j, hj, j0, hx, s1, hsy⟩
  ·have hO' := hO.next fun j' hj' _ _ hx' => by omega
   simp only [t_law17_AutoOne_r14, wsucc (j := s) (by omega), Int.toNat_natCast, hv, int_i, ih B F hO', hle, hle2, decide_true, if_true]
   have c0 : (0 : Int) ≤ (s : Int) := by omega
   simp [hneg, c0]
  ·have hbj := numsD B j (by omega)
   have c1 : ¬ (j : Int) < 0 := by omega
   have c2 : (0 : Int) ≤ (s : Int) := by omega
   have c3 : ¬ (j : Int) = 0 := by omega
   have c4 : ¬ (l.length : Int) ≤ (j : Int) := by omega
   have c5 : (0 : Int) ≤ (j : Int) := by omega
   have c6 : (j : Int) < (B.length : Int) := by omega
   have c7 : (j : Int) < (F.length : Int) := by omega
   have c8 : j < B.length := by omega
   have c9 : j < F.length := by omega
   have c10 : ¬ l.length ≤ j := by omega
   by_cases hb : B.getD j 0 = 0
   ·have hO' := hO.put hj s1 hx hb hsy
    have hi' := ih _ _ hO'
    rw [List.map_set, List.map_set] at hi'
    simp only [t_law17_AutoOne_r14, wsucc (j := s) (by omega), Int.toNat_natCast, hv, int_i, hx, hbj, hb, hi', hle, hle2, List.length_map]
    have c0 : ¬ (s : Int) = 0 := by omega
    simp [c1, c2, c3, c4, c5, c6, c7, c8, c9, c10, hrl, -List.getD_eq_getElem?_getD]
    omega
   ·have hbs : B.getD j 0 = (s : Int) := by
     rcases hO.ok j hj with q | ⟨q, _⟩
     ·exact absurd q hb
     ·exact isSym_uniq q hsy
    have hO' := hO.next fun j' hj' _ _ hx' => by
     have : j' = j := by omega
     subst this
     exact hb
    have c0 : ¬ (s : Int) = 0 := by omega
    simp only [t_law17_AutoOne_r14, wsucc (j := s) (by omega), Int.toNat_natCast, hv, int_i, hx, hbj, hbs, ih B F hO', hle, hle2, List.length_map]
    have s0 : s ≠ 0 := by omega
    simp [j0, s0, c0, c1, c2, c3, c4, c5, c6, c7, c8, c9, c10, hrl, -List.getD_eq_getElem?_getD]
    omega
theorem one11 : ∀ i, i ≤ l.length → ∀ B F : List Int, On g l i 0 B F → L_law17_AutoOne_r11 (g.rules.map Rul.av) (g.nonts.map AV.s) (g.levels.map itemAV) (g.prods.map Prd.av) g.start (l.map St.av) (B.map (AV.i .i64)) (F.map (AV.i .i64)) (l.length : Int) (i : Int) = some [.b true] := by
 refine upTo _ ?_ fun i hi ih => ?_
 ·intro B F hO
  have h25 := one25 g hu l hB hl B F ⟨hO.lb, hO.lf, fun j j1 j2 => by
   obtain ⟨i', i1, i2, t, t1, t2, hx⟩ := hB.pre j j1 j2
   obtain ⟨q1, q2⟩ := hO.did j j2 i' t t1 t2 (.inl i1) hx
   rcases hO.ok j j2 with q | ⟨q, _⟩
   ·exact absurd q q1
   ·exact ⟨q, q1, by omega⟩⟩ 1 hB.pos (Nat.le_refl _)
  rw [show ((1 : Nat) : Int) = 1 from rfl] at h25
  apply d_law17_AutoOne_r11
  simp only [t_law17_AutoOne_r11, h25]
  simp
 ·intro B F hO
  have h14 := one14 g hu l hB hl i hi ih 0 (by omega) B F hO
  have hrl : (l.getD i default).nx.length = alls g + 1 := (hB.rows i hi).len
  rw [show ((0 : Nat) : Int) = 0 from rfl] at h14
  apply d_law17_AutoOne_r11
  simp only [t_law17_AutoOne_r11, Int.toNat_natCast, st_at l i hi, av_x, list_l, List.length_map, hrl, h14]
  simp [hi]
end
section
variable (hw : D law17_wakes [] = some [.b true])
include hw
theorem AutoOne_D (g : Gr) : D law17_AutoOne [g.av] = some [.b true] := by
 obtain ⟨b, h1, h2⟩ := heavy1 g
 apply d_law17_AutoOne
 cases b with
 | true => simp [t_law17_AutoOne, hw, h1]
 | false =>
  have b1 := build1 g
  obtain ⟨l, e, hb, hc⟩ := built_is g
  rw [hb] at b1
  rcases hc with ⟨rfl, hu, hB, hl⟩ | ⟨he, rfl⟩
  ·have hO : On g l 0 0 (List.replicate l.length 0) (List.replicate l.length 0) := by
    refine ⟨by simp, by simp, fun j hj => .inl ?_, fun j hj i' t _ _ hc => by omega⟩
    simp [List.getD_eq_getElem?_getD, hj]
   have h11 := one11 g hu l hB hl 0 (by omega) _ _ hO
   rw [List.map_replicate, show ((0 : Nat) : Int) = 0 from rfl] at h11
   have hz : (l.length : Int) ≤ 16777216 := by omega
   simp only [t_law17_AutoOne, hw, h1, b1, Option.bind_some, List.headD_cons, List.tail_cons, bool_b, list_l, int_i, List.length_map, Int.toNat_natCast, h11]
   simp [hz]
  ·simp [t_law17_AutoOne, hw, h1, b1, he]
end
end Go.Proofs.YteklakapimggeaaGreatDoor.Den
